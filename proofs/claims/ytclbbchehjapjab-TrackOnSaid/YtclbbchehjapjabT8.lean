/- Ytclbbchehjapjab: the boxes of all trackers but one. -/
import Derived.Test.YtclbbchehjapjabT6
import Derived.Test.YtclbbchehjapjabT7
set_option linter.all false
namespace Go.Proofs.Ytclbbchehjapjab
open Go.Vc Go.Tk
set_option maxRecDepth 100000
theorem others11_c (x i : Int) (b ty : Nat) (fr : Nat × Nat) (w : World) (hb : w.heap[b]? = some (.cells #[.int .i64 i] ty fr)) : FnP Try.prog 64 [.int .i64 x, .pointer (some ⟨b, 0, none⟩)] w (.bool (decide (x ≠ i))) := by
  refine fn_pure Try.func64 rfl (by kernel_rfl) Try.ntmps64 Try.results64 rfl ?_
  refine V_seq (V_region rfl ?_)
  refine L_go rfl (X_p (p_assign rfl rfl) ?_)
  refine L_then (.cons (k := 0) rfl (.cons (k := 1) rfl .nil)) ?_
  refine V_seq (V_region rfl ?_)
  refine L_go rfl (X_p (p_move rfl rfl) ?_)
  refine L_go rfl (X_rd (r_loadB ag3 rfl rfl (own_cell hb 0) List.not_mem_nil) ?_)
  refine L_go rfl (X_p (p_neq rfl rfl rfl) ?_)
  refine L_go rfl (X_p (p_assign rfl rfl) ?_)
  refine L_then (.cons (k := 3) rfl .nil) ?_
  refine V_ret ?_
  refine Leave.nil (.tmp rfl .nil) ?_
  simp [tup]
theorem others_c (t : Task) (tv pv : Value) (u now : Int) (w : World) : FnC Try.prog 36 [.agg #[.int .i64 t.frm, .int .i64 t.speed, .int .i64 t.accel, tv, pv], .int .i64 u, .int .i64 now] w fun v w' => ∃ Hc, Vc.Good w [] Hc w' ∧ ∃ c1 c2 c3, v = .func (.func 63) #[] #[.pointer (some ⟨c1, 0, none⟩), .pointer (some ⟨c2, 0, none⟩), .pointer (some ⟨c3, 0, none⟩)] ∧ Hc = [(c2, .cells #[.int .i64 now] 3), (c3, .cells #[.int .i64 u] 3), (c1, t.obj tv pv 25)] := by
  refine fn_new Try.func36 rfl (by kernel_rfl) Try.ntmps36 Try.results36 rfl ?_
  refine V_seq (V_region rfl ?_)
  refine L_go rfl (X_wr (w_box rfl rfl) ?_)
  rintro _ _ ⟨b1, hb1, rfl, rfl⟩
  refine L_go rfl (X_wr (w_box rfl rfl) ?_)
  rintro _ _ ⟨b2, hb2, rfl, rfl⟩
  refine L_go rfl (X_wr (w_box rfl rfl) ?_)
  rintro _ _ ⟨b3, hb3, rfl, rfl⟩
  refine L_go rfl (X_p (p_assign rfl rfl) ?_)
  refine L_then (.cons (k := 3) rfl (.cons (k := 4) rfl (.cons (k := 5) rfl .nil))) ?_
  refine V_seq (V_region rfl ?_)
  refine L_go rfl (X_p (p_func rfl rfl rfl) ?_)
  refine L_go rfl (X_p (p_assign rfl rfl) ?_)
  refine L_then (.cons (k := 6) rfl .nil) ?_
  refine V_ret ?_
  refine Leave.nil (.tmp rfl .nil) ?_
  exact ⟨_, HSub.refl _, _, _, _, rfl, rfl⟩
theorem others1_c (t : Task) (hG : GoodT t) (u now : Int) (hu : 0 ≤ u ∧ u ≤ 100000) (w0 : World) (l c1 c2 c3 : Nat) (ta : Option Addr) (tc : Nat) (pv : Value) (I : List (List Value) → Heap → Prop) (hT : TaskR w0 (.agg #[.int .i64 t.frm, .int .i64 t.speed, .int .i64 t.accel, .slice ta t.trackers.length tc, pv]) t) (hY : RoundOk Try.prog w0 [] l (fun done x => done.length < t.trackers.length ∧ ∃ p : Int × Box, x = ov p) I) (hI : ∀ done Hs, I done Hs → (c1, t.obj (.slice ta t.trackers.length tc) pv 25) ∈ Hs ∧ (c2, Obj.cells #[.int .i64 now] 3) ∈ Hs ∧ (c3, Obj.cells #[.int .i64 u] 3) ∈ Hs) (w : World) (Hs0 : Heap) (h0 : I [] Hs0) (hg0 : Vc.Good w0 [] Hs0 w) : FnC Try.prog 63 [.func (.yield l) #[] #[], .pointer (some ⟨c1, 0, none⟩), .pointer (some ⟨c2, 0, none⟩), .pointer (some ⟨c3, 0, none⟩)] w fun _ w' => ∃ Hs, Vc.Good w0 [] Hs w' ∧ I ((othersV t u now t.trackers.length).map ov) Hs := by
  have htl := hG.h1
  obtain ⟨hm1, hm2, hm3⟩ := hI _ _ h0
  refine fn_over (M := []) (H0 := Hs0) Try.func63 rfl (by kernel_rfl) Try.ntmps63 Try.results63 rfl hg0 ?_
  refine V_seq (V_region rfl ?_)
  refine L_go rfl (X_p (p_fieldo fo25_3 rfl rfl) ?_)
  refine L_go rfl (X_rd (r_load ag22 rfl rfl (by repeat first | exact hm1 | exact (List.mem_append_right _ hm1) | exact hm2 | exact (List.mem_append_right _ hm2) | exact hm3 | exact (List.mem_append_right _ hm3) | exact mH | apply mT) rfl) ?_)
  refine L_go rfl (X_p (p_len isl22 rfl rfl) ?_)
  refine L_go rfl (X_p (p_move rfl rfl) ?_)
  refine L_then (.cons (k := 0) rfl (.cons (k := 1) rfl (.cons (k := 2) rfl (.cons (k := 3) rfl (.cons (k := 10) rfl (.cons (k := 11) rfl .nil)))))) ?_
  refine V_block ?_
  refine V_loop1 (γ := Int × Heap) (.cons (k := 0) rfl (.cons (k := 1) rfl (.cons (k := 2) rfl (.cons (k := 3) rfl (.cons (k := 10) rfl .nil))))) (fun (k, Hs) => [(11, .int .i64 k)]) (fun (k, Hs) => Hs) (fun (k, Hs) => 0 ≤ k ∧ k ≤ t.trackers.length ∧ I ((othersV t u now k.toNat).map ov) Hs) (fun (k, Hs) => (t.trackers.length - k).toNat) ((0, Hs0)) (.cons rfl (.nil _)) (by repeat (first | exact List.Sublist.refl _ | apply List.Sublist.cons_cons | apply List.Sublist.cons)) (⟨by omega, by omega, h0⟩) ?_
  rintro ⟨k, Hs⟩ hi
  obtain ⟨hk0, hk1, hik⟩ := hi
  obtain ⟨hm1, hm2, hm3⟩ := hI _ _ hik
  refine V_seq (V_region rfl ?_)
  refine L_go rfl (X_p (p_lss rfl rfl rfl) ?_)
  refine L_then (.cons (k := 0) rfl (.cons (k := 1) rfl (.cons (k := 2) rfl (.cons (k := 3) rfl (.cons (k := 10) rfl (.cons (k := 11) rfl (.cons (k := 12) rfl .nil))))))) ?_
  refine V_seq ?_
  refine V_cond rfl ?_ ?_
  · intro c1; try simp only [td] at c1
    refine V_skip (then_n ?_)
    refine V_seq ?_
    refine V_block ?_
    refine V_seq (V_region rfl ?_)
    refine L_go rfl (X_p (p_move rfl rfl) ?_)
    refine L_go rfl (X_wr (w_alloc zr3 rfl) ?_)
    rintro _ _ ⟨b1, hb1, rfl, rfl⟩
    refine L_go rfl (X_wr (w_store (cs' := [_]) sz3 rfl rfl rfl rfl rfl (by repeat first | exact .head | apply SetAt.tail) (Nat.le_of_ble_eq_true rfl) rfl) ?_)
    rintro _ _ ⟨rfl, rfl⟩
    refine L_then (.cons (k := 0) rfl (.cons (k := 1) rfl (.cons (k := 2) rfl (.cons (k := 3) rfl (.cons (k := 5) rfl (.cons (k := 10) rfl (.cons (k := 11) rfl .nil))))))) ?_
    refine V_mid (γ := Nat) (.cons (k := 0) rfl (.cons (k := 1) rfl (.cons (k := 2) rfl (.cons (k := 3) rfl (.cons (k := 5) rfl (.cons (k := 10) rfl (.cons (k := 11) rfl .nil))))))) (fun x6 => [(6, .pointer (some ⟨x6, 0, none⟩)), (7, .bool (boxT t (byT t now (fun x => decide (x ≠ k))) u).isSome)]) (fun x6 => (x6, .cells (Box.cells ((boxT t (byT t now (fun x => decide (x ≠ k))) u).getD boxZ)).toArray 34) :: (b1, .cells #[.int .i64 k] 3) :: Hs) (fun x6 => True) ?_ ?_
    · refine V_draw (.rd 0 (.rd 1 (.rd 2 (.rd 4 (.wr2 3 [4] (.wr2 5 [2, 1, 0] (.rd 6 (.rd 7 (.rd 8 (.wr 9 [8, 7, 6, 4, 2, 1, 0] (.wr 10 [8] (.rd 11 .done)))))) 9 [4, 2, 1, 0] (.wr 5 [2, 1, 0] (.rd 6 (.rd 7 (.rd 8 (.wr 10 [8] (.rd 11 .done))))))) 9 [4, 2, 1, 0] (.wr 3 [4] (.wr 5 [2, 1, 0] (.rd 6 (.rd 7 (.rd 8 (.wr 10 [8] (.rd 11 .done)))))))))))) mixed (by kernel_rfl) rfl ?_
      refine D_rd rfl (.plain rfl) (r_loadA (vs := [_, _, _, _, _]) ag25 sz25 rfl rfl (by repeat first | exact hm1 | exact (List.mem_append_right _ hm1) | exact hm2 | exact (List.mem_append_right _ hm2) | exact hm3 | exact (List.mem_append_right _ hm3) | exact mH | apply mT) rfl) ?_
      refine D_rd rfl (.plain rfl) (r_load ag3 rfl rfl (by repeat first | exact hm1 | exact (List.mem_append_right _ hm1) | exact hm2 | exact (List.mem_append_right _ hm2) | exact hm3 | exact (List.mem_append_right _ hm3) | exact mH | apply mT) rfl) ?_
      refine D_p rfl (.plain rfl) (p_func rfl rfl rfl) ?_
      refine D_rd rfl (.plain rfl) (r_load ag3 rfl rfl (by repeat first | exact hm1 | exact (List.mem_append_right _ hm1) | exact hm2 | exact (List.mem_append_right _ hm2) | exact hm3 | exact (List.mem_append_right _ hm3) | exact mH | apply mT) rfl) ?_
      refine D_wr2 rfl ?_ ?_
      · refine (.go (E' := [(4, _)]) rfl (.plain rfl) (w_callG (pre := [_]) rfl rfl rfl rfl (fun w hg => pickOf_c t hG _ _ now (fun x => decide (x ≠ k)) _ _ w (hT.good hg) (fun x w' he => others11_c x k b1 _ _ w' (he.heap (hg.own (b1, _) (by repeat first | exact hm1 | exact (List.mem_append_right _ hm1) | exact hm2 | exact (List.mem_append_right _ hm2) | exact hm3 | exact (List.mem_append_right _ hm3) | exact mH | apply mT)))))) rfl ?_)
        rintro _ _ ⟨_, G, rfl, hfr, bp, bm, sv, clk, rfl, rfl, hgr⟩
        try simp only [List.cons_append, List.nil_append, List.append_nil]
        refine ⟨(.cons rfl (.plain rfl) (r_load ag3 rfl rfl (by repeat first | exact hm1 | exact (List.mem_append_right _ hm1) | exact hm2 | exact (List.mem_append_right _ hm2) | exact hm3 | exact (List.mem_append_right _ hm3) | exact mH | apply mT) rfl) .nil), ?_⟩
        refine D_wr2 rfl ?_ ?_
        · refine (.go (E' := []) rfl (.plain rfl) (w_callM rfl rfl rfl (fun o' => (by repeat first | exact .head | apply SetAt.tail)) (fun w hg => box_c bp bm #[] clk t _ u hu w (PickR.own hg hG hT (hfr _ (.tail _ (.head _))) (by repeat first | exact hm1 | exact (List.mem_append_right _ hm1) | exact hm2 | exact (List.mem_append_right _ hm2) | exact hm3 | exact (List.mem_append_right _ hm3) | exact mH | apply mT) (by repeat first | exact hm1 | exact (List.mem_append_right _ hm1) | exact hm2 | exact (List.mem_append_right _ hm2) | exact hm3 | exact (List.mem_append_right _ hm3) | exact mH | apply mT) (fun p hp => by repeat first | exact hp | exact List.mem_append_left _ hp | apply List.mem_append_right | apply mT) hgr) (Cache.nil _ _) (hg.own (bm, _) (by repeat first | exact hm1 | exact (List.mem_append_right _ hm1) | exact hm2 | exact (List.mem_append_right _ hm2) | exact hm3 | exact (List.mem_append_right _ hm3) | exact mH | apply mT)))) rfl ?_)
          rintro _ _ ⟨_, rfl, rfl, es2, clk2, rfl, _⟩
          refine ⟨.nil, ?_⟩
          refine D_p rfl (.plain rfl) (p_move rfl rfl) ?_
          refine D_p rfl (.plain rfl) (p_ext rfl rfl rfl) ?_
          refine D_p rfl (.plain rfl) (p_ext rfl rfl rfl) ?_
          refine D_wr (.go (E' := []) rfl (.plain rfl) (w_alloc zr34 rfl) rfl ?_)
          rintro _ _ ⟨b3, hb3, rfl, rfl⟩
          refine ⟨.nil, ?_⟩
          refine D_wr (.go (E' := []) rfl (.plain rfl) (w_store (cs' := [_, _, _, _, _, _, _, _, _, _, _, _, _]) sz34 rfl rfl rfl rfl rfl (by repeat first | exact .head | apply SetAt.tail) (Nat.le_of_ble_eq_true rfl) rfl) rfl ?_)
          rintro _ _ ⟨rfl, rfl⟩
          refine ⟨.nil, ?_⟩
          refine D_p rfl (.plain rfl) (p_assign rfl rfl) ?_
          refine D_then (.cons (k := 0) rfl (.cons (k := 1) rfl (.cons (k := 2) rfl (.cons (k := 3) rfl (.cons (k := 5) rfl (.cons (k := 6) rfl (.cons (k := 7) rfl (.cons (k := 10) rfl (.cons (k := 11) rfl .nil))))))))) ?_
          refine ⟨b3, trivial, (.cons rfl (.cons rfl (.cons rfl (.cons rfl (.cons rfl (.cons rfl (.cons rfl (.cons rfl (.cons rfl (.nil _)))))))))), (by (try dsimp only); repeat (first | exact HSub.nil _ | refine HSub.take (by repeat first | exact Take.head | apply Take.tail) ?_ | exact HSub.refl _ | refine HSub.drop ?_ | refine HSub.app ?_)), rfl⟩
        · refine (.go (E' := [(4, _)]) rfl (.plain rfl) (w_alloc zr34 rfl) rfl ?_)
          rintro _ _ ⟨b3, hb3, rfl, rfl⟩
          refine ⟨(.cons rfl (.plain rfl) (r_load ag3 rfl rfl (by repeat first | exact hm1 | exact (List.mem_append_right _ hm1) | exact hm2 | exact (List.mem_append_right _ hm2) | exact hm3 | exact (List.mem_append_right _ hm3) | exact mH | apply mT) rfl) .nil), ?_⟩
          refine D_wr (.go (E' := []) rfl (.plain rfl) (w_callM rfl rfl rfl (fun o' => (by repeat first | exact .head | apply SetAt.tail)) (fun w hg => box_c bp bm #[] clk t _ u hu w (PickR.own hg hG hT (hfr _ (.tail _ (.head _))) (by repeat first | exact hm1 | exact (List.mem_append_right _ hm1) | exact hm2 | exact (List.mem_append_right _ hm2) | exact hm3 | exact (List.mem_append_right _ hm3) | exact mH | apply mT) (by repeat first | exact hm1 | exact (List.mem_append_right _ hm1) | exact hm2 | exact (List.mem_append_right _ hm2) | exact hm3 | exact (List.mem_append_right _ hm3) | exact mH | apply mT) (fun p hp => by repeat first | exact hp | exact List.mem_append_left _ hp | apply List.mem_append_right | apply mT) hgr) (Cache.nil _ _) (hg.own (bm, _) (by repeat first | exact hm1 | exact (List.mem_append_right _ hm1) | exact hm2 | exact (List.mem_append_right _ hm2) | exact hm3 | exact (List.mem_append_right _ hm3) | exact mH | apply mT)))) rfl ?_)
          rintro _ _ ⟨_, rfl, rfl, es2, clk2, rfl, _⟩
          refine ⟨.nil, ?_⟩
          refine D_p rfl (.plain rfl) (p_move rfl rfl) ?_
          refine D_p rfl (.plain rfl) (p_ext rfl rfl rfl) ?_
          refine D_p rfl (.plain rfl) (p_ext rfl rfl rfl) ?_
          refine D_wr (.go (E' := []) rfl (.plain rfl) (w_store (cs' := [_, _, _, _, _, _, _, _, _, _, _, _, _]) sz34 rfl rfl rfl rfl rfl (by repeat first | exact .head | apply SetAt.tail) (Nat.le_of_ble_eq_true rfl) rfl) rfl ?_)
          rintro _ _ ⟨rfl, rfl⟩
          refine ⟨.nil, ?_⟩
          refine D_p rfl (.plain rfl) (p_assign rfl rfl) ?_
          refine D_then (.cons (k := 0) rfl (.cons (k := 1) rfl (.cons (k := 2) rfl (.cons (k := 3) rfl (.cons (k := 5) rfl (.cons (k := 6) rfl (.cons (k := 7) rfl (.cons (k := 10) rfl (.cons (k := 11) rfl .nil))))))))) ?_
          refine ⟨b3, trivial, (.cons rfl (.cons rfl (.cons rfl (.cons rfl (.cons rfl (.cons rfl (.cons rfl (.cons rfl (.cons rfl (.nil _)))))))))), (by (try dsimp only); repeat (first | exact HSub.nil _ | refine HSub.take (by repeat first | exact Take.head | apply Take.tail) ?_ | exact HSub.refl _ | refine HSub.drop ?_ | refine HSub.app ?_)), rfl⟩
      · refine (.go (E' := [(4, _), (1, _), (0, _)]) rfl (.plain rfl) (w_alloc zr34 rfl) rfl ?_)
        rintro _ _ ⟨b2, hb2, rfl, rfl⟩
        refine ⟨(.cons rfl (.plain rfl) (r_load ag3 rfl rfl (by repeat first | exact hm1 | exact (List.mem_append_right _ hm1) | exact hm2 | exact (List.mem_append_right _ hm2) | exact hm3 | exact (List.mem_append_right _ hm3) | exact mH | apply mT) rfl) (.cons rfl (.plain rfl) (r_load ag3 rfl rfl (by repeat first | exact hm1 | exact (List.mem_append_right _ hm1) | exact hm2 | exact (List.mem_append_right _ hm2) | exact hm3 | exact (List.mem_append_right _ hm3) | exact mH | apply mT) rfl) (.cons rfl (.plain rfl) (r_loadA (vs := [_, _, _, _, _]) ag25 sz25 rfl rfl (by repeat first | exact hm1 | exact (List.mem_append_right _ hm1) | exact hm2 | exact (List.mem_append_right _ hm2) | exact hm3 | exact (List.mem_append_right _ hm3) | exact mH | apply mT) rfl) .nil))), ?_⟩
        refine D_wr (.go (E' := [(4, _)]) rfl (.plain rfl) (w_callG (pre := [_, _]) rfl rfl rfl rfl (fun w hg => pickOf_c t hG _ _ now (fun x => decide (x ≠ k)) _ _ w (hT.good hg) (fun x w' he => others11_c x k b1 _ _ w' (he.heap (hg.own (b1, _) (by repeat first | exact hm1 | exact (List.mem_append_right _ hm1) | exact hm2 | exact (List.mem_append_right _ hm2) | exact hm3 | exact (List.mem_append_right _ hm3) | exact mH | apply mT)))))) rfl ?_)
        rintro _ _ ⟨_, G, rfl, hfr, bp, bm, sv, clk, rfl, rfl, hgr⟩
        try simp only [List.cons_append, List.nil_append, List.append_nil]
        refine ⟨(.cons rfl (.plain rfl) (r_load ag3 rfl rfl (by repeat first | exact hm1 | exact (List.mem_append_right _ hm1) | exact hm2 | exact (List.mem_append_right _ hm2) | exact hm3 | exact (List.mem_append_right _ hm3) | exact mH | apply mT) rfl) .nil), ?_⟩
        refine D_wr (.go (E' := []) rfl (.plain rfl) (w_callM rfl rfl rfl (fun o' => (by repeat first | exact .head | apply SetAt.tail)) (fun w hg => box_c bp bm #[] clk t _ u hu w (PickR.own hg hG hT (hfr _ (.tail _ (.head _))) (by repeat first | exact hm1 | exact (List.mem_append_right _ hm1) | exact hm2 | exact (List.mem_append_right _ hm2) | exact hm3 | exact (List.mem_append_right _ hm3) | exact mH | apply mT) (by repeat first | exact hm1 | exact (List.mem_append_right _ hm1) | exact hm2 | exact (List.mem_append_right _ hm2) | exact hm3 | exact (List.mem_append_right _ hm3) | exact mH | apply mT) (fun p hp => by repeat first | exact hp | exact List.mem_append_left _ hp | apply List.mem_append_right | apply mT) hgr) (Cache.nil _ _) (hg.own (bm, _) (by repeat first | exact hm1 | exact (List.mem_append_right _ hm1) | exact hm2 | exact (List.mem_append_right _ hm2) | exact hm3 | exact (List.mem_append_right _ hm3) | exact mH | apply mT)))) rfl ?_)
        rintro _ _ ⟨_, rfl, rfl, es2, clk2, rfl, _⟩
        refine ⟨.nil, ?_⟩
        refine D_p rfl (.plain rfl) (p_move rfl rfl) ?_
        refine D_p rfl (.plain rfl) (p_ext rfl rfl rfl) ?_
        refine D_p rfl (.plain rfl) (p_ext rfl rfl rfl) ?_
        refine D_wr (.go (E' := []) rfl (.plain rfl) (w_store (cs' := [_, _, _, _, _, _, _, _, _, _, _, _, _]) sz34 rfl rfl rfl rfl rfl (by repeat first | exact .head | apply SetAt.tail) (Nat.le_of_ble_eq_true rfl) rfl) rfl ?_)
        rintro _ _ ⟨rfl, rfl⟩
        refine ⟨.nil, ?_⟩
        refine D_p rfl (.plain rfl) (p_assign rfl rfl) ?_
        refine D_then (.cons (k := 0) rfl (.cons (k := 1) rfl (.cons (k := 2) rfl (.cons (k := 3) rfl (.cons (k := 5) rfl (.cons (k := 6) rfl (.cons (k := 7) rfl (.cons (k := 10) rfl (.cons (k := 11) rfl .nil))))))))) ?_
        refine ⟨b2, trivial, (.cons rfl (.cons rfl (.cons rfl (.cons rfl (.cons rfl (.cons rfl (.cons rfl (.cons rfl (.cons rfl (.nil _)))))))))), (by (try dsimp only); repeat (first | exact HSub.nil _ | refine HSub.take (by repeat first | exact Take.head | apply Take.tail) ?_ | exact HSub.refl _ | refine HSub.drop ?_ | refine HSub.app ?_)), rfl⟩
    · rintro x6 _
      refine V_seq (V_region rfl ?_)
      refine L_go rfl (X_p (p_move rfl rfl) ?_)
      refine L_go rfl (X_p (p_move rfl rfl) ?_)
      refine L_cases (d := 24) rfl ?_ ?_
      · intro g1; have g1' := g1; try simp only [td] at g1'
        refine L_yes rfl rfl rfl g1 (X_p (p_move rfl rfl) ?_)
        refine L_yes rfl rfl rfl g1 (X_rd (r_load ag3 rfl rfl (by repeat first | exact hm1 | exact (List.mem_append_right _ hm1) | exact hm2 | exact (List.mem_append_right _ hm2) | exact hm3 | exact (List.mem_append_right _ hm3) | exact mH | apply mT) rfl) ?_)
        refine L_yes rfl rfl rfl g1 (X_rd (r_loadA (vs := [_, _, _, _, _, _, _, _, _, _, _, _, _]) ag34 sz34 rfl rfl (by repeat first | exact hm1 | exact (List.mem_append_right _ hm1) | exact hm2 | exact (List.mem_append_right _ hm2) | exact hm3 | exact (List.mem_append_right _ hm3) | exact mH | apply mT) rfl) ?_)
        refine L_yes rfl rfl rfl g1 (X_wr (w_yield (own := [_, _]) rfl rfl rfl hY ⟨Nat.lt_of_le_of_lt othersV_len (by omega), (k, (boxT t (byT t now (fun x => decide (x ≠ k))) u).getD boxZ), rfl⟩ hik rfl) ?_)
        rintro _ _ ⟨Hs1, rfl, rfl, hI1⟩; obtain ⟨hm1, hm2, hm3⟩ := hI _ _ hI1
        refine L_yes rfl rfl rfl g1 (X_p (p_not rfl rfl) ?_)
        refine L_go rfl (X_p (p_pick_t rfl rfl g1 rfl) ?_)
        refine L_then (.cons (k := 0) rfl (.cons (k := 1) rfl (.cons (k := 2) rfl (.cons (k := 3) rfl (.cons (k := 10) rfl (.cons (k := 11) rfl (.cons (k := 30) rfl .nil))))))) ?_
        refine V_cond_f rfl rfl ?_
        refine V_skip (blk_n (then_n ?_))
        refine V_region rfl ?_
        first | refine L_go rfl (X_p (p_add' rfl rfl rfl (by unfold InI; omega)) ?_) | refine L_go rfl (X_p (p_add rfl rfl rfl) ?_)
        refine L_go rfl (X_p (p_move rfl rfl) ?_)
        refine L_keep (.cons (k := 0) rfl (.cons (k := 1) rfl (.cons (k := 2) rfl (.cons (k := 3) rfl (.cons (k := 10) rfl (.cons (k := 11) rfl .nil)))))) (then_n ?_)
        refine ⟨(k + 1, Hs1), ?_, ?_, (.cons rfl (.cons rfl (.cons rfl (.cons rfl (.cons rfl (.cons rfl (.nil _))))))), (by repeat (first | exact List.Sublist.refl _ | apply List.Sublist.cons_cons | apply List.Sublist.cons | apply List.sublist_append_of_sublist_right)), rfl⟩
        · refine ⟨by omega, by omega, ?_⟩
          rw [othersV_yes hk0 (isSome_get g1), List.map_append]; exact hI1
        · dsimp only; omega
      · intro g1; have g1' := g1; try simp only [td] at g1'
        refine L_no rfl rfl rfl g1 ?_
        refine L_no rfl rfl rfl g1 ?_
        refine L_no rfl rfl rfl g1 ?_
        refine L_no rfl rfl rfl g1 ?_
        refine L_no rfl rfl rfl g1 ?_
        refine L_go rfl (X_p (p_pick_f rfl rfl g1 rfl) ?_)
        refine L_then (.cons (k := 0) rfl (.cons (k := 1) rfl (.cons (k := 2) rfl (.cons (k := 3) rfl (.cons (k := 10) rfl (.cons (k := 11) rfl (.cons (k := 30) rfl .nil))))))) ?_
        refine V_cond_f rfl rfl ?_
        refine V_skip (blk_n (then_n ?_))
        refine V_region rfl ?_
        first | refine L_go rfl (X_p (p_add' rfl rfl rfl (by unfold InI; omega)) ?_) | refine L_go rfl (X_p (p_add rfl rfl rfl) ?_)
        refine L_go rfl (X_p (p_move rfl rfl) ?_)
        refine L_keep (.cons (k := 0) rfl (.cons (k := 1) rfl (.cons (k := 2) rfl (.cons (k := 3) rfl (.cons (k := 10) rfl (.cons (k := 11) rfl .nil)))))) (then_n ?_)
        refine ⟨(k + 1, Hs), ?_, ?_, (.cons rfl (.cons rfl (.cons rfl (.cons rfl (.cons rfl (.cons rfl (.nil _))))))), (by repeat (first | exact List.Sublist.refl _ | apply List.Sublist.cons_cons | apply List.Sublist.cons | apply List.sublist_append_of_sublist_right)), rfl⟩
        · refine ⟨by omega, by omega, ?_⟩
          rw [othersV_no hk0 (isSome_none g1)]; exact hik
        · dsimp only; omega
  · intro c1; try simp only [td] at c1
    refine V_exit (then_e (then_e (blk_e rfl ?_)))
    refine Leave.nil .nil ?_
    have e : k.toNat = t.trackers.length := by omega
    rw [e] at hik
    exact ⟨Hs, HSub.refl _, hik⟩

end Go.Proofs.Ytclbbchehjapjab
