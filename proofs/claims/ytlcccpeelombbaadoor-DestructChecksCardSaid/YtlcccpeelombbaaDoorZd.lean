/- Joined texts. -/
import Derived.Test.YtlcccpeelombbaaDoorZc
import Derived.Test.YtlcccpeelombbaaDoorZb
/- YtlcccpeelombbaaDoor: falls. -/
set_option linter.all false
namespace Go.Proofs.YtlcccpeelombbaaDoor
open Go.Vc Go.Tk Go.De
set_option maxRecDepth 100000
theorem dfalls_c (b : Box) (g : Span) (w : World) : FnC Tryd.prog 57 [.agg (Box.cells b).toArray, .agg #[.int .i64 g.lo, .int .i64 g.hi]] w fun v w' => ∃ Hc, Vc.Good w [] Hc w' ∧ ∃ c1 c2, v = .func (.func 77) #[] #[.pointer (some ⟨c1, 0, none⟩), .pointer (some ⟨c2, 0, none⟩)] ∧ Hc = [(c2, .cells #[.int .i64 g.lo, .int .i64 g.hi] 24), (c1, .cells (Box.cells b).toArray 33)] := by
  refine fn_new Tryd.func57 rfl (by kernel_rfl) Tryd.ntmps57 Tryd.results57 rfl ?_
  refine V_seq (V_region rfl ?_)
  refine L_go rfl (X_wr (w_box rfl rfl) ?_)
  rintro _ _ ⟨b1, hb1, rfl, rfl⟩
  refine L_go rfl (X_wr (w_box rfl rfl) ?_)
  rintro _ _ ⟨b2, hb2, rfl, rfl⟩
  refine L_go rfl (X_p (p_assign rfl rfl) ?_)
  refine L_then (.cons (k := 2) rfl (.cons (k := 3) rfl .nil)) ?_
  refine V_seq (V_region rfl ?_)
  refine L_go rfl (X_p (p_func rfl rfl rfl) ?_)
  refine L_go rfl (X_p (p_assign rfl rfl) ?_)
  refine L_then (.cons (k := 4) rfl .nil) ?_
  refine V_ret ?_
  refine Leave.nil (.tmp rfl .nil) ?_
  exact ⟨_, HSub.refl _, _, _, rfl, rfl⟩
set_option maxHeartbeats 4000000 in
theorem dfalls1_c (b : Box) (g : Span) (hgr : 1 ≤ g.lo ∧ g.lo ≤ g.hi ∧ g.hi ≤ 200) (w0 : World) (l c1 c2 : Nat) (I E : List (List Value) → Heap → Prop) (hY : RoundX Tryd.prog w0 [] l (fun done x => done.length < 3000 ∧ x = [fallV g b (done.length + 1)]) I E) (hI : ∀ done Hs, I done Hs → (c1, Obj.cells (Box.cells b).toArray 33) ∈ Hs ∧ (c2, Obj.cells #[.int .i64 g.lo, .int .i64 g.hi] 24) ∈ Hs) (hB : ∀ done Hs, I done Hs → FallB done.length (runF g b done.length)) (w : World) (Hs0 : Heap) (h0 : I [] Hs0) (hg0 : Vc.Good w0 [] Hs0 w) : FnC Tryd.prog 77 [.func (.yield l) #[] #[], .pointer (some ⟨c1, 0, none⟩), .pointer (some ⟨c2, 0, none⟩)] w fun _ w' => ∃ Hs, Vc.Good w0 [] Hs w' ∧ ∃ done, (done.length = 3000 ∧ I done Hs) ∨ E done Hs := by
  obtain ⟨hm1, hm2⟩ := hI _ _ h0
  refine fn_over (M := []) (H0 := Hs0) Tryd.func77 rfl (by kernel_rfl) Tryd.ntmps77 Tryd.results77 rfl hg0 ?_
  refine V_seq (V_region rfl ?_)
  refine L_go rfl (X_rd (r_loadA (vs := [_, _, _, _, _, _, _, _, _, _, _, _, _]) ag33 sz33 rfl rfl (by repeat first | exact hm1 | exact hm2 | exact mH | apply mT) rfl) ?_)
  refine L_go rfl (X_p (p_build (r := [_, _, _, _, _, _, _, _, _, _, _, _, _, _]) pl129 zr129 rfl rfl rfl) ?_)
  refine L_go rfl (X_wr (w_alloc zr129 rfl) ?_)
  rintro _ _ ⟨b1, hb1, rfl, rfl⟩
  refine L_go rfl (X_wr (w_store (cs' := [_, _, _, _, _, _, _, _, _, _, _, _, _, _]) sz129 rfl rfl rfl rfl rfl (by repeat first | exact .head | apply SetAt.tail) (Nat.le_of_ble_eq_true rfl) rfl) ?_)
  rintro _ _ ⟨rfl, rfl⟩
  refine L_then (.cons (k := 0) rfl (.cons (k := 2) rfl (.cons (k := 4) rfl .nil))) ?_
  refine V_seq (V_region rfl ?_)
  refine L_go rfl (X_p (p_move rfl rfl) ?_)
  refine L_then (.cons (k := 0) rfl (.cons (k := 2) rfl (.cons (k := 4) rfl (.cons (k := 7) rfl .nil)))) ?_
  refine V_block ?_
  refine V_loop1 (γ := Nat × Heap) (.cons (k := 0) rfl (.cons (k := 2) rfl (.cons (k := 4) rfl .nil))) (fun (n, Hs) => [(7, .int .i64 (n : Int))]) (fun (n, Hs) => (b1, .cells #[.int .i64 (runF g b n).at_, .int .i64 (runF g b n).x.lo, .int .i64 (runF g b n).x.hi, .int .i64 (runF g b n).y.lo, .int .i64 (runF g b n).y.hi, .int .i64 (runF g b n).z.lo, .int .i64 (runF g b n).z.hi, .int .i64 (runF g b n).vx.lo, .int .i64 (runF g b n).vx.hi, .int .i64 (runF g b n).vy.lo, .int .i64 (runF g b n).vy.hi, .int .i64 (runF g b n).vz.lo, .int .i64 (runF g b n).vz.hi, .int .i64 (n : Int)] 129) :: Hs) (fun (n, Hs) => n ≤ 3000 ∧ I (fallsV g b n) Hs) (fun (n, Hs) => 3000 - n) ((0, Hs0)) (.cons rfl (.nil _)) (by repeat (first | exact List.Sublist.refl _ | apply List.Sublist.cons_cons | apply List.Sublist.cons)) (⟨by omega, h0⟩) ?_
  rintro ⟨n, Hs⟩ hi
  obtain ⟨hn, hik⟩ := hi
  dsimp only at hn hik ⊢
  have hbn := hB _ _ hik
  rw [fallsV_len] at hbn
  obtain ⟨n0, n1, n2, n3, n4, n5, n6⟩ := hbn
  obtain ⟨hm1, hm2⟩ := hI _ _ hik
  refine V_seq (V_region rfl ?_)
  refine L_go rfl (X_p (p_lss rfl rfl rfl) ?_)
  refine L_then (.cons (k := 0) rfl (.cons (k := 2) rfl (.cons (k := 4) rfl (.cons (k := 7) rfl (.cons (k := 8) rfl .nil))))) ?_
  refine V_seq ?_
  refine V_cond rfl ?_ ?_
  · intro c1; try simp only [td] at c1
    refine V_skip (then_n ?_)
    refine V_seq ?_
    refine V_block ?_
    refine V_seq (V_region rfl ?_)
    refine L_go rfl (X_p (p_fieldo fo129_1 rfl rfl) ?_)
    refine L_go rfl (X_rd (r_load ag3 rfl rfl (by repeat first | exact hm1 | exact hm2 | exact mH | apply mT) rfl) ?_)
    first | refine L_go rfl (X_p (p_add' rfl rfl rfl (by unfold InI; omega)) ?_) | refine L_go rfl (X_p (p_add rfl rfl rfl) ?_)
    refine L_go rfl (X_p (p_fieldo fo129_1 rfl rfl) ?_)
    refine L_go rfl (X_wr (w_store (cs' := [_, _, _, _, _, _, _, _, _, _, _, _, _, _]) sz3 rfl rfl rfl rfl rfl (by repeat first | exact .head | apply SetAt.tail) (Nat.le_of_ble_eq_true rfl) rfl) ?_)
    rintro _ _ ⟨rfl, rfl⟩
    refine L_then (.cons (k := 0) rfl (.cons (k := 2) rfl (.cons (k := 4) rfl (.cons (k := 7) rfl .nil)))) ?_
    refine V_seq (V_draw (.rd 0 (.rd 1 (.rd 2 (.rd 3 (.rd 4 (.rd 5 (.rd 7 (.rd 8 (.rd 9 (.rd 10 (.rd 11 (.rd 12 (.rd 14 (.rd 15 (.rd 16 (.rd 17 (.rd 18 (.rd 19 (.wr 6 [19, 18, 17, 16, 15, 14, 12, 11, 10, 9, 8, 7, 4, 3, 1, 0] (.rd 21 (.rd 22 (.wr 13 [22, 21, 19, 18, 17, 16, 15, 14, 11, 10, 8, 7, 5, 4, 3, 2, 1, 0] (.wr 20 [22, 21, 18, 17, 15, 14, 12, 11, 10, 9, 8, 7, 5, 4, 3, 2, 1, 0] (.wr 23 [21] (.rd 24 (.rd 25 (.wr 26 [24] (.rd 27 (.rd 28 (.wr 29 [27] .done)))))))))))))))))))))))))))))) mixed (by kernel_rfl) rfl ?_)
    refine D_p rfl (.plain rfl) (p_fieldo fo129_0 rfl rfl) ?_
    refine D_p rfl (.plain rfl) (p_fieldo fo33_1 rfl rfl) ?_
    refine D_rd rfl (.plain rfl) (r_loadA (vs := [_, _]) ag24 sz24 rfl rfl (by repeat first | exact hm1 | exact hm2 | exact mH | apply mT) rfl) ?_
    refine D_p rfl (.plain rfl) (p_fieldo fo129_0 rfl rfl) ?_
    refine D_p rfl (.plain rfl) (p_fieldo fo33_4 rfl rfl) ?_
    refine D_rd rfl (.plain rfl) (r_loadA (vs := [_, _]) ag24 sz24 rfl rfl (by repeat first | exact hm1 | exact hm2 | exact mH | apply mT) rfl) ?_
    refine D_p rfl (.plain rfl) (p_fieldo fo129_0 rfl rfl) ?_
    refine D_p rfl (.plain rfl) (p_fieldo fo33_2 rfl rfl) ?_
    refine D_rd rfl (.plain rfl) (r_loadA (vs := [_, _]) ag24 sz24 rfl rfl (by repeat first | exact hm1 | exact hm2 | exact mH | apply mT) rfl) ?_
    refine D_p rfl (.plain rfl) (p_fieldo fo129_0 rfl rfl) ?_
    refine D_p rfl (.plain rfl) (p_fieldo fo33_5 rfl rfl) ?_
    refine D_rd rfl (.plain rfl) (r_loadA (vs := [_, _]) ag24 sz24 rfl rfl (by repeat first | exact hm1 | exact hm2 | exact mH | apply mT) rfl) ?_
    refine D_p rfl (.plain rfl) (p_fieldo fo129_0 rfl rfl) ?_
    refine D_p rfl (.plain rfl) (p_fieldo fo33_3 rfl rfl) ?_
    refine D_rd rfl (.plain rfl) (r_loadA (vs := [_, _]) ag24 sz24 rfl rfl (by repeat first | exact hm1 | exact hm2 | exact mH | apply mT) rfl) ?_
    refine D_p rfl (.plain rfl) (p_fieldo fo129_0 rfl rfl) ?_
    refine D_p rfl (.plain rfl) (p_fieldo fo33_6 rfl rfl) ?_
    refine D_rd rfl (.plain rfl) (r_loadA (vs := [_, _]) ag24 sz24 rfl rfl (by repeat first | exact hm1 | exact hm2 | exact mH | apply mT) rfl) ?_
    refine D_wr (.go (E' := [(19, _), (16, _), (12, _), (9, _)]) rfl (.plain rfl) (w_callP rfl rfl rfl (fun w hg => dsum_c _ _ (by omega) w)) rfl ?_)
    rintro _ _ ⟨rfl, rfl⟩
    refine ⟨(.cons rfl (.plain rfl) (r_loadA (vs := [_, _]) ag24 sz24 rfl rfl (by repeat first | exact hm1 | exact hm2 | exact mH | apply mT) rfl) (.cons rfl (.plain rfl) (r_loadA (vs := [_, _]) ag24 sz24 rfl rfl (by repeat first | exact hm1 | exact hm2 | exact mH | apply mT) rfl) (.cons rfl (.plain rfl) (r_loadA (vs := [_, _]) ag24 sz24 rfl rfl (by repeat first | exact hm1 | exact hm2 | exact mH | apply mT) rfl) (.cons rfl (.plain rfl) (r_loadA (vs := [_, _]) ag24 sz24 rfl rfl (by repeat first | exact hm1 | exact hm2 | exact mH | apply mT) rfl) .nil)))), ?_⟩
    refine D_p rfl (.plain rfl) (p_fieldo fo129_0 rfl rfl) ?_
    refine D_p rfl (.plain rfl) (p_fieldo fo33_1 rfl rfl) ?_
    refine D_wr (.go (E' := [(19, _), (16, _)]) rfl (.plain rfl) (w_callP rfl rfl rfl (fun w hg => dsum_c _ _ (by omega) w)) rfl ?_)
    rintro _ _ ⟨rfl, rfl⟩
    refine ⟨(.cons rfl (.plain rfl) (r_loadA (vs := [_, _]) ag24 sz24 rfl rfl (by repeat first | exact hm1 | exact hm2 | exact mH | apply mT) rfl) (.cons rfl (.plain rfl) (r_loadA (vs := [_, _]) ag24 sz24 rfl rfl (by repeat first | exact hm1 | exact hm2 | exact mH | apply mT) rfl) .nil)), ?_⟩
    refine D_wr (.go (E' := []) rfl (.plain rfl) (w_callP rfl rfl rfl (fun w hg => dsum_c _ _ (by omega) w)) rfl ?_)
    rintro _ _ ⟨rfl, rfl⟩
    refine ⟨.nil, ?_⟩
    refine D_wr (.go (E' := []) rfl (.plain rfl) (w_store (cs' := [_, _, _, _, _, _, _, _, _, _, _, _, _, _]) sz24 rfl rfl rfl rfl rfl (by repeat first | exact .head | apply SetAt.tail) (Nat.le_of_ble_eq_true rfl) rfl) rfl ?_)
    rintro _ _ ⟨rfl, rfl⟩
    refine ⟨.nil, ?_⟩
    refine D_p rfl (.plain rfl) (p_fieldo fo129_0 rfl rfl) ?_
    refine D_p rfl (.plain rfl) (p_fieldo fo33_2 rfl rfl) ?_
    refine D_wr (.go (E' := []) rfl (.plain rfl) (w_store (cs' := [_, _, _, _, _, _, _, _, _, _, _, _, _, _]) sz24 rfl rfl rfl rfl rfl (by repeat first | exact .head | apply SetAt.tail) (Nat.le_of_ble_eq_true rfl) rfl) rfl ?_)
    rintro _ _ ⟨rfl, rfl⟩
    refine ⟨.nil, ?_⟩
    refine D_p rfl (.plain rfl) (p_fieldo fo129_0 rfl rfl) ?_
    refine D_p rfl (.plain rfl) (p_fieldo fo33_3 rfl rfl) ?_
    refine D_wr (.go (E' := []) rfl (.plain rfl) (w_store (cs' := [_, _, _, _, _, _, _, _, _, _, _, _, _, _]) sz24 rfl rfl rfl rfl rfl (by repeat first | exact .head | apply SetAt.tail) (Nat.le_of_ble_eq_true rfl) rfl) rfl ?_)
    rintro _ _ ⟨rfl, rfl⟩
    refine ⟨.nil, ?_⟩
    refine D_then (.cons (k := 0) rfl (.cons (k := 2) rfl (.cons (k := 4) rfl (.cons (k := 7) rfl .nil)))) ?_
    refine V_seq (V_region rfl ?_)
    refine L_go rfl (X_p (p_fieldo fo129_0 rfl rfl) ?_)
    refine L_go rfl (X_p (p_fieldo fo33_6 rfl rfl) ?_)
    refine L_go rfl (X_rd (r_loadA (vs := [_, _]) ag24 sz24 rfl rfl (by repeat first | exact hm1 | exact hm2 | exact mH | apply mT) rfl) ?_)
    refine L_go rfl (X_p (p_fieldo fo24_1 rfl rfl) ?_)
    refine L_go rfl (X_rd (r_load ag3 rfl rfl (by repeat first | exact hm1 | exact hm2 | exact mH | apply mT) rfl) ?_)
    first | refine L_go rfl (X_p (p_neg' rfl rfl (by unfold InI; omega)) ?_) | refine L_go rfl (X_p (p_neg rfl rfl) ?_)
    refine L_go rfl (X_p (p_fieldo fo24_0 rfl rfl) ?_)
    refine L_go rfl (X_rd (r_load ag3 rfl rfl (by repeat first | exact hm1 | exact hm2 | exact mH | apply mT) rfl) ?_)
    first | refine L_go rfl (X_p (p_neg' rfl rfl (by unfold InI; omega)) ?_) | refine L_go rfl (X_p (p_neg rfl rfl) ?_)
    refine L_go rfl (X_p (p_build (r := [_, _]) pl24 zr24 rfl rfl rfl) ?_)
    refine L_go rfl (X_wr (w_callP rfl rfl rfl (fun w hg => dsum_c _ ⟨-g.hi, -g.lo⟩ (by dsimp only; omega) w)) ?_)
    rintro _ _ ⟨rfl, rfl⟩
    refine L_go rfl (X_p (p_fieldo fo129_0 rfl rfl) ?_)
    refine L_go rfl (X_p (p_fieldo fo33_6 rfl rfl) ?_)
    refine L_go rfl (X_wr (w_store (cs' := [_, _, _, _, _, _, _, _, _, _, _, _, _, _]) sz24 rfl rfl rfl rfl rfl (by repeat first | exact .head | apply SetAt.tail) (Nat.le_of_ble_eq_true rfl) rfl) ?_)
    rintro _ _ ⟨rfl, rfl⟩
    refine L_then (.cons (k := 0) rfl (.cons (k := 2) rfl (.cons (k := 4) rfl (.cons (k := 7) rfl .nil)))) ?_
    refine V_seq (V_region rfl ?_)
    refine L_go rfl (X_p (p_move rfl rfl) ?_)
    refine L_go rfl (X_rd (r_loadA (vs := [_, _, _, _, _, _, _, _, _, _, _, _, _, _]) ag129 sz129 rfl rfl (by repeat first | exact hm1 | exact hm2 | exact mH | apply mT) rfl) ?_)
    refine L_go rfl (X_wr (w_yieldX (own := [_]) rfl rfl rfl hY ⟨by rw [fallsV_len]; omega, (by rw [fallsV_len]; rfl)⟩ hik rfl) ?_)
    rintro _ _ ⟨Hs1, go, rfl, rfl, hgo⟩
    refine L_go rfl (X_p (p_not rfl rfl) ?_)
    refine L_then (.cons (k := 0) rfl (.cons (k := 2) rfl (.cons (k := 4) rfl (.cons (k := 7) rfl (.cons (k := 56) rfl .nil))))) ?_
    refine V_cond rfl ?_ ?_
    · intro c2; try simp only [td] at c2
      have hgo' := hgo.resolve_left (by rintro ⟨h, _⟩; rw [h] at c2; exact absurd c2 (by decide))
      refine V_ret (blk_r (then_r (then_r (blk_r ?_))))
      refine Leave.nil .nil ?_
      exact ⟨Hs1, (by (try dsimp only); repeat (first | exact HSub.nil _ | refine HSub.take (by repeat first | exact Take.head | apply Take.tail) ?_ | exact HSub.refl _ | refine HSub.drop ?_ | refine HSub.app ?_)), _, .inr hgo'.2⟩
    · intro c2; try simp only [td] at c2
      have hgo := (hgo.resolve_right (by rintro ⟨h, _⟩; rw [h] at c2; exact absurd c2 (by decide))).2
      have hgo : I (fallsV g b (n + 1)) Hs1 := by rw [fallsV_succ]; exact hgo
      refine V_skip (blk_n (then_n ?_))
      refine V_region rfl ?_
      first | refine L_go rfl (X_p (p_add' rfl rfl rfl (by unfold InI; omega)) ?_) | refine L_go rfl (X_p (p_add rfl rfl rfl) ?_)
      refine L_go rfl (X_p (p_move rfl rfl) ?_)
      refine L_keep (.cons (k := 0) rfl (.cons (k := 2) rfl (.cons (k := 4) rfl (.cons (k := 7) rfl .nil)))) (then_n ?_)
      refine ⟨(n + 1, Hs1), ?_, ?_, (.cons rfl (.cons rfl (.cons rfl (.cons rfl (.nil _))))), (by repeat (first | exact List.Sublist.refl _ | apply List.Sublist.cons_cons | apply List.Sublist.cons | apply List.sublist_append_of_sublist_right)), rfl⟩
      · exact ⟨by omega, hgo⟩
      · dsimp only; omega
  · intro c1; try simp only [td] at c1
    refine V_exit (then_e (then_e (blk_e rfl ?_)))
    refine Leave.nil .nil ?_
    have e : n = 3000 := by omega
    subst e
    exact ⟨Hs, (by (try dsimp only); repeat (first | exact HSub.nil _ | refine HSub.take (by repeat first | exact Take.head | apply Take.tail) ?_ | exact HSub.refl _ | refine HSub.drop ?_ | refine HSub.app ?_)), _, .inl ⟨fallsV_len _ _ _, hik⟩⟩
set_option maxHeartbeats 8000000 in
theorem dfall_c (b : Box) (g : Span) (hb : FallB 0 b) (hgr : 1 ≤ g.lo ∧ g.lo ≤ g.hi ∧ g.hi ≤ 200) (aF aL : Addr) (w : World) (hE : ErrR w 0 1 188 aF aL) : FnP Tryd.prog 36 [.agg (Box.cells b).toArray, .agg #[.int .i64 g.lo, .int .i64 g.hi]] w (.tuple #[.agg #[.int .i64 (fallT g b).x.lo, .int .i64 (fallT g b).x.hi, .int .i64 (fallT g b).y.lo, .int .i64 (fallT g b).y.hi], .agg #[.int .i64 (fallT g b).at_.lo, .int .i64 (fallT g b).at_.hi], errV 188 aF aL (fallT g b).e]) := by
  refine fn_pure Tryd.func36 rfl (by kernel_rfl) Tryd.ntmps36 Tryd.results36 rfl ?_
  refine V_seq (V_region rfl ?_)
  refine L_go rfl (X_wr (w_box rfl rfl) ?_)
  rintro _ _ ⟨b1, hb1, rfl, rfl⟩
  refine L_go rfl (X_wr (w_box rfl rfl) ?_)
  rintro _ _ ⟨b2, hb2, rfl, rfl⟩
  refine L_go rfl (X_wr (w_alloc zr36 rfl) ?_)
  rintro _ _ ⟨b3, hb3, rfl, rfl⟩
  refine L_go rfl (X_wr (w_alloc zr24 rfl) ?_)
  rintro _ _ ⟨b4, hb4, rfl, rfl⟩
  refine L_go rfl (X_wr (w_alloc zr92 rfl) ?_)
  rintro _ _ ⟨b5, hb5, rfl, rfl⟩
  refine L_then (.cons (k := 2) rfl (.cons (k := 3) rfl (.cons (k := 4) rfl (.cons (k := 5) rfl (.cons (k := 6) rfl .nil))))) ?_
  refine V_seq (V_region rfl ?_)
  refine L_go rfl (X_wr (w_alloc zr124 rfl) ?_)
  rintro _ _ ⟨b6, hb6, rfl, rfl⟩
  refine L_go rfl (X_wr (w_store (cs' := [_]) sz124 rfl rfl rfl rfl rfl (by repeat first | exact .head | apply SetAt.tail) (Nat.le_of_ble_eq_true rfl) rfl) ?_)
  rintro _ _ ⟨rfl, rfl⟩
  refine L_then (.cons (k := 2) rfl (.cons (k := 3) rfl (.cons (k := 4) rfl (.cons (k := 5) rfl (.cons (k := 6) rfl (.cons (k := 7) rfl .nil)))))) ?_
  refine V_seq (V_region rfl ?_)
  refine L_go rfl (X_wr (w_alloc zr4 rfl) ?_)
  rintro _ _ ⟨b7, hb7, rfl, rfl⟩
  refine L_go rfl (X_wr (w_store (cs' := [_]) sz4 rfl rfl rfl rfl rfl (by repeat first | exact .head | apply SetAt.tail) (Nat.le_of_ble_eq_true rfl) rfl) ?_)
  rintro _ _ ⟨rfl, rfl⟩
  refine L_then (.cons (k := 2) rfl (.cons (k := 3) rfl (.cons (k := 4) rfl (.cons (k := 5) rfl (.cons (k := 6) rfl (.cons (k := 7) rfl (.cons (k := 8) rfl .nil))))))) ?_
  refine V_seq ?_
  refine V_seq (V_region rfl ?_)
  refine L_go rfl (X_rd (r_loadA (vs := [_, _, _, _, _, _, _, _, _, _, _, _, _]) ag33 sz33 rfl rfl (by repeat first | exact mH | apply mT) rfl) ?_)
  refine L_go rfl (X_rd (r_loadA (vs := [_, _]) ag24 sz24 rfl rfl (by repeat first | exact mH | apply mT) rfl) ?_)
  refine L_go rfl (X_wr (w_callN rfl rfl rfl (fun w hg => dfalls_c b g w)) ?_)
  rintro _ _ ⟨_, rfl, _, y1, y2, rfl, rfl⟩
  refine L_then (.cons (k := 4) rfl (.cons (k := 5) rfl (.cons (k := 6) rfl (.cons (k := 7) rfl (.cons (k := 8) rfl (.cons (k := 12) rfl .nil)))))) ?_
  refine V_block ?_
  refine V_rangeX (H0 := [(y2, .cells #[.int .i64 g.lo, .int .i64 g.hi] 24), (y1, .cells (Box.cells b).toArray 33), (b7, .cells #[.bool false] 4), (b6, .cells #[.func (.func 56) #[] #[]] 124), (b5, .cells #[.nilIface] 92), (b4, .cells #[.int .i64 (0), .int .i64 (0)] 24), (b3, .cells #[.int .i64 0, .int .i64 0, .int .i64 0, .int .i64 0] 36), (b2, .cells #[.int .i64 g.lo, .int .i64 g.hi] 24), (b1, .cells (Box.cells b).toArray 33)]) (Hi := []) rfl (.cons (k := 4) rfl (.cons (k := 5) rfl (.cons (k := 6) rfl (.cons (k := 7) rfl (.cons (k := 8) rfl (.cons (k := 12) rfl .nil)))))) rfl rfl (fun done x => done.length < 3000 ∧ x = [fallV g b (done.length + 1)]) (fun done Hr => ∃ (ax ay : Span) (lo : Int) (dn : Bool), Hr = [(y2, .cells #[.int .i64 g.lo, .int .i64 g.hi] 24), (y1, .cells (Box.cells b).toArray 33), (b7, .cells #[.bool dn] 4), (b6, .cells #[.func (.func 56) #[] #[]] 124), (b5, .cells #[.nilIface] 92), (b4, .cells #[.int .i64 (lo), .int .i64 (0)] 24), (b3, .cells #[.int .i64 ax.lo, .int .i64 ax.hi, .int .i64 ay.lo, .int .i64 ay.hi] 36), (b2, .cells #[.int .i64 g.lo, .int .i64 g.hi] 24), (b1, .cells (Box.cells b).toArray 33)] ∧ AccV b.at_ (accN (runF g b) done.length) ax ay lo dn ∧ ∀ j, 1 ≤ j → j ≤ done.length → offB (runF g b j) = false ∧ 0 < (runF g b j).z.hi) (fun _ jc Hr => ∃ dn : Bool, jc = .ret ∧ Hr = [(y2, .cells #[.int .i64 g.lo, .int .i64 g.hi] 24), (y1, .cells (Box.cells b).toArray 33), (b7, .cells #[.bool dn] 4), (b6, .cells #[.func (.func 56) #[] #[]] 124), (b5, .cells #[errV 188 aF aL (fallT g b).e] 92), (b4, .cells #[.int .i64 ((fallT g b).at_.lo), .int .i64 ((fallT g b).at_.hi)] 24), (b3, .cells #[.int .i64 (fallT g b).x.lo, .int .i64 (fallT g b).x.hi, .int .i64 (fallT g b).y.lo, .int .i64 (fallT g b).y.hi] 36), (b2, .cells #[.int .i64 g.lo, .int .i64 g.hi] 24), (b1, .cells (Box.cells b).toArray 33)]) (fun done => done.length = 3000) (fun _ _ => False) ((by rintro done vs ⟨_, rfl⟩; rfl)) (by repeat (first | exact List.nil_sublist _ | exact List.Sublist.refl _ | apply List.Sublist.cons_cons | apply List.Sublist.cons)) (⟨spZ, spZ, 0, false, rfl, AccV.zero, fun j h1 h2 => by simp at h2; omega⟩) ?_ ?_ ?_ ?_ ?_
  · intro l1 D1 r1 done vs Hr own hp hJ
    obtain ⟨hdl, rfl⟩ := hp
    obtain ⟨ax, ay, lo, dn, rfl, hacc, hall⟩ := hJ
    have hat := run_at (g := g) (b := b) (done.length + 1)
    have hb0 := hb.1
    refine V_region rfl ?_
    refine L_go rfl (X_wr (w_alloc zr129 rfl) ?_)
    rintro _ _ ⟨b9, hb9, rfl, rfl⟩
    refine L_go rfl (X_wr (w_store (cs' := [_, _, _, _, _, _, _, _, _, _, _, _, _, _]) sz129 rfl rfl rfl rfl rfl (by repeat first | exact .head | apply SetAt.tail) (Nat.le_of_ble_eq_true rfl) rfl) ?_)
    rintro _ _ ⟨rfl, rfl⟩
    refine L_keep (.cons (k := 4) rfl (.cons (k := 5) rfl (.cons (k := 6) rfl (.cons (k := 7) rfl (.cons (k := 8) rfl (.cons (k := 9) rfl (.cons (k := 12) rfl .nil))))))) ?_
    refine asgI (by repeat first | exact .head | apply SetAt.tail) ?_
    refine V_block ?_
    refine V_seq ?_
    refine V_seq (V_region rfl ?_)
    refine L_go rfl (X_p (p_fieldo fo129_0 rfl rfl) ?_)
    refine L_go rfl (X_p (p_fieldo fo33_1 rfl rfl) ?_)
    refine L_go rfl (X_rd (r_loadA (vs := [_, _]) ag24 sz24 rfl rfl (by repeat first | exact mH | apply mT) rfl) ?_)
    refine L_go rfl (X_wr (w_callP rfl rfl rfl (fun w hg => doff_c _ w)) ?_)
    rintro _ _ ⟨rfl, rfl⟩
    refine L_go rfl (X_p (p_move rfl rfl) ?_)
    refine L_cases (d := 18) rfl ?_ ?_
    · intro g1; have g1' := g1; try simp only [td] at g1'
      refine L_no rfl rfl rfl g1 ?_
      refine L_no rfl rfl rfl g1 ?_
      refine L_no rfl rfl rfl g1 ?_
      refine L_no rfl rfl rfl g1 ?_
      refine L_go rfl (X_p (p_pick_t rfl rfl g1 rfl) ?_)
      refine L_go rfl (X_p (p_move rfl rfl) ?_)
      refine L_no rfl rfl rfl rfl ?_
      refine L_no rfl rfl rfl rfl ?_
      refine L_no rfl rfl rfl rfl ?_
      refine L_no rfl rfl rfl rfl ?_
      refine L_go rfl (X_p (p_pick_t rfl rfl rfl rfl) ?_)
      refine L_then (.cons (k := 4) rfl (.cons (k := 5) rfl (.cons (k := 6) rfl (.cons (k := 7) rfl (.cons (k := 8) rfl (.cons (k := 9) rfl (.cons (k := 29) rfl .nil))))))) ?_
      refine V_cond_t rfl rfl ?_
      refine V_seq (V_draw (.rd 0 (.rd 1 (.rd 2 (.wr 3 [2, 1] (.wr 4 [2] (.wr 5 [] .done)))))) mixed (by kernel_rfl) rfl ?_)
      refine D_p rfl (.plain rfl) (p_build (r := [_, _, _, _]) pl36 zr36 rfl rfl rfl) ?_
      refine D_p rfl (.plain rfl) (p_build (r := [_, _]) pl24 zr24 rfl rfl rfl) ?_
      refine D_rd rfl (.plain rfl) (r_loadB ag92 rfl rfl hE.far List.not_mem_nil) ?_
      refine D_wr (.go (E' := [(2, _)]) rfl (.plain rfl) (w_store (cs' := [_, _, _, _]) sz36 rfl rfl rfl rfl rfl (by repeat first | exact .head | apply SetAt.tail) (Nat.le_of_ble_eq_true rfl) rfl) rfl ?_)
      rintro _ _ ⟨rfl, rfl⟩
      refine ⟨(.cons rfl (.plain rfl) (r_loadB ag92 rfl rfl hE.far List.not_mem_nil) .nil), ?_⟩
      refine D_wr (.go (E' := [(2, _)]) rfl (.plain rfl) (w_store (cs' := [_, _]) sz24 rfl rfl rfl rfl rfl (by repeat first | exact .head | apply SetAt.tail) (Nat.le_of_ble_eq_true rfl) rfl) rfl ?_)
      rintro _ _ ⟨rfl, rfl⟩
      refine ⟨(.cons rfl (.plain rfl) (r_loadB ag92 rfl rfl hE.far List.not_mem_nil) .nil), ?_⟩
      refine D_wr (.go (E' := []) rfl (.plain rfl) (w_store (cs' := [_]) sz92 rfl rfl rfl rfl rfl (by repeat first | exact .head | apply SetAt.tail) (Nat.le_of_ble_eq_true rfl) rfl) rfl ?_)
      rintro _ _ ⟨rfl, rfl⟩
      refine ⟨.nil, ?_⟩
      refine D_then (.cons (k := 4) rfl (.cons (k := 5) rfl (.cons (k := 6) rfl .nil))) ?_
      refine V_ret (then_r (blk_r ?_))
      refine endX_r (by repeat first | exact .head | apply SetAt.tail) ?_
      refine ⟨[(y2, .cells #[.int .i64 g.lo, .int .i64 g.hi] 24), (y1, .cells (Box.cells b).toArray 33), (b7, .cells #[.bool dn] 4), (b6, .cells #[.func (.func 56) #[] #[]] 124), (b5, .cells #[.iface 188 (.pointer (some aF))] 92), (b4, .cells #[.int .i64 (0), .int .i64 (0)] 24), (b3, .cells #[.int .i64 0, .int .i64 0, .int .i64 0, .int .i64 0] 36), (b2, .cells #[.int .i64 g.lo, .int .i64 g.hi] 24), (b1, .cells (Box.cells b).toArray 33)], (by (try dsimp only); repeat (first | exact HSub.nil _ | refine HSub.take (by repeat first | exact Take.head | apply Take.tail) ?_ | exact HSub.refl _ | refine HSub.drop ?_ | refine HSub.app ?_)), ?_⟩
      refine ⟨dn, rfl, ?_⟩
      rw [fall_far hdl hall (by rw [off3]; simp [*])]
      rfl
    · intro g1; have g1' := g1; try simp only [td] at g1'
      refine L_yes rfl rfl rfl g1 (X_p (p_fieldo fo129_0 rfl rfl) ?_)
      refine L_yes rfl rfl rfl g1 (X_p (p_fieldo fo33_2 rfl rfl) ?_)
      refine L_yes rfl rfl rfl g1 (X_rd (r_loadA (vs := [_, _]) ag24 sz24 rfl rfl (by repeat first | exact mH | apply mT) rfl) ?_)
      refine L_yes rfl rfl rfl g1 (X_wr (w_callP rfl rfl rfl (fun w hg => doff_c _ w)) ?_)
      rintro _ _ ⟨rfl, rfl⟩
      refine L_go rfl (X_p (p_pick_f rfl rfl g1 rfl) ?_)
      refine L_go rfl (X_p (p_move rfl rfl) ?_)
      refine L_cases (d := 24) rfl ?_ ?_
      · intro g2; have g2' := g2; try simp only [td] at g2'
        refine L_no rfl rfl rfl g2 ?_
        refine L_no rfl rfl rfl g2 ?_
        refine L_no rfl rfl rfl g2 ?_
        refine L_no rfl rfl rfl g2 ?_
        refine L_go rfl (X_p (p_pick_t rfl rfl g2 rfl) ?_)
        refine L_then (.cons (k := 4) rfl (.cons (k := 5) rfl (.cons (k := 6) rfl (.cons (k := 7) rfl (.cons (k := 8) rfl (.cons (k := 9) rfl (.cons (k := 29) rfl .nil))))))) ?_
        refine V_cond_t rfl rfl ?_
        refine V_seq (V_draw (.rd 0 (.rd 1 (.rd 2 (.wr 3 [2, 1] (.wr 4 [2] (.wr 5 [] .done)))))) mixed (by kernel_rfl) rfl ?_)
        refine D_p rfl (.plain rfl) (p_build (r := [_, _, _, _]) pl36 zr36 rfl rfl rfl) ?_
        refine D_p rfl (.plain rfl) (p_build (r := [_, _]) pl24 zr24 rfl rfl rfl) ?_
        refine D_rd rfl (.plain rfl) (r_loadB ag92 rfl rfl hE.far List.not_mem_nil) ?_
        refine D_wr (.go (E' := [(2, _)]) rfl (.plain rfl) (w_store (cs' := [_, _, _, _]) sz36 rfl rfl rfl rfl rfl (by repeat first | exact .head | apply SetAt.tail) (Nat.le_of_ble_eq_true rfl) rfl) rfl ?_)
        rintro _ _ ⟨rfl, rfl⟩
        refine ⟨(.cons rfl (.plain rfl) (r_loadB ag92 rfl rfl hE.far List.not_mem_nil) .nil), ?_⟩
        refine D_wr (.go (E' := [(2, _)]) rfl (.plain rfl) (w_store (cs' := [_, _]) sz24 rfl rfl rfl rfl rfl (by repeat first | exact .head | apply SetAt.tail) (Nat.le_of_ble_eq_true rfl) rfl) rfl ?_)
        rintro _ _ ⟨rfl, rfl⟩
        refine ⟨(.cons rfl (.plain rfl) (r_loadB ag92 rfl rfl hE.far List.not_mem_nil) .nil), ?_⟩
        refine D_wr (.go (E' := []) rfl (.plain rfl) (w_store (cs' := [_]) sz92 rfl rfl rfl rfl rfl (by repeat first | exact .head | apply SetAt.tail) (Nat.le_of_ble_eq_true rfl) rfl) rfl ?_)
        rintro _ _ ⟨rfl, rfl⟩
        refine ⟨.nil, ?_⟩
        refine D_then (.cons (k := 4) rfl (.cons (k := 5) rfl (.cons (k := 6) rfl .nil))) ?_
        refine V_ret (then_r (blk_r ?_))
        refine endX_r (by repeat first | exact .head | apply SetAt.tail) ?_
        refine ⟨[(y2, .cells #[.int .i64 g.lo, .int .i64 g.hi] 24), (y1, .cells (Box.cells b).toArray 33), (b7, .cells #[.bool dn] 4), (b6, .cells #[.func (.func 56) #[] #[]] 124), (b5, .cells #[.iface 188 (.pointer (some aF))] 92), (b4, .cells #[.int .i64 (0), .int .i64 (0)] 24), (b3, .cells #[.int .i64 0, .int .i64 0, .int .i64 0, .int .i64 0] 36), (b2, .cells #[.int .i64 g.lo, .int .i64 g.hi] 24), (b1, .cells (Box.cells b).toArray 33)], (by (try dsimp only); repeat (first | exact HSub.nil _ | refine HSub.take (by repeat first | exact Take.head | apply Take.tail) ?_ | exact HSub.refl _ | refine HSub.drop ?_ | refine HSub.app ?_)), ?_⟩
        refine ⟨dn, rfl, ?_⟩
        rw [fall_far hdl hall (by rw [off3]; simp [*])]
        rfl
      · intro g2; have g2' := g2; try simp only [td] at g2'
        refine L_yes rfl rfl rfl g2 (X_p (p_fieldo fo129_0 rfl rfl) ?_)
        refine L_yes rfl rfl rfl g2 (X_p (p_fieldo fo33_3 rfl rfl) ?_)
        refine L_yes rfl rfl rfl g2 (X_rd (r_loadA (vs := [_, _]) ag24 sz24 rfl rfl (by repeat first | exact mH | apply mT) rfl) ?_)
        refine L_yes rfl rfl rfl g2 (X_wr (w_callP rfl rfl rfl (fun w hg => doff_c _ w)) ?_)
        rintro _ _ ⟨rfl, rfl⟩
        refine L_go rfl (X_p (p_pick_f rfl rfl g2 rfl) ?_)
        refine L_then (.cons (k := 4) rfl (.cons (k := 5) rfl (.cons (k := 6) rfl (.cons (k := 7) rfl (.cons (k := 8) rfl (.cons (k := 9) rfl (.cons (k := 29) rfl .nil))))))) ?_
        refine V_cond rfl ?_ ?_
        · intro c1; try simp only [td] at c1
          refine V_seq (V_draw (.rd 0 (.rd 1 (.rd 2 (.wr 3 [2, 1] (.wr 4 [2] (.wr 5 [] .done)))))) mixed (by kernel_rfl) rfl ?_)
          refine D_p rfl (.plain rfl) (p_build (r := [_, _, _, _]) pl36 zr36 rfl rfl rfl) ?_
          refine D_p rfl (.plain rfl) (p_build (r := [_, _]) pl24 zr24 rfl rfl rfl) ?_
          refine D_rd rfl (.plain rfl) (r_loadB ag92 rfl rfl hE.far List.not_mem_nil) ?_
          refine D_wr (.go (E' := [(2, _)]) rfl (.plain rfl) (w_store (cs' := [_, _, _, _]) sz36 rfl rfl rfl rfl rfl (by repeat first | exact .head | apply SetAt.tail) (Nat.le_of_ble_eq_true rfl) rfl) rfl ?_)
          rintro _ _ ⟨rfl, rfl⟩
          refine ⟨(.cons rfl (.plain rfl) (r_loadB ag92 rfl rfl hE.far List.not_mem_nil) .nil), ?_⟩
          refine D_wr (.go (E' := [(2, _)]) rfl (.plain rfl) (w_store (cs' := [_, _]) sz24 rfl rfl rfl rfl rfl (by repeat first | exact .head | apply SetAt.tail) (Nat.le_of_ble_eq_true rfl) rfl) rfl ?_)
          rintro _ _ ⟨rfl, rfl⟩
          refine ⟨(.cons rfl (.plain rfl) (r_loadB ag92 rfl rfl hE.far List.not_mem_nil) .nil), ?_⟩
          refine D_wr (.go (E' := []) rfl (.plain rfl) (w_store (cs' := [_]) sz92 rfl rfl rfl rfl rfl (by repeat first | exact .head | apply SetAt.tail) (Nat.le_of_ble_eq_true rfl) rfl) rfl ?_)
          rintro _ _ ⟨rfl, rfl⟩
          refine ⟨.nil, ?_⟩
          refine D_then (.cons (k := 4) rfl (.cons (k := 5) rfl (.cons (k := 6) rfl .nil))) ?_
          refine V_ret (then_r (blk_r ?_))
          refine endX_r (by repeat first | exact .head | apply SetAt.tail) ?_
          refine ⟨[(y2, .cells #[.int .i64 g.lo, .int .i64 g.hi] 24), (y1, .cells (Box.cells b).toArray 33), (b7, .cells #[.bool dn] 4), (b6, .cells #[.func (.func 56) #[] #[]] 124), (b5, .cells #[.iface 188 (.pointer (some aF))] 92), (b4, .cells #[.int .i64 (0), .int .i64 (0)] 24), (b3, .cells #[.int .i64 0, .int .i64 0, .int .i64 0, .int .i64 0] 36), (b2, .cells #[.int .i64 g.lo, .int .i64 g.hi] 24), (b1, .cells (Box.cells b).toArray 33)], (by (try dsimp only); repeat (first | exact HSub.nil _ | refine HSub.take (by repeat first | exact Take.head | apply Take.tail) ?_ | exact HSub.refl _ | refine HSub.drop ?_ | refine HSub.app ?_)), ?_⟩
          refine ⟨dn, rfl, ?_⟩
          rw [fall_far hdl hall (by rw [off3]; simp [*])]
          rfl
        · intro c1; try simp only [td] at c1
          have ho : offB (runF g b (done.length + 1)) = false := by rw [off3]; simp [*]
          refine V_skip (then_n ?_)
          refine V_seq ?_
          refine V_block ?_
          refine V_seq (V_region rfl ?_)
          refine L_go rfl (X_rd (r_load ag4 rfl rfl (by repeat first | exact mH | apply mT) rfl) ?_)
          refine L_go rfl (X_p (p_assign rfl rfl) ?_)
          refine L_then (.cons (k := 4) rfl (.cons (k := 5) rfl (.cons (k := 6) rfl (.cons (k := 7) rfl (.cons (k := 8) rfl (.cons (k := 9) rfl (.cons (k := 33) rfl .nil))))))) ?_
          refine V_cond rfl ?_ ?_
          · intro c2; try simp only [td] at c2
            have hd : dn = true := c2
            refine V_draw (.rd 0 (.rd 1 (.rd 2 (.rd 3 (.rd 4 (.rd 5 (.rd 7 (.rd 8 (.rd 9 (.rd 10 (.rd 11 (.rd 12 (.wr 6 [12, 11, 10, 9, 8, 7, 4, 3, 1] (.wr 13 [11, 10, 8, 5, 4, 3, 2, 1, 0] (.rd 14 (.wr 15 [] .done)))))))))))))))) mixed (by kernel_rfl) rfl ?_
            refine D_rd rfl (.plain rfl) (r_load ag124 rfl rfl (by repeat first | exact mH | apply mT) rfl) ?_
            refine D_p rfl (.plain rfl) (p_fieldo fo36_0 rfl rfl) ?_
            refine D_rd rfl (.plain rfl) (r_loadA (vs := [_, _]) ag24 sz24 rfl rfl (by repeat first | exact mH | apply mT) rfl) ?_
            refine D_p rfl (.plain rfl) (p_fieldo fo129_0 rfl rfl) ?_
            refine D_p rfl (.plain rfl) (p_fieldo fo33_1 rfl rfl) ?_
            refine D_rd rfl (.plain rfl) (r_loadA (vs := [_, _]) ag24 sz24 rfl rfl (by repeat first | exact mH | apply mT) rfl) ?_
            refine D_rd rfl (.plain rfl) (r_load ag124 rfl rfl (by repeat first | exact mH | apply mT) rfl) ?_
            refine D_p rfl (.plain rfl) (p_fieldo fo36_1 rfl rfl) ?_
            refine D_rd rfl (.plain rfl) (r_loadA (vs := [_, _]) ag24 sz24 rfl rfl (by repeat first | exact mH | apply mT) rfl) ?_
            refine D_p rfl (.plain rfl) (p_fieldo fo129_0 rfl rfl) ?_
            refine D_p rfl (.plain rfl) (p_fieldo fo33_2 rfl rfl) ?_
            refine D_rd rfl (.plain rfl) (r_loadA (vs := [_, _]) ag24 sz24 rfl rfl (by repeat first | exact mH | apply mT) rfl) ?_
            refine D_wr (.go (E' := [(12, _), (9, _), (7, _)]) rfl (.plain rfl) (w_callP rfl rfl rfl (fun w hg => dhull_c _ _ w)) rfl ?_)
            rintro _ _ ⟨rfl, rfl⟩
            refine ⟨(.cons rfl (.plain rfl) (r_loadA (vs := [_, _]) ag24 sz24 rfl rfl (by repeat first | exact mH | apply mT) rfl) (.cons rfl (.plain rfl) (r_loadA (vs := [_, _]) ag24 sz24 rfl rfl (by repeat first | exact mH | apply mT) rfl) (.cons rfl (.plain rfl) (r_load ag124 rfl rfl (by repeat first | exact mH | apply mT) rfl) .nil))), ?_⟩
            refine D_wr (.go (E' := []) rfl (.plain rfl) (w_callP rfl rfl rfl (fun w hg => dhull_c _ _ w)) rfl ?_)
            rintro _ _ ⟨rfl, rfl⟩
            refine ⟨.nil, ?_⟩
            refine D_p rfl (.plain rfl) (p_build (r := [_, _, _, _]) pl36 zr36 rfl rfl rfl) ?_
            refine D_wr (.go (E' := []) rfl (.plain rfl) (w_store (cs' := [_, _, _, _]) sz36 rfl rfl rfl rfl rfl (by repeat first | exact .head | apply SetAt.tail) (Nat.le_of_ble_eq_true rfl) rfl) rfl ?_)
            rintro _ _ ⟨rfl, rfl⟩
            refine ⟨.nil, ?_⟩
            refine D_keep (.cons (k := 4) rfl (.cons (k := 5) rfl (.cons (k := 6) rfl (.cons (k := 9) rfl .nil)))) (blk_n (then_n ?_))
            refine V_seq (V_region rfl ?_)
            refine L_go rfl (X_p (p_fieldo fo129_0 rfl rfl) ?_)
            refine L_go rfl (X_p (p_fieldo fo33_3 rfl rfl) ?_)
            refine L_go rfl (X_p (p_fieldo fo24_1 rfl rfl) ?_)
            refine L_go rfl (X_rd (r_load ag3 rfl rfl (by repeat first | exact mH | apply mT) rfl) ?_)
            refine L_go rfl (X_p (p_leq rfl rfl rfl) ?_)
            refine L_then (.cons (k := 4) rfl (.cons (k := 5) rfl (.cons (k := 6) rfl (.cons (k := 9) rfl (.cons (k := 74) rfl .nil))))) ?_
            refine V_cond rfl ?_ ?_
            · intro c3; try simp only [td] at c3
              have hz := c3
              refine V_seq (V_region rfl ?_)
              refine L_go rfl (X_p (p_fieldo fo129_0 rfl rfl) ?_)
              refine L_go rfl (X_p (p_fieldo fo33_0 rfl rfl) ?_)
              refine L_go rfl (X_rd (r_load ag3 rfl rfl (by repeat first | exact mH | apply mT) rfl) ?_)
              refine L_go rfl (X_p (p_fieldo fo129_1 rfl rfl) ?_)
              refine L_go rfl (X_rd (r_load ag3 rfl rfl (by repeat first | exact mH | apply mT) rfl) ?_)
              first | refine L_go rfl (X_p (p_add' rfl rfl rfl (by unfold InI; omega)) ?_) | refine L_go rfl (X_p (p_add rfl rfl rfl) ?_)
              refine L_go rfl (X_p (p_fieldo fo24_1 rfl rfl) ?_)
              refine L_go rfl (X_wr (w_store (cs' := [_, _]) sz3 rfl rfl rfl rfl rfl (by repeat first | exact .head | apply SetAt.tail) (Nat.le_of_ble_eq_true rfl) rfl) ?_)
              rintro _ _ ⟨rfl, rfl⟩
              refine L_then (.cons (k := 4) rfl (.cons (k := 5) rfl (.cons (k := 6) rfl .nil))) ?_
              refine V_seq (V_draw (.rd 0 (.rd 1 (.wr 2 [1] (.wr 3 [] (.wr 4 [] .done))))) mixed (by kernel_rfl) rfl ?_)
              refine D_rd rfl (.plain rfl) (r_loadA (vs := [_, _, _, _]) ag36 sz36 rfl rfl (by repeat first | exact mH | apply mT) rfl) ?_
              refine D_rd rfl (.plain rfl) (r_loadA (vs := [_, _]) ag24 sz24 rfl rfl (by repeat first | exact mH | apply mT) rfl) ?_
              refine D_wr (.go (E' := [(1, _)]) rfl (.plain rfl) (w_store (cs' := [_, _, _, _]) sz36 rfl rfl rfl rfl rfl (by repeat first | exact .head | apply SetAt.tail) (Nat.le_of_ble_eq_true rfl) rfl) rfl ?_)
              rintro _ _ ⟨rfl, rfl⟩
              refine ⟨(.cons rfl (.plain rfl) (r_loadA (vs := [_, _]) ag24 sz24 rfl rfl (by repeat first | exact mH | apply mT) rfl) .nil), ?_⟩
              refine D_wr (.go (E' := []) rfl (.plain rfl) (w_store (cs' := [_, _]) sz24 rfl rfl rfl rfl rfl (by repeat first | exact .head | apply SetAt.tail) (Nat.le_of_ble_eq_true rfl) rfl) rfl ?_)
              rintro _ _ ⟨rfl, rfl⟩
              refine ⟨.nil, ?_⟩
              refine D_wr (.go (E' := []) rfl (.plain rfl) (w_store (cs' := [_]) sz92 rfl rfl rfl rfl rfl (by repeat first | exact .head | apply SetAt.tail) (Nat.le_of_ble_eq_true rfl) rfl) rfl ?_)
              rintro _ _ ⟨rfl, rfl⟩
              refine ⟨.nil, ?_⟩
              refine D_then (.cons (k := 4) rfl (.cons (k := 5) rfl (.cons (k := 6) rfl .nil))) ?_
              refine V_ret (blk_r ?_)
              refine endX_r (by repeat first | exact .head | apply SetAt.tail) ?_
              refine ⟨[(y2, .cells #[.int .i64 g.lo, .int .i64 g.hi] 24), (y1, .cells (Box.cells b).toArray 33), (b7, .cells #[.bool dn] 4), (b6, .cells #[.func (.func 56) #[] #[]] 124), (b5, .cells #[.nilIface] 92), (b4, .cells #[.int .i64 (lo), .int .i64 ((runF g b (done.length + 1)).at_ + (done.length + 1 : Nat))] 24), (b3, .cells #[.int .i64 (hullS ax (runF g b (done.length + 1)).x).lo, .int .i64 (hullS ax (runF g b (done.length + 1)).x).hi, .int .i64 (hullS ay (runF g b (done.length + 1)).y).lo, .int .i64 (hullS ay (runF g b (done.length + 1)).y).hi] 36), (b2, .cells #[.int .i64 g.lo, .int .i64 g.hi] 24), (b1, .cells (Box.cells b).toArray 33)], (by (try dsimp only); repeat (first | exact HSub.nil _ | refine HSub.take (by repeat first | exact Take.head | apply Take.tail) ?_ | exact HSub.refl _ | refine HSub.drop ?_ | refine HSub.app ?_)), ?_⟩
              have hacc' := hacc.more hd
              refine ⟨dn, rfl, ?_⟩
              rw [(fall_done hdl hall ho hz).trans hacc'.done, hat]
              rfl
            · intro c3; try simp only [td] at c3
              have hz := c3
              refine V_skip (blk_n ?_)
              refine endX_n (by repeat first | exact .head | apply SetAt.tail) ?_
              refine ⟨[(y2, .cells #[.int .i64 g.lo, .int .i64 g.hi] 24), (y1, .cells (Box.cells b).toArray 33), (b7, .cells #[.bool dn] 4), (b6, .cells #[.func (.func 56) #[] #[]] 124), (b5, .cells #[.nilIface] 92), (b4, .cells #[.int .i64 (lo), .int .i64 (0)] 24), (b3, .cells #[.int .i64 (hullS ax (runF g b (done.length + 1)).x).lo, .int .i64 (hullS ax (runF g b (done.length + 1)).x).hi, .int .i64 (hullS ay (runF g b (done.length + 1)).y).lo, .int .i64 (hullS ay (runF g b (done.length + 1)).y).hi] 36), (b2, .cells #[.int .i64 g.lo, .int .i64 g.hi] 24), (b1, .cells (Box.cells b).toArray 33)], (by (try dsimp only); repeat (first | exact HSub.nil _ | refine HSub.take (by repeat first | exact Take.head | apply Take.tail) ?_ | exact HSub.refl _ | refine HSub.drop ?_ | refine HSub.app ?_)), ?_⟩
              have hl : (done ++ [[fallV g b (done.length + 1)]]).length = done.length + 1 := by simp
              have hacc' := hacc.more hd
              refine ⟨_, _, _, _, rfl, ?_, ?_⟩
              · rw [hl]; exact hacc'
              · rw [hl]; intro j h1 h2; by_cases e : j = done.length + 1
                · rw [e]; exact ⟨ho, by omega⟩
                · exact hall j h1 (by omega)
          · intro c2; try simp only [td] at c2
            have hd : dn = false := by simpa using c2
            refine V_seq (V_region rfl ?_)
            refine L_go rfl (X_p (p_fieldo fo129_0 rfl rfl) ?_)
            refine L_go rfl (X_p (p_fieldo fo33_3 rfl rfl) ?_)
            refine L_go rfl (X_p (p_fieldo fo24_0 rfl rfl) ?_)
            refine L_go rfl (X_rd (r_load ag3 rfl rfl (by repeat first | exact mH | apply mT) rfl) ?_)
            refine L_go rfl (X_p (p_leq rfl rfl rfl) ?_)
            refine L_go rfl (X_p (p_assign rfl rfl) ?_)
            refine L_then (.cons (k := 4) rfl (.cons (k := 5) rfl (.cons (k := 6) rfl (.cons (k := 8) rfl (.cons (k := 9) rfl (.cons (k := 50) rfl .nil)))))) ?_
            refine V_cond rfl ?_ ?_
            · intro c4; try simp only [td] at c4
              have hzl := c4
              refine V_draw (.rd 0 (.rd 1 (.rd 2 (.rd 3 (.rd 4 (.rd 5 (.rd 6 (.rd 7 (.rd 8 (.rd 9 (.rd 10 (.rd 11 (.rd 12 (.wr 13 [12, 11, 10, 9, 8, 7] (.rd 14 (.wr 15 [] (.wr 16 [] .done))))))))))))))))) mixed (by kernel_rfl) rfl ?_
              refine D_p rfl (.plain rfl) (p_fieldo fo129_0 rfl rfl) ?_
              refine D_p rfl (.plain rfl) (p_fieldo fo33_1 rfl rfl) ?_
              refine D_rd rfl (.plain rfl) (r_loadA (vs := [_, _]) ag24 sz24 rfl rfl (by repeat first | exact mH | apply mT) rfl) ?_
              refine D_p rfl (.plain rfl) (p_fieldo fo129_0 rfl rfl) ?_
              refine D_p rfl (.plain rfl) (p_fieldo fo33_2 rfl rfl) ?_
              refine D_rd rfl (.plain rfl) (r_loadA (vs := [_, _]) ag24 sz24 rfl rfl (by repeat first | exact mH | apply mT) rfl) ?_
              refine D_p rfl (.plain rfl) (p_build (r := [_, _, _, _]) pl36 zr36 rfl rfl rfl) ?_
              refine D_p rfl (.plain rfl) (p_fieldo fo129_0 rfl rfl) ?_
              refine D_p rfl (.plain rfl) (p_fieldo fo33_0 rfl rfl) ?_
              refine D_rd rfl (.plain rfl) (r_load ag3 rfl rfl (by repeat first | exact mH | apply mT) rfl) ?_
              refine D_p rfl (.plain rfl) (p_fieldo fo129_1 rfl rfl) ?_
              refine D_rd rfl (.plain rfl) (r_load ag3 rfl rfl (by repeat first | exact mH | apply mT) rfl) ?_
              first | refine D_p rfl (.plain rfl) (p_add' rfl rfl rfl (by unfold InI; omega)) ?_ | refine D_p rfl (.plain rfl) (p_add rfl rfl rfl) ?_
              refine D_wr (.go (E' := [(11, _), (9, _)]) rfl (.plain rfl) (w_store (cs' := [_, _, _, _]) sz36 rfl rfl rfl rfl rfl (by repeat first | exact .head | apply SetAt.tail) (Nat.le_of_ble_eq_true rfl) rfl) rfl ?_)
              rintro _ _ ⟨rfl, rfl⟩
              refine ⟨(.cons rfl (.plain rfl) (r_load ag3 rfl rfl (by repeat first | exact mH | apply mT) rfl) (.cons rfl (.plain rfl) (r_load ag3 rfl rfl (by repeat first | exact mH | apply mT) rfl) .nil)), ?_⟩
              refine D_p rfl (.plain rfl) (p_fieldo fo24_0 rfl rfl) ?_
              refine D_wr (.go (E' := []) rfl (.plain rfl) (w_store (cs' := [_, _]) sz3 rfl rfl rfl rfl rfl (by repeat first | exact .head | apply SetAt.tail) (Nat.le_of_ble_eq_true rfl) rfl) rfl ?_)
              rintro _ _ ⟨rfl, rfl⟩
              refine ⟨.nil, ?_⟩
              refine D_wr (.go (E' := []) rfl (.plain rfl) (w_store (cs' := [_]) sz4 rfl rfl rfl rfl rfl (by repeat first | exact .head | apply SetAt.tail) (Nat.le_of_ble_eq_true rfl) rfl) rfl ?_)
              rintro _ _ ⟨rfl, rfl⟩
              refine ⟨.nil, ?_⟩
              refine D_keep (.cons (k := 4) rfl (.cons (k := 5) rfl (.cons (k := 6) rfl (.cons (k := 9) rfl .nil)))) (blk_n (then_n ?_))
              refine V_seq (V_region rfl ?_)
              refine L_go rfl (X_p (p_fieldo fo129_0 rfl rfl) ?_)
              refine L_go rfl (X_p (p_fieldo fo33_3 rfl rfl) ?_)
              refine L_go rfl (X_p (p_fieldo fo24_1 rfl rfl) ?_)
              refine L_go rfl (X_rd (r_load ag3 rfl rfl (by repeat first | exact mH | apply mT) rfl) ?_)
              refine L_go rfl (X_p (p_leq rfl rfl rfl) ?_)
              refine L_then (.cons (k := 4) rfl (.cons (k := 5) rfl (.cons (k := 6) rfl (.cons (k := 9) rfl (.cons (k := 74) rfl .nil))))) ?_
              refine V_cond rfl ?_ ?_
              · intro c5; try simp only [td] at c5
                have hz := c5
                refine V_seq (V_region rfl ?_)
                refine L_go rfl (X_p (p_fieldo fo129_0 rfl rfl) ?_)
                refine L_go rfl (X_p (p_fieldo fo33_0 rfl rfl) ?_)
                refine L_go rfl (X_rd (r_load ag3 rfl rfl (by repeat first | exact mH | apply mT) rfl) ?_)
                refine L_go rfl (X_p (p_fieldo fo129_1 rfl rfl) ?_)
                refine L_go rfl (X_rd (r_load ag3 rfl rfl (by repeat first | exact mH | apply mT) rfl) ?_)
                first | refine L_go rfl (X_p (p_add' rfl rfl rfl (by unfold InI; omega)) ?_) | refine L_go rfl (X_p (p_add rfl rfl rfl) ?_)
                refine L_go rfl (X_p (p_fieldo fo24_1 rfl rfl) ?_)
                refine L_go rfl (X_wr (w_store (cs' := [_, _]) sz3 rfl rfl rfl rfl rfl (by repeat first | exact .head | apply SetAt.tail) (Nat.le_of_ble_eq_true rfl) rfl) ?_)
                rintro _ _ ⟨rfl, rfl⟩
                refine L_then (.cons (k := 4) rfl (.cons (k := 5) rfl (.cons (k := 6) rfl .nil))) ?_
                refine V_seq (V_draw (.rd 0 (.rd 1 (.wr 2 [1] (.wr 3 [] (.wr 4 [] .done))))) mixed (by kernel_rfl) rfl ?_)
                refine D_rd rfl (.plain rfl) (r_loadA (vs := [_, _, _, _]) ag36 sz36 rfl rfl (by repeat first | exact mH | apply mT) rfl) ?_
                refine D_rd rfl (.plain rfl) (r_loadA (vs := [_, _]) ag24 sz24 rfl rfl (by repeat first | exact mH | apply mT) rfl) ?_
                refine D_wr (.go (E' := [(1, _)]) rfl (.plain rfl) (w_store (cs' := [_, _, _, _]) sz36 rfl rfl rfl rfl rfl (by repeat first | exact .head | apply SetAt.tail) (Nat.le_of_ble_eq_true rfl) rfl) rfl ?_)
                rintro _ _ ⟨rfl, rfl⟩
                refine ⟨(.cons rfl (.plain rfl) (r_loadA (vs := [_, _]) ag24 sz24 rfl rfl (by repeat first | exact mH | apply mT) rfl) .nil), ?_⟩
                refine D_wr (.go (E' := []) rfl (.plain rfl) (w_store (cs' := [_, _]) sz24 rfl rfl rfl rfl rfl (by repeat first | exact .head | apply SetAt.tail) (Nat.le_of_ble_eq_true rfl) rfl) rfl ?_)
                rintro _ _ ⟨rfl, rfl⟩
                refine ⟨.nil, ?_⟩
                refine D_wr (.go (E' := []) rfl (.plain rfl) (w_store (cs' := [_]) sz92 rfl rfl rfl rfl rfl (by repeat first | exact .head | apply SetAt.tail) (Nat.le_of_ble_eq_true rfl) rfl) rfl ?_)
                rintro _ _ ⟨rfl, rfl⟩
                refine ⟨.nil, ?_⟩
                refine D_then (.cons (k := 4) rfl (.cons (k := 5) rfl (.cons (k := 6) rfl .nil))) ?_
                refine V_ret (blk_r ?_)
                refine endX_r (by repeat first | exact .head | apply SetAt.tail) ?_
                refine ⟨[(y2, .cells #[.int .i64 g.lo, .int .i64 g.hi] 24), (y1, .cells (Box.cells b).toArray 33), (b7, .cells #[.bool true] 4), (b6, .cells #[.func (.func 56) #[] #[]] 124), (b5, .cells #[.nilIface] 92), (b4, .cells #[.int .i64 ((runF g b (done.length + 1)).at_ + (done.length + 1 : Nat)), .int .i64 ((runF g b (done.length + 1)).at_ + (done.length + 1 : Nat))] 24), (b3, .cells #[.int .i64 (runF g b (done.length + 1)).x.lo, .int .i64 (runF g b (done.length + 1)).x.hi, .int .i64 (runF g b (done.length + 1)).y.lo, .int .i64 (runF g b (done.length + 1)).y.hi] 36), (b2, .cells #[.int .i64 g.lo, .int .i64 g.hi] 24), (b1, .cells (Box.cells b).toArray 33)], (by (try dsimp only); repeat (first | exact HSub.nil _ | refine HSub.take (by repeat first | exact Take.head | apply Take.tail) ?_ | exact HSub.refl _ | refine HSub.drop ?_ | refine HSub.app ?_)), ?_⟩
                have hacc' := hacc.first hd hzl
                refine ⟨true, rfl, ?_⟩
                rw [(fall_done hdl hall ho hz).trans hacc'.done, hat]
                rfl
              · intro c5; try simp only [td] at c5
                have hz := c5
                refine V_skip (blk_n ?_)
                refine endX_n (by repeat first | exact .head | apply SetAt.tail) ?_
                refine ⟨[(y2, .cells #[.int .i64 g.lo, .int .i64 g.hi] 24), (y1, .cells (Box.cells b).toArray 33), (b7, .cells #[.bool true] 4), (b6, .cells #[.func (.func 56) #[] #[]] 124), (b5, .cells #[.nilIface] 92), (b4, .cells #[.int .i64 ((runF g b (done.length + 1)).at_ + (done.length + 1 : Nat)), .int .i64 (0)] 24), (b3, .cells #[.int .i64 (runF g b (done.length + 1)).x.lo, .int .i64 (runF g b (done.length + 1)).x.hi, .int .i64 (runF g b (done.length + 1)).y.lo, .int .i64 (runF g b (done.length + 1)).y.hi] 36), (b2, .cells #[.int .i64 g.lo, .int .i64 g.hi] 24), (b1, .cells (Box.cells b).toArray 33)], (by (try dsimp only); repeat (first | exact HSub.nil _ | refine HSub.take (by repeat first | exact Take.head | apply Take.tail) ?_ | exact HSub.refl _ | refine HSub.drop ?_ | refine HSub.app ?_)), ?_⟩
                have hl : (done ++ [[fallV g b (done.length + 1)]]).length = done.length + 1 := by simp
                have hacc' := hacc.first hd hzl
                refine ⟨_, _, _, _, rfl, ?_, ?_⟩
                · rw [hl]; rw [hat]; exact hacc'
                · rw [hl]; intro j h1 h2; by_cases e : j = done.length + 1
                  · rw [e]; exact ⟨ho, by omega⟩
                  · exact hall j h1 (by omega)
            · intro c4; try simp only [td] at c4
              have hzl := c4
              refine V_skip (blk_n (then_n ?_))
              refine V_seq (V_region rfl ?_)
              refine L_go rfl (X_p (p_fieldo fo129_0 rfl rfl) ?_)
              refine L_go rfl (X_p (p_fieldo fo33_3 rfl rfl) ?_)
              refine L_go rfl (X_p (p_fieldo fo24_1 rfl rfl) ?_)
              refine L_go rfl (X_rd (r_load ag3 rfl rfl (by repeat first | exact mH | apply mT) rfl) ?_)
              refine L_go rfl (X_p (p_leq rfl rfl rfl) ?_)
              refine L_then (.cons (k := 4) rfl (.cons (k := 5) rfl (.cons (k := 6) rfl (.cons (k := 9) rfl (.cons (k := 74) rfl .nil))))) ?_
              refine V_cond rfl ?_ ?_
              · intro c6; try simp only [td] at c6
                have hz := c6
                refine V_seq (V_region rfl ?_)
                refine L_go rfl (X_p (p_fieldo fo129_0 rfl rfl) ?_)
                refine L_go rfl (X_p (p_fieldo fo33_0 rfl rfl) ?_)
                refine L_go rfl (X_rd (r_load ag3 rfl rfl (by repeat first | exact mH | apply mT) rfl) ?_)
                refine L_go rfl (X_p (p_fieldo fo129_1 rfl rfl) ?_)
                refine L_go rfl (X_rd (r_load ag3 rfl rfl (by repeat first | exact mH | apply mT) rfl) ?_)
                first | refine L_go rfl (X_p (p_add' rfl rfl rfl (by unfold InI; omega)) ?_) | refine L_go rfl (X_p (p_add rfl rfl rfl) ?_)
                refine L_go rfl (X_p (p_fieldo fo24_1 rfl rfl) ?_)
                refine L_go rfl (X_wr (w_store (cs' := [_, _]) sz3 rfl rfl rfl rfl rfl (by repeat first | exact .head | apply SetAt.tail) (Nat.le_of_ble_eq_true rfl) rfl) ?_)
                rintro _ _ ⟨rfl, rfl⟩
                refine L_then (.cons (k := 4) rfl (.cons (k := 5) rfl (.cons (k := 6) rfl .nil))) ?_
                refine V_seq (V_draw (.rd 0 (.rd 1 (.wr 2 [1] (.wr 3 [] (.wr 4 [] .done))))) mixed (by kernel_rfl) rfl ?_)
                refine D_rd rfl (.plain rfl) (r_loadA (vs := [_, _, _, _]) ag36 sz36 rfl rfl (by repeat first | exact mH | apply mT) rfl) ?_
                refine D_rd rfl (.plain rfl) (r_loadA (vs := [_, _]) ag24 sz24 rfl rfl (by repeat first | exact mH | apply mT) rfl) ?_
                refine D_wr (.go (E' := [(1, _)]) rfl (.plain rfl) (w_store (cs' := [_, _, _, _]) sz36 rfl rfl rfl rfl rfl (by repeat first | exact .head | apply SetAt.tail) (Nat.le_of_ble_eq_true rfl) rfl) rfl ?_)
                rintro _ _ ⟨rfl, rfl⟩
                refine ⟨(.cons rfl (.plain rfl) (r_loadA (vs := [_, _]) ag24 sz24 rfl rfl (by repeat first | exact mH | apply mT) rfl) .nil), ?_⟩
                refine D_wr (.go (E' := []) rfl (.plain rfl) (w_store (cs' := [_, _]) sz24 rfl rfl rfl rfl rfl (by repeat first | exact .head | apply SetAt.tail) (Nat.le_of_ble_eq_true rfl) rfl) rfl ?_)
                rintro _ _ ⟨rfl, rfl⟩
                refine ⟨.nil, ?_⟩
                refine D_wr (.go (E' := []) rfl (.plain rfl) (w_store (cs' := [_]) sz92 rfl rfl rfl rfl rfl (by repeat first | exact .head | apply SetAt.tail) (Nat.le_of_ble_eq_true rfl) rfl) rfl ?_)
                rintro _ _ ⟨rfl, rfl⟩
                refine ⟨.nil, ?_⟩
                refine D_then (.cons (k := 4) rfl (.cons (k := 5) rfl (.cons (k := 6) rfl .nil))) ?_
                refine V_ret (blk_r ?_)
                refine endX_r (by repeat first | exact .head | apply SetAt.tail) ?_
                refine ⟨[(y2, .cells #[.int .i64 g.lo, .int .i64 g.hi] 24), (y1, .cells (Box.cells b).toArray 33), (b7, .cells #[.bool dn] 4), (b6, .cells #[.func (.func 56) #[] #[]] 124), (b5, .cells #[.nilIface] 92), (b4, .cells #[.int .i64 (lo), .int .i64 ((runF g b (done.length + 1)).at_ + (done.length + 1 : Nat))] 24), (b3, .cells #[.int .i64 ax.lo, .int .i64 ax.hi, .int .i64 ay.lo, .int .i64 ay.hi] 36), (b2, .cells #[.int .i64 g.lo, .int .i64 g.hi] 24), (b1, .cells (Box.cells b).toArray 33)], (by (try dsimp only); repeat (first | exact HSub.nil _ | refine HSub.take (by repeat first | exact Take.head | apply Take.tail) ?_ | exact HSub.refl _ | refine HSub.drop ?_ | refine HSub.app ?_)), ?_⟩
                have hacc' := hacc.none hd (by omega)
                refine ⟨dn, rfl, ?_⟩
                rw [(fall_done hdl hall ho hz).trans hacc'.done, hat]
                rfl
              · intro c6; try simp only [td] at c6
                have hz := c6
                refine V_skip (blk_n ?_)
                refine endX_n (by repeat first | exact .head | apply SetAt.tail) ?_
                refine ⟨[(y2, .cells #[.int .i64 g.lo, .int .i64 g.hi] 24), (y1, .cells (Box.cells b).toArray 33), (b7, .cells #[.bool dn] 4), (b6, .cells #[.func (.func 56) #[] #[]] 124), (b5, .cells #[.nilIface] 92), (b4, .cells #[.int .i64 (lo), .int .i64 (0)] 24), (b3, .cells #[.int .i64 ax.lo, .int .i64 ax.hi, .int .i64 ay.lo, .int .i64 ay.hi] 36), (b2, .cells #[.int .i64 g.lo, .int .i64 g.hi] 24), (b1, .cells (Box.cells b).toArray 33)], (by (try dsimp only); repeat (first | exact HSub.nil _ | refine HSub.take (by repeat first | exact Take.head | apply Take.tail) ?_ | exact HSub.refl _ | refine HSub.drop ?_ | refine HSub.app ?_)), ?_⟩
                have hl : (done ++ [[fallV g b (done.length + 1)]]).length = done.length + 1 := by simp
                have hacc' := hacc.none hd (by omega)
                refine ⟨_, _, _, _, rfl, ?_, ?_⟩
                · rw [hl]; rw [hd]; exact hacc'
                · rw [hl]; intro j h1 h2; by_cases e : j = done.length + 1
                  · rw [e]; exact ⟨ho, by omega⟩
                  · exact hall j h1 (by omega)
  · intro l1 D1 r1 w1 hY hgi
    refine FnC.x ((dfalls1_c b g hgr w l1 y1 y2 _ _ hY ?_ ?_ w1 _ ⟨_, rfl, spZ, spZ, 0, false, rfl, AccV.zero, fun j h1 h2 => by simp at h2; omega⟩ hgi).mono fun _ w2 h => h)
    · rintro done _ ⟨Hr, rfl, ax, ay, lo, dn, rfl, hacc, hall⟩
      exact ⟨.tail _ (.tail _ (.tail _ (.head _))), .tail _ (.tail _ (.head _))⟩
    · rintro done _ ⟨Hr, rfl, ax, ay, lo, dn, rfl, hacc, hall⟩
      exact run_bnd hb hgr _ fun j h1 h2 => (hall j h1 h2).1
  · intro l1 D1 ob1 done Hr hF hJ
    obtain ⟨ax, ay, lo, dn, rfl, hacc, hall⟩ := hJ
    rw [show done.length = 3000 from hF] at hall
    refine (blk_n (then_n ?_))
    refine V_seq (V_draw (.rd 0 (.rd 1 (.rd 2 (.wr 3 [2, 1] (.wr 4 [2] (.wr 5 [] .done)))))) mixed (by kernel_rfl) rfl ?_)
    refine D_p rfl (.plain rfl) (p_build (r := [_, _, _, _]) pl36 zr36 rfl rfl rfl) ?_
    refine D_p rfl (.plain rfl) (p_build (r := [_, _]) pl24 zr24 rfl rfl rfl) ?_
    refine D_rd rfl (.plain rfl) (r_loadB ag92 rfl rfl hE.long List.not_mem_nil) ?_
    refine D_wr (.go (E' := [(2, _)]) rfl (.plain rfl) (w_store (cs' := [_, _, _, _]) sz36 rfl rfl rfl rfl rfl (by repeat first | exact .head | apply SetAt.tail) (Nat.le_of_ble_eq_true rfl) rfl) rfl ?_)
    rintro _ _ ⟨rfl, rfl⟩
    refine ⟨(.cons rfl (.plain rfl) (r_loadB ag92 rfl rfl hE.long List.not_mem_nil) .nil), ?_⟩
    refine D_wr (.go (E' := [(2, _)]) rfl (.plain rfl) (w_store (cs' := [_, _]) sz24 rfl rfl rfl rfl rfl (by repeat first | exact .head | apply SetAt.tail) (Nat.le_of_ble_eq_true rfl) rfl) rfl ?_)
    rintro _ _ ⟨rfl, rfl⟩
    refine ⟨(.cons rfl (.plain rfl) (r_loadB ag92 rfl rfl hE.long List.not_mem_nil) .nil), ?_⟩
    refine D_wr (.go (E' := []) rfl (.plain rfl) (w_store (cs' := [_]) sz92 rfl rfl rfl rfl rfl (by repeat first | exact .head | apply SetAt.tail) (Nat.le_of_ble_eq_true rfl) rfl) rfl ?_)
    rintro _ _ ⟨rfl, rfl⟩
    refine ⟨.nil, ?_⟩
    refine D_then (.cons (k := 4) rfl (.cons (k := 5) rfl (.cons (k := 6) rfl .nil))) ?_
    refine V_ret ?_
    refine Leave.mark (by repeat first | exact .head | apply SetAt.tail) (Leave.nil (.cellA (us := [_, _, _, _]) rfl ag36 sz36 (by repeat first | exact mH | apply mT) rfl (.cellA (us := [_, _]) rfl ag24 sz24 (by repeat first | exact mH | apply mT) rfl (.cell rfl ag92 (by repeat first | exact mH | apply mT) rfl .nil))) ?_)
    rw [fall_end hall]; rfl
  · intro l1 D1 ob1 done jc Hr hE
    obtain ⟨dn, rfl, rfl⟩ := hE
    refine V_ret (blk_r (then_r ?_))
    refine Leave.mark (by repeat first | exact .head | apply SetAt.tail) (Leave.nil (.cellA (us := [_, _, _, _]) rfl ag36 sz36 (by repeat first | exact mH | apply mT) rfl (.cellA (us := [_, _]) rfl ag24 sz24 (by repeat first | exact mH | apply mT) rfl (.cell rfl ag92 (by repeat first | exact mH | apply mT) rfl .nil))) ?_)
    rfl
  · intro l1 D1 ob1 done ch Hr hS hJ
    exact hS.elim

end Go.Proofs.YtlcccpeelombbaaDoor

/- YtlcccpeelombbaaDoor: the checks of the reference, and what asks for a check. -/
set_option linter.all false
namespace Go.Proofs.YtlcccpeelombbaaDoor
open Go.Vc Go.Tk
set_option maxRecDepth 100000
theorem asked_c (t : Task) (l : List Int) (v sv : Value) (w : World) (ht : TaskR w v t) (hv : SliceR w 1 sv (l.map fun n => [Value.int .i64 n])) (hl : (l.length : Int) ≤ 9223372036854775806) : FnP Tryd.prog 40 [v, sv] w (.int .i64 (askedT t l)) := by
  have hT := ht
  obtain ⟨tv, pv, rfl, htr, hpl⟩ := ht.ex
  obtain ⟨ta, tc, rfl, htc, hte⟩ := htr.ex
  obtain ⟨pa, pc, rfl, hpc, hpe⟩ := hpl.ex
  have hltr := hT.ltr
  have hlpl := hT.lpl
  simp only [List.length_map] at hT htc hpc ⊢
  refine fn_pure Tryd.func40 rfl (by kernel_rfl) Tryd.ntmps40 Tryd.results40 rfl ?_
  refine V_seq (V_region rfl ?_)
  refine L_go rfl (X_wr (w_box rfl rfl) ?_)
  rintro _ _ ⟨b1, hb1, rfl, rfl⟩
  refine L_go rfl (X_p (p_assign rfl rfl) ?_)
  refine L_then (.cons (k := 1) rfl (.cons (k := 2) rfl .nil)) ?_
  refine V_seq (V_region rfl ?_)
  refine L_go rfl (X_rd (r_loadA (vs := [_, _, _, _, _]) ag54 sz54 rfl rfl (by repeat first | exact mH | apply mT) rfl) ?_)
  refine L_go rfl (X_wr (w_callP rfl rfl rfl (fun w hg => check_c t _ w (hT.good hg))) ?_)
  rintro _ _ ⟨rfl, rfl⟩
  refine L_go rfl (X_p (p_move rfl rfl) ?_)
  refine L_go rfl (X_p (p_ext rfl rfl rfl) ?_)
  refine L_go rfl (X_p (p_ext rfl rfl rfl) ?_)
  refine L_go rfl (X_p (p_ext rfl rfl rfl) ?_)
  refine L_go rfl (X_p (p_assign rfl rfl) ?_)
  refine L_go rfl (X_p (p_assign rfl rfl) ?_)
  refine L_go rfl (X_p (p_assign rfl rfl) ?_)
  refine L_then (.cons (k := 1) rfl (.cons (k := 7) rfl .nil)) ?_
  refine V_seq ?_
  refine V_seq (V_region rfl ?_)
  refine L_go rfl (X_p (p_move rfl rfl) ?_)
  refine L_go rfl (X_p (p_eql rfl rfl rfl) ?_)
  refine L_go rfl (X_p (p_move rfl rfl) ?_)
  refine L_cases (d := 16) rfl ?_ ?_
  · intro g1; have g1' := g1; try simp only [td] at g1'
    refine L_yes rfl rfl rfl g1 (X_p (p_move rfl rfl) ?_)
    refine L_yes rfl rfl rfl g1 (X_wr (w_callP rfl rfl rfl (fun w hg => never_c l _ w (hv.good hg) hl)) ?_)
    rintro _ _ ⟨rfl, rfl⟩
    refine L_go rfl (X_p (p_pick_t rfl rfl g1 rfl) ?_)
    refine L_then (.cons (k := 7) rfl (.cons (k := 19) rfl .nil)) ?_
    refine V_cond rfl ?_ ?_
    · intro c1; try simp only [td] at c1
      refine V_seq (V_region rfl ?_)
      refine L_go rfl (X_p (p_assign rfl rfl) ?_)
      refine L_then (.cons (k := 4) rfl .nil) ?_
      refine V_ret (then_r ?_)
      refine Leave.nil (.tmp rfl .nil) ?_
      show Value.int .i64 _ = _; simp [askedT, *]
    · intro c1; try simp only [td] at c1
      refine V_skip (then_n ?_)
      refine V_seq (V_region rfl ?_)
      refine L_go rfl (X_p (p_move rfl rfl) ?_)
      refine L_go rfl (X_p (p_assign rfl rfl) ?_)
      refine L_then (.cons (k := 4) rfl .nil) ?_
      refine V_ret ?_
      refine Leave.nil (.tmp rfl .nil) ?_
      show Value.int .i64 _ = _; simp [askedT, *]
  · intro g1; have g1' := g1; try simp only [td] at g1'
    refine L_no rfl rfl rfl g1 ?_
    refine L_no rfl rfl rfl g1 ?_
    refine L_go rfl (X_p (p_pick_f rfl rfl g1 rfl) ?_)
    refine L_then (.cons (k := 7) rfl (.cons (k := 19) rfl .nil)) ?_
    refine V_cond_f rfl rfl ?_
    refine V_skip (then_n ?_)
    refine V_seq (V_region rfl ?_)
    refine L_go rfl (X_p (p_move rfl rfl) ?_)
    refine L_go rfl (X_p (p_assign rfl rfl) ?_)
    refine L_then (.cons (k := 4) rfl .nil) ?_
    refine V_ret ?_
    refine Leave.nil (.tmp rfl .nil) ?_
    show Value.int .i64 _ = _; simp [askedT, *]

end Go.Proofs.YtlcccpeelombbaaDoor

/- YtlcccpeelombbaaDoor: rooms and picks of package track. -/
set_option linter.all false
namespace Go.Proofs.YtlcccpeelombbaaDoor
open Go.Vc Go.Tk
set_option maxRecDepth 100000
theorem apart_c (a b : Int) (ha : (-1000000000000000 ≤ a ∧ a ≤ 1000000000000000)) (hb : (-1000000000000000 ≤ b ∧ b ≤ 1000000000000000)) (w : World) : FnP Tryd.prog 97 [.int .i64 a, .int .i64 b] w (.int .i64 (apartI a b)) := by
  refine fn_pure Tryd.func97 rfl (by kernel_rfl) Tryd.ntmps97 Tryd.results97 rfl ?_
  refine V_seq (V_region rfl ?_)
  refine L_go rfl (X_p (p_assign rfl rfl) ?_)
  refine L_then (.cons (k := 0) rfl (.cons (k := 1) rfl .nil)) ?_
  refine V_seq (V_region rfl ?_)
  refine L_go rfl (X_p (p_move rfl rfl) ?_)
  refine L_go rfl (X_p (p_move rfl rfl) ?_)
  first | refine L_go rfl (X_p (p_sub' rfl rfl rfl (by unfold InI; omega)) ?_) | refine L_go rfl (X_p (p_sub rfl rfl rfl) ?_)
  refine L_go rfl (X_p (p_move rfl rfl) ?_)
  refine L_go rfl (X_p (p_move rfl rfl) ?_)
  first | refine L_go rfl (X_p (p_sub' rfl rfl rfl (by unfold InI; omega)) ?_) | refine L_go rfl (X_p (p_sub rfl rfl rfl) ?_)
  refine L_go rfl (X_p (p_max rfl rfl rfl) ?_)
  refine L_go rfl (X_p (p_assign rfl rfl) ?_)
  refine L_then (.cons (k := 4) rfl .nil) ?_
  refine V_ret ?_
  refine Leave.nil (.tmp rfl .nil) ?_
  rfl
theorem down_c (a b : Int) (hb : 0 < b) (ha : (-1000000000000000 ≤ a ∧ a ≤ 1000000000000000)) (w : World) : FnP Tryd.prog 102 [.int .i64 a, .int .i64 b] w (.int .i64 (a / b)) := by
  have hq := tdiv_abs hb ha
  refine fn_pure Tryd.func102 rfl (by kernel_rfl) Tryd.ntmps102 Tryd.results102 rfl ?_
  refine V_seq (V_region rfl ?_)
  refine L_go rfl (X_p (p_assign rfl rfl) ?_)
  refine L_then (.cons (k := 0) rfl (.cons (k := 1) rfl .nil)) ?_
  refine V_seq (V_region rfl ?_)
  refine L_go rfl (X_p (p_move rfl rfl) ?_)
  refine L_go rfl (X_p (p_move rfl rfl) ?_)
  first | refine L_go rfl (X_p (p_quo' rfl rfl rfl (by first | decide | omega) (by unfold InI; omega)) ?_) | refine L_go rfl (X_p (p_quo rfl rfl rfl (by first | decide | omega)) ?_)
  refine L_go rfl (X_p (p_assign rfl rfl) ?_)
  refine L_then (.cons (k := 0) rfl (.cons (k := 1) rfl (.cons (k := 5) rfl .nil))) ?_
  refine V_seq ?_
  refine V_seq (V_region rfl ?_)
  refine L_go rfl (X_p (p_move rfl rfl) ?_)
  refine L_go rfl (X_p (p_move rfl rfl) ?_)
  refine L_go rfl (X_p (p_rem rfl rfl rfl (by first | decide | omega)) ?_)
  refine L_go rfl (X_p (p_lss rfl rfl rfl) ?_)
  refine L_then (.cons (k := 5) rfl (.cons (k := 12) rfl .nil)) ?_
  refine V_cond rfl ?_ ?_
  · intro c1; try simp only [td] at c1
    refine V_region rfl ?_
    refine L_go rfl (X_p (p_move rfl rfl) ?_)
    first | refine L_go rfl (X_p (p_sub' rfl rfl rfl (by unfold InI; omega)) ?_) | refine L_go rfl (X_p (p_sub rfl rfl rfl) ?_)
    refine L_go rfl (X_p (p_assign rfl rfl) ?_)
    refine L_then (.cons (k := 5) rfl .nil) ?_
    refine V_seq (V_region rfl ?_)
    refine L_go rfl (X_p (p_move rfl rfl) ?_)
    refine L_go rfl (X_p (p_assign rfl rfl) ?_)
    refine L_then (.cons (k := 4) rfl .nil) ?_
    refine V_ret ?_
    refine Leave.nil (.tmp rfl .nil) ?_
    show Value.int .i64 _ = _; rw [← down_eq hb, if_pos c1]
  · intro c1; try simp only [td] at c1
    refine V_skip (then_n ?_)
    refine V_seq (V_region rfl ?_)
    refine L_go rfl (X_p (p_move rfl rfl) ?_)
    refine L_go rfl (X_p (p_assign rfl rfl) ?_)
    refine L_then (.cons (k := 4) rfl .nil) ?_
    refine V_ret ?_
    refine Leave.nil (.tmp rfl .nil) ?_
    show Value.int .i64 _ = _; rw [← down_eq hb, if_neg (by omega)]
theorem around_c (m : Int) (hm : 0 ≤ m ∧ m ≤ 1000000000000000000) (w : World) : FnP Tryd.prog 93 [.int .i64 m] w (.agg #[.int .i64 (-m), .int .i64 m]) := by
  refine fn_pure Tryd.func93 rfl (by kernel_rfl) Tryd.ntmps93 Tryd.results93 rfl ?_
  refine V_seq (V_region rfl ?_)
  refine L_go rfl (X_wr (w_alloc zr121 rfl) ?_)
  rintro _ _ ⟨b1, hb1, rfl, rfl⟩
  refine L_then (.cons (k := 0) rfl (.cons (k := 2) rfl .nil)) ?_
  refine V_seq (V_region rfl ?_)
  refine L_go rfl (X_p (p_move rfl rfl) ?_)
  first | refine L_go rfl (X_p (p_neg' rfl rfl (by unfold InI; omega)) ?_) | refine L_go rfl (X_p (p_neg rfl rfl) ?_)
  refine L_go rfl (X_p (p_move rfl rfl) ?_)
  refine L_go rfl (X_p (p_build (r := [_, _]) pl24 zr24 rfl rfl rfl) ?_)
  refine L_go rfl (X_p (p_build (r := [_, _]) pl121 zr121 rfl rfl rfl) ?_)
  refine L_go rfl (X_wr (w_store (cs' := [_, _]) sz121 rfl rfl rfl rfl rfl (by repeat first | exact .head | apply SetAt.tail) (Nat.le_of_ble_eq_true rfl) rfl) ?_)
  rintro _ _ ⟨rfl, rfl⟩
  refine L_then (.cons (k := 2) rfl .nil) ?_
  refine V_ret ?_
  refine Leave.nil (.cellA (us := [_, _]) rfl ag121 sz121 (by repeat first | exact mH | apply mT) rfl .nil) ?_
  rfl
theorem empty_c (b : Nat) (lo hi : Int) (ty : Nat) (w : World) (hb : w.heap[b]? = some (.cells #[.int .i64 lo, .int .i64 hi] ty)) : FnP Tryd.prog 54 [.pointer (some ⟨b, 0, none⟩)] w (.bool (Span.none ⟨lo, hi⟩)) := by
  refine fn_pure Tryd.func54 rfl (by kernel_rfl) Tryd.ntmps54 Tryd.results54 rfl ?_
  refine V_seq (V_region rfl ?_)
  refine L_go rfl (X_p (p_assign rfl rfl) ?_)
  refine L_then (.cons (k := 0) rfl .nil) ?_
  refine V_seq (V_draw (.rd 0 (.rd 1 (.rd 2 (.rd 3 (.rd 4 (.rd 5 (.rd 6 (.rd 7 (.rd 8 (.rd 9 (.rd 10 (.rd 11 .done)))))))))))) mixed (by kernel_rfl) rfl ?_)
  refine D_p rfl (.plain rfl) (p_move rfl rfl) ?_
  refine D_p rfl (.plain rfl) (p_nil rfl rfl) ?_
  refine D_p rfl (.plain rfl) (p_fieldo fo121_0 rfl rfl) ?_
  refine D_p rfl (.plain rfl) (p_fieldo fo24_0 rfl rfl) ?_
  refine D_rd rfl (.plain rfl) (r_loadB ag3 rfl rfl (own_cell hb _) List.not_mem_nil) ?_
  refine D_p rfl (.plain rfl) (p_move rfl rfl) ?_
  refine D_p rfl (.plain rfl) (p_nil rfl rfl) ?_
  refine D_p rfl (.plain rfl) (p_fieldo fo121_0 rfl rfl) ?_
  refine D_p rfl (.plain rfl) (p_fieldo fo24_1 rfl rfl) ?_
  refine D_rd rfl (.plain rfl) (r_loadB ag3 rfl rfl (own_cell hb _) List.not_mem_nil) ?_
  refine D_p rfl (.plain rfl) (p_gtr rfl rfl rfl) ?_
  refine D_p rfl (.plain rfl) (p_assign rfl rfl) ?_
  refine D_then (.cons (k := 2) rfl .nil) ?_
  refine V_ret ?_
  refine Leave.nil (.tmp rfl .nil) ?_
  rfl
theorem narrow_c (b : Nat) (lo hi : Int) (ty : Nat) (x y : Int) (w : World) (hb : w.heap[b]? = some (.cells #[.int .i64 lo, .int .i64 hi] ty)) : FnC Tryd.prog 53 [.pointer (some ⟨b, 0, none⟩), .int .i64 x, .int .i64 y] w fun v w' => ∃ o', Vc.Good w [b] [(b, o')] w' ∧ (v = .tuple #[] ∧ o' = .cells #[.int .i64 (max lo x), .int .i64 (min hi y)] ty) := by
  refine fn_mod (b := b) Tryd.func53 rfl (by kernel_rfl) Tryd.ntmps53 Tryd.results53 rfl hb ?_
  refine V_draw (.rd 0 (.rd 1 (.rd 2 (.rd 3 (.rd 4 (.rd 5 (.rd 6 (.rd 7 (.rd 8 (.rd 9 (.rd 10 (.rd 11 (.rd 12 (.rd 13 (.rd 14 (.rd 15 (.rd 16 (.rd 17 (.rd 18 (.wr 19 [17, 16, 15, 14, 12, 11, 10, 9, 1] (.rd 20 (.rd 21 (.rd 22 (.wr 23 [21, 20] .done)))))))))))))))))))))))) mixed (by kernel_rfl) rfl ?_
  refine D_p rfl (.plain rfl) (p_move rfl rfl) ?_
  refine D_p rfl (.plain rfl) (p_move rfl rfl) ?_
  refine D_p rfl (.plain rfl) (p_move rfl rfl) ?_
  refine D_p rfl (.plain rfl) (p_nil rfl rfl) ?_
  refine D_p rfl (.plain rfl) (p_fieldo fo121_0 rfl rfl) ?_
  refine D_p rfl (.plain rfl) (p_fieldo fo24_0 rfl rfl) ?_
  refine D_rd rfl (.plain rfl) (r_load ag3 rfl rfl (by repeat first | exact mH | apply mT) rfl) ?_
  refine D_p rfl (.plain rfl) (p_move rfl rfl) ?_
  refine D_p rfl (.plain rfl) (p_max rfl rfl rfl) ?_
  refine D_p rfl (.plain rfl) (p_move rfl rfl) ?_
  refine D_p rfl (.plain rfl) (p_nil rfl rfl) ?_
  refine D_p rfl (.plain rfl) (p_fieldo fo121_0 rfl rfl) ?_
  refine D_p rfl (.plain rfl) (p_fieldo fo24_1 rfl rfl) ?_
  refine D_rd rfl (.plain rfl) (r_load ag3 rfl rfl (by repeat first | exact mH | apply mT) rfl) ?_
  refine D_p rfl (.plain rfl) (p_move rfl rfl) ?_
  refine D_p rfl (.plain rfl) (p_min rfl rfl rfl) ?_
  refine D_p rfl (.plain rfl) (p_nil rfl rfl) ?_
  refine D_p rfl (.plain rfl) (p_fieldo fo121_0 rfl rfl) ?_
  refine D_p rfl (.plain rfl) (p_fieldo fo24_0 rfl rfl) ?_
  refine D_wr (.go (E' := []) rfl (.plain rfl) (w_store (cs' := [_, _]) sz3 rfl rfl rfl rfl rfl (by repeat first | exact .head | apply SetAt.tail) (Nat.le_of_ble_eq_true rfl) rfl) rfl ?_)
  rintro _ _ ⟨rfl, rfl⟩
  refine ⟨.nil, ?_⟩
  refine D_p rfl (.plain rfl) (p_nil rfl rfl) ?_
  refine D_p rfl (.plain rfl) (p_fieldo fo121_0 rfl rfl) ?_
  refine D_p rfl (.plain rfl) (p_fieldo fo24_1 rfl rfl) ?_
  refine D_wr (.go (E' := []) rfl (.plain rfl) (w_store (cs' := [_, _]) sz3 rfl rfl rfl rfl rfl (by repeat first | exact .head | apply SetAt.tail) (Nat.le_of_ble_eq_true rfl) rfl) rfl ?_)
  rintro _ _ ⟨rfl, rfl⟩
  refine ⟨.nil, ?_⟩
  refine D_keep .nil ?_
  refine Leave.nil .nil ?_
  exact ⟨_, (by repeat first | exact mH | apply mT), rfl, rfl⟩
theorem gone_c (b : Nat) (lo hi : Int) (ty : Nat) (x y k : Int) (hx : (-1000000000000000 ≤ x ∧ x ≤ 1000000000000000)) (hy : (-1000000000000000 ≤ y ∧ y ≤ 1000000000000000)) (hk : 0 < k) (w : World) (hb : w.heap[b]? = some (.cells #[.int .i64 lo, .int .i64 hi] ty)) : FnC Tryd.prog 98 [.pointer (some ⟨b, 0, none⟩), .int .i64 x, .int .i64 y, .int .i64 k] w fun v w' => ∃ o', Vc.Good w [b] [(b, o')] w' ∧ (v = .tuple #[] ∧ o' = .cells #[.int .i64 (max lo (-((-x) / k))), .int .i64 (min hi (y / k))] ty) := by
  refine fn_mod (b := b) Tryd.func98 rfl (by kernel_rfl) Tryd.ntmps98 Tryd.results98 rfl hb ?_
  refine V_region rfl ?_
  refine L_go rfl (X_p (p_move rfl rfl) ?_)
  refine L_go rfl (X_p (p_move rfl rfl) ?_)
  first | refine L_go rfl (X_p (p_neg' rfl rfl (by unfold InI; omega)) ?_) | refine L_go rfl (X_p (p_neg rfl rfl) ?_)
  refine L_go rfl (X_p (p_move rfl rfl) ?_)
  refine L_go rfl (X_wr (w_callP rfl rfl rfl (fun w hg => down_c _ _ hk (by omega) w)) ?_)
  rintro _ _ ⟨rfl, rfl⟩
  have hq := ediv_abs (a := -x) (A := 1000000000000000) hk (by omega)
  first | refine L_go rfl (X_p (p_neg' rfl rfl (by unfold InI; omega)) ?_) | refine L_go rfl (X_p (p_neg rfl rfl) ?_)
  refine L_go rfl (X_p (p_move rfl rfl) ?_)
  refine L_go rfl (X_p (p_move rfl rfl) ?_)
  refine L_go rfl (X_wr (w_callP rfl rfl rfl (fun w hg => down_c _ _ hk (by omega) w)) ?_)
  rintro _ _ ⟨rfl, rfl⟩
  refine L_go rfl (X_wr (w_callM rfl rfl rfl (fun o' => (by repeat first | exact .head | apply SetAt.tail)) (fun w hg => narrow_c b lo hi ty _ _ w (hg.own _ (by repeat first | exact mH | apply mT)))) ?_)
  rintro _ _ ⟨_, rfl, rfl, rfl⟩
  refine L_keep .nil ?_
  refine Leave.nil .nil ?_
  exact ⟨_, (by repeat first | exact mH | apply mT), rfl, rfl⟩
theorem part1_c (x : Plot) (w : World) : FnP Tryd.prog 99 [.agg (Plot.cells x).toArray] w (.int .i64 x.x) := by
  refine fn_pure Tryd.func99 rfl (by kernel_rfl) Tryd.ntmps99 Tryd.results99 rfl ?_
  refine V_seq (V_region rfl ?_)
  refine L_go rfl (X_wr (w_box rfl rfl) ?_)
  rintro _ _ ⟨b1, hb1, rfl, rfl⟩
  refine L_go rfl (X_p (p_assign rfl rfl) ?_)
  refine L_then (.cons (k := 1) rfl .nil) ?_
  refine V_seq (V_region rfl ?_)
  refine L_go rfl (X_p (p_fieldo fo70_2 rfl rfl) ?_)
  refine L_go rfl (X_rd (r_load ag3 rfl rfl (by repeat first | exact mH | apply mT) rfl) ?_)
  refine L_go rfl (X_p (p_assign rfl rfl) ?_)
  refine L_then (.cons (k := 2) rfl .nil) ?_
  refine V_ret ?_
  refine Leave.nil (.tmp rfl .nil) ?_
  rfl
theorem part2_c (x : Plot) (w : World) : FnP Tryd.prog 100 [.agg (Plot.cells x).toArray] w (.int .i64 x.y) := by
  refine fn_pure Tryd.func100 rfl (by kernel_rfl) Tryd.ntmps100 Tryd.results100 rfl ?_
  refine V_seq (V_region rfl ?_)
  refine L_go rfl (X_wr (w_box rfl rfl) ?_)
  rintro _ _ ⟨b1, hb1, rfl, rfl⟩
  refine L_go rfl (X_p (p_assign rfl rfl) ?_)
  refine L_then (.cons (k := 1) rfl .nil) ?_
  refine V_seq (V_region rfl ?_)
  refine L_go rfl (X_p (p_fieldo fo70_3 rfl rfl) ?_)
  refine L_go rfl (X_rd (r_load ag3 rfl rfl (by repeat first | exact mH | apply mT) rfl) ?_)
  refine L_go rfl (X_p (p_assign rfl rfl) ?_)
  refine L_then (.cons (k := 2) rfl .nil) ?_
  refine V_ret ?_
  refine Leave.nil (.tmp rfl .nil) ?_
  rfl
theorem part3_c (x : Plot) (w : World) : FnP Tryd.prog 101 [.agg (Plot.cells x).toArray] w (.int .i64 x.z) := by
  refine fn_pure Tryd.func101 rfl (by kernel_rfl) Tryd.ntmps101 Tryd.results101 rfl ?_
  refine V_seq (V_region rfl ?_)
  refine L_go rfl (X_wr (w_box rfl rfl) ?_)
  rintro _ _ ⟨b1, hb1, rfl, rfl⟩
  refine L_go rfl (X_p (p_assign rfl rfl) ?_)
  refine L_then (.cons (k := 1) rfl .nil) ?_
  refine V_seq (V_region rfl ?_)
  refine L_go rfl (X_p (p_fieldo fo70_4 rfl rfl) ?_)
  refine L_go rfl (X_rd (r_load ag3 rfl rfl (by repeat first | exact mH | apply mT) rfl) ?_)
  refine L_go rfl (X_p (p_assign rfl rfl) ?_)
  refine L_then (.cons (k := 2) rfl .nil) ?_
  refine V_ret ?_
  refine Leave.nil (.tmp rfl .nil) ?_
  rfl
def pf (k : Int) : Nat := if k = 0 then 99 else if k = 1 then 100 else 101
theorem pf_c (k : Int) (x : Plot) (w : World) : FnP Tryd.prog (pf k) [.agg (Plot.cells x).toArray] w (.int .i64 (partI x k)) := by
  unfold pf partI
  split
  · exact part1_c x w
  · split
    · exact part2_c x w
    · exact part3_c x w
theorem part_c (k : Int) (hk : k = 0 ∨ k = 1 ∨ k = 2) (w : World) : FnP Tryd.prog 95 [.int .i64 k] w (.func (.func (pf k)) #[] #[]) := by
  refine fn_pure Tryd.func95 rfl (by kernel_rfl) Tryd.ntmps95 Tryd.results95 rfl ?_
  refine V_seq (V_region rfl ?_)
  refine L_go rfl (X_p (p_assign rfl rfl) ?_)
  refine L_then (.cons (k := 0) rfl .nil) ?_
  refine V_seq (V_region rfl ?_)
  refine L_go rfl (X_wr (w_slice (r := [_, _, _]) un187 sz183 zr183 rfl (by decide) rfl (by decide) rfl rfl) ?_)
  rintro _ _ ⟨b1, hb1, rfl, rfl⟩
  refine L_go rfl (X_p (p_move rfl rfl) ?_)
  refine L_go rfl (X_p (p_idxo es187 rfl rfl rfl (by omega) (by omega)) ?_)
  refine L_go rfl (X_rd (r_load ag183 rfl rfl (by repeat first | exact mH | apply mT) (v := .func (.func (pf k)) #[] #[]) (by rcases hk with rfl | rfl | rfl <;> rfl)) ?_)
  refine L_go rfl (X_p (p_assign rfl rfl) ?_)
  refine L_then (.cons (k := 2) rfl .nil) ?_
  refine V_ret ?_
  refine Leave.nil (.tmp rfl .nil) ?_
  rfl
theorem reach_c (bp bm : Nat) (mv : Value) (t : Task) (ps : List Int) (w : World) (hp : PickR w bp bm mv t ps) (n : Int) (hn : 0 ≤ n ∧ n ≤ 100000) : FnP Tryd.prog 94 [.pointer (some ⟨bp, 0, none⟩), .int .i64 n] w (.int .i64 (reachT t n)) := by
  have hP := hp
  obtain ⟨tv, pv, sv, ty, fr, hbp, htr, hpl, hsv⟩ := hp.ex
  obtain ⟨ta, tc, rfl, htc, hte⟩ := htr.ex
  obtain ⟨pa, pc, rfl, hpc, hpe⟩ := hpl.ex
  obtain ⟨sa, sc, rfl, hsc, hse⟩ := hsv.ex
  have hG := hP.good
  obtain ⟨hfrm, hspd, hacc⟩ := hG.nums
  have hne := hP.ne
  have hpsl := hP.psl
  simp only [List.length_map] at hbp htc hpc hsc
  have hb := reach_bnd hG hn
  have hcp := cap_bnd hG hn
  have hq := tdiv_bnd (b := t.accel) (by omega) (show 0 ≤ t.speed ∧ t.speed ≤ t.speed by omega)
  simp only [capT] at hb hcp
  refine fn_pure Tryd.func94 rfl (by kernel_rfl) Tryd.ntmps94 Tryd.results94 rfl ?_
  refine V_seq (V_region rfl ?_)
  refine L_go rfl (X_p (p_assign rfl rfl) ?_)
  refine L_then (.cons (k := 0) rfl (.cons (k := 1) rfl .nil)) ?_
  refine V_seq (V_draw (.rd 0 (.rd 1 (.rd 2 (.rd 3 (.rd 4 (.rd 5 (.rd 6 (.rd 7 (.rd 8 (.rd 9 (.rd 10 (.rd 11 (.rd 12 (.rd 13 .done)))))))))))))) mixed (by kernel_rfl) rfl ?_)
  refine D_p rfl (.plain rfl) (p_move rfl rfl) ?_
  refine D_p rfl (.plain rfl) (p_move rfl rfl) ?_
  refine D_p rfl (.plain rfl) (p_nil rfl rfl) ?_
  refine D_p rfl (.plain rfl) (p_fieldo fo101_0 rfl rfl) ?_
  refine D_p rfl (.plain rfl) (p_fieldo fo54_1 rfl rfl) ?_
  refine D_rd rfl (.plain rfl) (r_loadB ag3 rfl rfl (own_cell hbp _) List.not_mem_nil) ?_
  refine D_p rfl (.plain rfl) (p_move rfl rfl) ?_
  refine D_p rfl (.plain rfl) (p_nil rfl rfl) ?_
  refine D_p rfl (.plain rfl) (p_fieldo fo101_0 rfl rfl) ?_
  refine D_p rfl (.plain rfl) (p_fieldo fo54_2 rfl rfl) ?_
  refine D_rd rfl (.plain rfl) (r_loadB ag3 rfl rfl (own_cell hbp _) List.not_mem_nil) ?_
  first | refine D_p rfl (.plain rfl) (p_quo' rfl rfl rfl (by first | decide | omega) (by unfold InI; omega)) ?_ | refine D_p rfl (.plain rfl) (p_quo rfl rfl rfl (by first | decide | omega)) ?_
  refine D_p rfl (.plain rfl) (p_min rfl rfl rfl) ?_
  refine D_p rfl (.plain rfl) (p_assign rfl rfl) ?_
  refine D_then (.cons (k := 0) rfl (.cons (k := 1) rfl (.cons (k := 5) rfl .nil))) ?_
  refine V_seq (V_draw (.rd 0 (.rd 1 (.rd 2 (.rd 3 (.rd 4 (.rd 5 (.rd 6 (.rd 7 (.rd 8 (.rd 9 (.rd 10 (.rd 11 (.rd 12 (.rd 13 (.rd 14 (.rd 15 (.rd 16 (.rd 17 (.rd 18 (.rd 19 (.rd 20 (.rd 21 .done)))))))))))))))))))))) mixed (by kernel_rfl) rfl ?_)
  refine D_p rfl (.plain rfl) (p_move rfl rfl) ?_
  refine D_p rfl (.plain rfl) (p_nil rfl rfl) ?_
  refine D_p rfl (.plain rfl) (p_fieldo fo101_0 rfl rfl) ?_
  refine D_p rfl (.plain rfl) (p_fieldo fo54_2 rfl rfl) ?_
  refine D_rd rfl (.plain rfl) (r_loadB ag3 rfl rfl (own_cell hbp _) List.not_mem_nil) ?_
  refine D_p rfl (.plain rfl) (p_move rfl rfl) ?_
  refine D_p rfl (.plain rfl) (p_move rfl rfl) ?_
  first | refine D_p rfl (.plain rfl) (p_add' rfl rfl rfl (by unfold InI; omega)) ?_ | refine D_p rfl (.plain rfl) (p_add rfl rfl rfl) ?_
  first | refine D_p rfl (.plain rfl) (p_mul' rfl rfl rfl (by unfold InI; omega)) ?_ | refine D_p rfl (.plain rfl) (p_mul rfl rfl rfl) ?_
  first | refine D_p rfl (.plain rfl) (p_quo' rfl rfl rfl (by first | decide | omega) (by unfold InI; omega)) ?_ | refine D_p rfl (.plain rfl) (p_quo rfl rfl rfl (by first | decide | omega)) ?_
  first | refine D_p rfl (.plain rfl) (p_mul' rfl rfl rfl (by unfold InI; omega)) ?_ | refine D_p rfl (.plain rfl) (p_mul rfl rfl rfl) ?_
  refine D_p rfl (.plain rfl) (p_move rfl rfl) ?_
  refine D_p rfl (.plain rfl) (p_move rfl rfl) ?_
  first | refine D_p rfl (.plain rfl) (p_sub' rfl rfl rfl (by unfold InI; omega)) ?_ | refine D_p rfl (.plain rfl) (p_sub rfl rfl rfl) ?_
  refine D_p rfl (.plain rfl) (p_move rfl rfl) ?_
  refine D_p rfl (.plain rfl) (p_nil rfl rfl) ?_
  refine D_p rfl (.plain rfl) (p_fieldo fo101_0 rfl rfl) ?_
  refine D_p rfl (.plain rfl) (p_fieldo fo54_1 rfl rfl) ?_
  refine D_rd rfl (.plain rfl) (r_loadB ag3 rfl rfl (own_cell hbp _) List.not_mem_nil) ?_
  first | refine D_p rfl (.plain rfl) (p_mul' rfl rfl rfl (by unfold InI; omega)) ?_ | refine D_p rfl (.plain rfl) (p_mul rfl rfl rfl) ?_
  first | refine D_p rfl (.plain rfl) (p_add' rfl rfl rfl (by unfold InI; omega)) ?_ | refine D_p rfl (.plain rfl) (p_add rfl rfl rfl) ?_
  refine D_p rfl (.plain rfl) (p_assign rfl rfl) ?_
  refine D_then (.cons (k := 4) rfl .nil) ?_
  refine V_ret ?_
  refine Leave.nil (.tmp rfl .nil) ?_
  rfl
theorem width_c (bp bm : Nat) (mv : Value) (t : Task) (ps : List Int) (w : World) (hp : PickR w bp bm mv t ps) (i : Int) (hi0 : 0 ≤ i) (hi1 : i < t.plots.length) : FnP Tryd.prog 96 [.pointer (some ⟨bp, 0, none⟩), .int .i64 i] w (.int .i64 (widthT t i.toNat)) := by
  have hP := hp
  obtain ⟨tv, pv, sv, ty, fr, hbp, htr, hpl, hsv⟩ := hp.ex
  obtain ⟨ta, tc, rfl, htc, hte⟩ := htr.ex
  obtain ⟨pa, pc, rfl, hpc, hpe⟩ := hpl.ex
  obtain ⟨sa, sc, rfl, hsc, hse⟩ := hsv.ex
  have hG := hP.good
  obtain ⟨hfrm, hspd, hacc⟩ := hG.nums
  have hne := hP.ne
  have hpsl := hP.psl
  simp only [List.length_map] at hbp htc hpc hsc
  have hi : i.toNat < t.plots.length := by omega
  have pb := hG.plot hi
  have tb := hG.of hi
  obtain ⟨p1, p2, p3, p4, p5, p6⟩ := pb
  obtain ⟨q1, q2, q3, q4, q5⟩ := tb
  have b1 := far_bnd hG hi
  have b2 := km_bnd hG hi
  have b3 := grow_bnd hG hi
  simp only [farT, Task.trOf, Task.pl, Task.tr] at p1 p2 p3 p4 p5 p6 q1 q2 q3 q4 q5 b1 b2 b3
  obtain ⟨qa, rfl, hqn, hcp⟩ := hpe i.toNat _ (getD_cells (d := plZ) (by omega))
  obtain ⟨ra, rfl, hrn, hct⟩ := hte (t.plots.getD i.toNat plZ).tracker.toNat _ (getD_cells (d := trZ) (by omega))
  refine fn_pure Tryd.func96 rfl (by kernel_rfl) Tryd.ntmps96 Tryd.results96 rfl ?_
  refine V_seq (V_region rfl ?_)
  refine L_go rfl (X_p (p_assign rfl rfl) ?_)
  refine L_then (.cons (k := 0) rfl (.cons (k := 1) rfl .nil)) ?_
  refine V_seq (V_region rfl ?_)
  refine L_go rfl (X_p (p_move rfl rfl) ?_)
  refine L_go rfl (X_p (p_nil rfl rfl) ?_)
  refine L_go rfl (X_p (p_fieldo fo101_0 rfl rfl) ?_)
  refine L_go rfl (X_p (p_fieldo fo54_4 rfl rfl) ?_)
  refine L_go rfl (X_rd (r_loadB ag52 rfl rfl (own_cell hbp _) List.not_mem_nil) ?_)
  refine L_go rfl (X_p (p_move rfl rfl) ?_)
  refine L_go rfl (X_p (p_idx es52 rfl rfl rfl (by omega) (by omega)) ?_)
  refine L_go rfl (X_rd (r_loadBA ag70 sz70 rfl rfl hcp rfl List.not_mem_nil) ?_)
  refine L_go rfl (X_wr (w_alloc zr70 rfl) ?_)
  rintro _ _ ⟨b1, hb1, rfl, rfl⟩
  refine L_go rfl (X_wr (w_store (cs' := [_, _, _, _, _]) sz70 rfl rfl rfl rfl rfl (by repeat first | exact .head | apply SetAt.tail) (Nat.le_of_ble_eq_true rfl) rfl) ?_)
  rintro _ _ ⟨rfl, rfl⟩
  refine L_then (.cons (k := 0) rfl (.cons (k := 5) rfl .nil)) ?_
  refine V_seq (V_draw (.rd 0 (.rd 1 (.rd 2 (.rd 3 (.rd 4 (.rd 5 (.rd 6 (.rd 7 (.rd 8 (.wr 9 [8, 7, 6, 5, 4, 3, 2, 1, 0] (.wr 10 [] .done))))))))))) mixed (by kernel_rfl) rfl ?_)
  refine D_p rfl (.plain rfl) (p_move rfl rfl) ?_
  refine D_p rfl (.plain rfl) (p_nil rfl rfl) ?_
  refine D_p rfl (.plain rfl) (p_fieldo fo101_0 rfl rfl) ?_
  refine D_p rfl (.plain rfl) (p_fieldo fo54_3 rfl rfl) ?_
  refine D_rd rfl (.plain rfl) (r_loadB ag51 rfl rfl (own_cell hbp _) List.not_mem_nil) ?_
  refine D_p rfl (.plain rfl) (p_fieldo fo70_0 rfl rfl) ?_
  refine D_rd rfl (.plain rfl) (r_load ag3 rfl rfl (by repeat first | exact mH | apply mT) rfl) ?_
  refine D_p rfl (.plain rfl) (p_idx es51 rfl rfl rfl (by omega) (by omega)) ?_
  refine D_rd rfl (.plain rfl) (r_loadBA ag162 sz162 rfl rfl hct rfl List.not_mem_nil) ?_
  refine D_wr (.go (E' := [(8, _), (6, _), (4, _)]) rfl (.plain rfl) (w_alloc zr162 rfl) rfl ?_)
  rintro _ _ ⟨b2, hb2, rfl, rfl⟩
  refine ⟨(.cons rfl (.plain rfl) (r_loadBA ag162 sz162 rfl rfl hct rfl List.not_mem_nil) (.cons rfl (.plain rfl) (r_load ag3 rfl rfl (by repeat first | exact mH | apply mT) rfl) (.cons rfl (.plain rfl) (r_loadB ag51 rfl rfl (own_cell hbp _) List.not_mem_nil) .nil))), ?_⟩
  refine D_wr (.go (E' := []) rfl (.plain rfl) (w_store (cs' := [_, _, _, _, _, _]) sz162 rfl rfl rfl rfl rfl (by repeat first | exact .head | apply SetAt.tail) (Nat.le_of_ble_eq_true rfl) rfl) rfl ?_)
  rintro _ _ ⟨rfl, rfl⟩
  refine ⟨.nil, ?_⟩
  refine D_then (.cons (k := 5) rfl (.cons (k := 6) rfl .nil)) ?_
  refine V_seq (V_draw (.rd 0 (.rd 1 (.rd 2 (.rd 3 (.rd 4 (.rd 5 (.rd 6 (.rd 7 (.rd 9 (.rd 10 (.rd 11 (.rd 12 (.rd 14 (.rd 15 (.wr 8 [15, 14, 12, 11, 10, 9, 6, 4, 3, 2, 1, 0] (.wr 13 [15, 14, 11, 9, 7, 6, 5, 4, 3, 2, 1, 0] (.wr 16 [14, 12, 11, 10, 9, 7, 6, 5, 4, 3, 2, 1, 0] (.rd 17 (.rd 18 (.rd 19 (.rd 20 (.rd 21 (.rd 22 (.rd 23 .done)))))))))))))))))))))))) mixed (by kernel_rfl) rfl ?_)
  refine D_p rfl (.plain rfl) (p_fieldo fo162_3 rfl rfl) ?_
  refine D_rd rfl (.plain rfl) (r_load ag3 rfl rfl (by repeat first | exact mH | apply mT) rfl) ?_
  refine D_p rfl (.plain rfl) (p_fieldo fo162_4 rfl rfl) ?_
  refine D_rd rfl (.plain rfl) (r_load ag3 rfl rfl (by repeat first | exact mH | apply mT) rfl) ?_
  refine D_p rfl (.plain rfl) (p_fieldo fo70_2 rfl rfl) ?_
  refine D_rd rfl (.plain rfl) (r_load ag3 rfl rfl (by repeat first | exact mH | apply mT) rfl) ?_
  refine D_p rfl (.plain rfl) (p_fieldo fo162_1 rfl rfl) ?_
  refine D_rd rfl (.plain rfl) (r_load ag3 rfl rfl (by repeat first | exact mH | apply mT) rfl) ?_
  refine D_p rfl (.plain rfl) (p_fieldo fo70_3 rfl rfl) ?_
  refine D_rd rfl (.plain rfl) (r_load ag3 rfl rfl (by repeat first | exact mH | apply mT) rfl) ?_
  refine D_p rfl (.plain rfl) (p_fieldo fo162_2 rfl rfl) ?_
  refine D_rd rfl (.plain rfl) (r_load ag3 rfl rfl (by repeat first | exact mH | apply mT) rfl) ?_
  refine D_p rfl (.plain rfl) (p_fieldo fo70_4 rfl rfl) ?_
  refine D_rd rfl (.plain rfl) (r_load ag3 rfl rfl (by repeat first | exact mH | apply mT) rfl) ?_
  refine D_wr (.go (E' := [(15, _), (12, _), (10, _), (3, _), (1, _)]) rfl (.plain rfl) (w_callP rfl rfl rfl (fun w hg => apart_c _ _ (by omega) (by omega) w)) rfl ?_)
  rintro _ _ ⟨rfl, rfl⟩
  refine ⟨(.cons rfl (.plain rfl) (r_load ag3 rfl rfl (by repeat first | exact mH | apply mT) rfl) (.cons rfl (.plain rfl) (r_load ag3 rfl rfl (by repeat first | exact mH | apply mT) rfl) (.cons rfl (.plain rfl) (r_load ag3 rfl rfl (by repeat first | exact mH | apply mT) rfl) (.cons rfl (.plain rfl) (r_load ag3 rfl rfl (by repeat first | exact mH | apply mT) rfl) (.cons rfl (.plain rfl) (r_load ag3 rfl rfl (by repeat first | exact mH | apply mT) rfl) .nil))))), ?_⟩
  refine D_wr (.go (E' := [(15, _), (3, _), (1, _)]) rfl (.plain rfl) (w_callP rfl rfl rfl (fun w hg => apart_c _ _ (by omega) (by omega) w)) rfl ?_)
  rintro _ _ ⟨rfl, rfl⟩
  refine ⟨(.cons rfl (.plain rfl) (r_load ag3 rfl rfl (by repeat first | exact mH | apply mT) rfl) (.cons rfl (.plain rfl) (r_load ag3 rfl rfl (by repeat first | exact mH | apply mT) rfl) (.cons rfl (.plain rfl) (r_load ag3 rfl rfl (by repeat first | exact mH | apply mT) rfl) .nil))), ?_⟩
  refine D_wr (.go (E' := [(3, _), (1, _)]) rfl (.plain rfl) (w_callP rfl rfl rfl (fun w hg => apart_c _ _ (by omega) (by omega) w)) rfl ?_)
  rintro _ _ ⟨rfl, rfl⟩
  refine ⟨(.cons rfl (.plain rfl) (r_load ag3 rfl rfl (by repeat first | exact mH | apply mT) rfl) (.cons rfl (.plain rfl) (r_load ag3 rfl rfl (by repeat first | exact mH | apply mT) rfl) .nil)), ?_⟩
  refine D_p rfl (.plain rfl) (p_max3 rfl rfl rfl rfl) ?_
  first | refine D_p rfl (.plain rfl) (p_add' rfl rfl rfl (by unfold InI; omega)) ?_ | refine D_p rfl (.plain rfl) (p_add rfl rfl rfl) ?_
  first | refine D_p rfl (.plain rfl) (p_sub' rfl rfl rfl (by unfold InI; omega)) ?_ | refine D_p rfl (.plain rfl) (p_sub rfl rfl rfl) ?_
  first | refine D_p rfl (.plain rfl) (p_quo' rfl rfl rfl (by first | decide | omega) (by unfold InI; omega)) ?_ | refine D_p rfl (.plain rfl) (p_quo rfl rfl rfl (by first | decide | omega)) ?_
  first | refine D_p rfl (.plain rfl) (p_mul' rfl rfl rfl (by unfold InI; omega)) ?_ | refine D_p rfl (.plain rfl) (p_mul rfl rfl rfl) ?_
  first | refine D_p rfl (.plain rfl) (p_add' rfl rfl rfl (by unfold InI; omega)) ?_ | refine D_p rfl (.plain rfl) (p_add rfl rfl rfl) ?_
  refine D_p rfl (.plain rfl) (p_assign rfl rfl) ?_
  refine D_then (.cons (k := 4) rfl .nil) ?_
  refine V_ret ?_
  refine Leave.nil (.tmp rfl .nil) ?_
  rfl

end Go.Proofs.YtlcccpeelombbaaDoor

/- YtlcccpeelombbaaDoor: the walk of place. -/
set_option linter.all false
namespace Go.Proofs.YtlcccpeelombbaaDoor
open Go.Vc Go.Tk
set_option maxRecDepth 100000
theorem place_c (bp bm : Nat) (es : Array MapEntry) (clk : Nat) (t : Task) (ps : List Int) (k u : Int) (hk : k = 0 ∨ k = 1 ∨ k = 2) (hu : 0 ≤ u ∧ u ≤ 100000) (w : World) (hp : PickR w bp bm (.map (some bm)) t ps) (hc : Cache t ps es) (hb : w.heap[bm]? = some (.map es clk)) : FnC Tryd.prog 86 [.pointer (some ⟨bp, 0, none⟩), .agg #[.int .i64 k, .int .i64 u]] w fun v w' => ∃ o', Vc.Good w [bm] [(bm, o')] w' ∧ (v = .agg #[.int .i64 (placeT t ps k u).lo, .int .i64 (placeT t ps k u).hi] ∧ ∃ es' clk', o' = .map es' clk' ∧ Cache t ps es') := by
  have hP := hp
  obtain ⟨tv, pv, sv, ty, fr, hbp, htr, hpl, hsv⟩ := hp.ex
  obtain ⟨ta, tc, rfl, htc, hte⟩ := htr.ex
  obtain ⟨pa, pc, rfl, hpc, hpe⟩ := hpl.ex
  obtain ⟨sa, sc, rfl, hsc, hse⟩ := hsv.ex
  have hG := hP.good
  obtain ⟨hfrm, hspd, hacc⟩ := hG.nums
  have hne := hP.ne
  have hpsl := hP.psl
  simp only [List.length_map] at hbp htc hpc hsc
  obtain ⟨l, his, hca⟩ := hc
  obtain ⟨lo0, hi0, is0, hs1, hs2, hs3, hs4⟩ := cache_look hca k u
  refine fn_mod (b := bm) Tryd.func86 rfl (by kernel_rfl) Tryd.ntmps86 Tryd.results86 rfl hb ?_
  refine V_seq (V_region rfl ?_)
  refine L_go rfl (X_wr (w_box rfl rfl) ?_)
  rintro _ _ ⟨b1, hb1, rfl, rfl⟩
  refine L_go rfl (X_wr (w_alloc zr121 rfl) ?_)
  rintro _ _ ⟨b2, hb2, rfl, rfl⟩
  refine L_then (.cons (k := 0) rfl (.cons (k := 3) rfl (.cons (k := 4) rfl .nil))) ?_
  refine V_seq ?_
  refine V_seq (V_draw (.rd 0 (.rd 1 (.rd 2 (.rd 3 (.rd 4 (.rd 5 (.rd 6 (.rd 7 (.rd 8 (.wr 9 [8, 7, 6, 5, 4, 3, 2, 1, 0] (.wr 10 [8] (.rd 11 .done)))))))))))) mixed (by kernel_rfl) rfl ?_)
  refine D_p rfl (.plain rfl) (p_move rfl rfl) ?_
  refine D_p rfl (.plain rfl) (p_nil rfl rfl) ?_
  refine D_p rfl (.plain rfl) (p_fieldo fo101_2 rfl rfl) ?_
  refine D_rd rfl (.plain rfl) (r_loadB ag99 rfl rfl (own_cell hbp _) (by simp only [Vc.add_block, List.mem_singleton]; assumption)) ?_
  refine D_rd rfl (.plain rfl) (r_loadA (vs := [_, _]) ag174 sz174 rfl rfl (by repeat first | exact mH | apply mT) rfl) ?_
  refine D_rd rfl (.plain rfl) (show RdA _ _ _ _ (.tuple #[.agg #[.int .i64 lo0, .int .i64 hi0], .bool is0]) from hs1 ▸ hs2 ▸ r_look2 un99 lv174 ag174 zr121 rfl rfl rfl (k := [_, _]) rfl (by repeat first | exact mH | apply mT) his (cache_fit hca)) ?_
  refine D_p rfl (.plain rfl) (p_move rfl rfl) ?_
  refine D_p rfl (.plain rfl) (p_ext rfl rfl rfl) ?_
  refine D_p rfl (.plain rfl) (p_ext rfl rfl rfl) ?_
  refine D_wr (.go (E' := [(5, _), (4, _), (3, _)]) rfl (.plain rfl) (w_alloc zr121 rfl) rfl ?_)
  rintro _ _ ⟨b3, hb3, rfl, rfl⟩
  refine ⟨(.cons rfl (.plain rfl) (show RdA _ _ _ _ (.tuple #[.agg #[.int .i64 lo0, .int .i64 hi0], .bool is0]) from hs1 ▸ hs2 ▸ r_look2 un99 lv174 ag174 zr121 rfl rfl rfl (k := [_, _]) rfl (by repeat first | exact mH | apply mT) his (cache_fit hca)) (.cons rfl (.plain rfl) (r_loadA (vs := [_, _]) ag174 sz174 rfl rfl (by repeat first | exact mH | apply mT) rfl) (.cons rfl (.plain rfl) (r_loadB ag99 rfl rfl (own_cell hbp _) (by simp only [Vc.add_block, List.mem_singleton]; assumption)) .nil))), ?_⟩
  refine D_wr (.go (E' := []) rfl (.plain rfl) (w_store (cs' := [_, _]) sz121 rfl rfl rfl rfl rfl (by repeat first | exact .head | apply SetAt.tail) (Nat.le_of_ble_eq_true rfl) rfl) rfl ?_)
  rintro _ _ ⟨rfl, rfl⟩
  refine ⟨.nil, ?_⟩
  refine D_p rfl (.plain rfl) (p_assign rfl rfl) ?_
  refine D_then (.cons (k := 0) rfl (.cons (k := 3) rfl (.cons (k := 4) rfl (.cons (k := 5) rfl (.cons (k := 6) rfl .nil))))) ?_
  refine V_seq (V_region rfl ?_)
  refine L_go rfl (X_p (p_move rfl rfl) ?_)
  refine L_then (.cons (k := 0) rfl (.cons (k := 3) rfl (.cons (k := 4) rfl (.cons (k := 5) rfl (.cons (k := 23) rfl .nil))))) ?_
  refine V_cond rfl ?_ ?_
  · intro c1; try simp only [td] at c1
    refine V_seq (V_region rfl ?_)
    refine L_go rfl (X_rd (r_loadA (vs := [_, _]) ag121 sz121 rfl rfl (by repeat first | exact mH | apply mT) rfl) ?_)
    refine L_go rfl (X_wr (w_store (cs' := [_, _]) sz121 rfl rfl rfl rfl rfl (by repeat first | exact .head | apply SetAt.tail) (Nat.le_of_ble_eq_true rfl) rfl) ?_)
    rintro _ _ ⟨rfl, rfl⟩
    refine L_then (.cons (k := 4) rfl .nil) ?_
    refine V_ret (then_r ?_)
    refine Leave.nil (.cellA (us := [_, _]) rfl ag121 sz121 (by repeat first | exact mH | apply mT) rfl .nil) ?_
    obtain ⟨rfl, rfl⟩ := hs3 c1
    exact ⟨_, (by repeat first | exact mH | apply mT), rfl, _, _, rfl, l, his, hca⟩
  · intro c1; try simp only [td] at c1
    refine V_skip (then_n ?_)
    refine V_seq (V_region rfl ?_)
    refine L_go rfl (X_wr (w_alloc zr121 rfl) ?_)
    rintro _ _ ⟨b4, hb4, rfl, rfl⟩
    refine L_then (.cons (k := 0) rfl (.cons (k := 3) rfl (.cons (k := 4) rfl (.cons (k := 7) rfl .nil)))) ?_
    refine V_seq ?_
    refine V_seq (V_draw (.rd 0 (.rd 1 (.rd 2 (.rd 3 (.rd 4 (.rd 5 (.rd 6 (.rd 7 (.rd 8 .done))))))))) mixed (by kernel_rfl) rfl ?_)
    refine D_p rfl (.plain rfl) (p_fieldo fo174_1 rfl rfl) ?_
    refine D_rd rfl (.plain rfl) (r_load ag3 rfl rfl (by repeat first | exact mH | apply mT) rfl) ?_
    refine D_p rfl (.plain rfl) (p_move rfl rfl) ?_
    refine D_p rfl (.plain rfl) (p_nil rfl rfl) ?_
    refine D_p rfl (.plain rfl) (p_fieldo fo101_0 rfl rfl) ?_
    refine D_p rfl (.plain rfl) (p_fieldo fo54_0 rfl rfl) ?_
    refine D_rd rfl (.plain rfl) (r_loadB ag3 rfl rfl (own_cell hbp _) (by simp only [Vc.add_block, List.mem_singleton]; assumption)) ?_
    first | refine D_p rfl (.plain rfl) (p_sub' rfl rfl rfl (by unfold InI; omega)) ?_ | refine D_p rfl (.plain rfl) (p_sub rfl rfl rfl) ?_
    refine D_p rfl (.plain rfl) (p_assign rfl rfl) ?_
    refine D_then (.cons (k := 0) rfl (.cons (k := 3) rfl (.cons (k := 4) rfl (.cons (k := 7) rfl (.cons (k := 8) rfl .nil))))) ?_
    refine V_seq (V_region rfl ?_)
    refine L_go rfl (X_p (p_move rfl rfl) ?_)
    refine L_go rfl (X_p (p_gtr rfl rfl rfl) ?_)
    refine L_then (.cons (k := 0) rfl (.cons (k := 3) rfl (.cons (k := 4) rfl (.cons (k := 7) rfl (.cons (k := 8) rfl (.cons (k := 34) rfl .nil)))))) ?_
    refine V_cond rfl ?_ ?_
    · intro c2; try simp only [td] at c2
      have hrb := reachT_bnd hG (n := u - t.frm) (by omega)
      refine V_seq (V_region rfl ?_)
      refine L_go rfl (X_p (p_move rfl rfl) ?_)
      refine L_go rfl (X_p (p_move rfl rfl) ?_)
      refine L_go rfl (X_wr (w_callP rfl rfl rfl (fun w hg => reach_c bp bm _ t ps w (hP.good' hg) _ (by omega))) ?_)
      rintro _ _ ⟨rfl, rfl⟩
      refine L_go rfl (X_p (p_min rfl rfl rfl) ?_)
      refine L_go rfl (X_wr (w_callP rfl rfl rfl (fun w hg => around_c _ (by omega) w)) ?_)
      rintro _ _ ⟨rfl, rfl⟩
      refine L_go rfl (X_wr (w_store (cs' := [_, _]) sz121 rfl rfl rfl rfl rfl (by repeat first | exact .head | apply SetAt.tail) (Nat.le_of_ble_eq_true rfl) rfl) ?_)
      rintro _ _ ⟨rfl, rfl⟩
      refine L_then (.cons (k := 0) rfl (.cons (k := 3) rfl (.cons (k := 4) rfl (.cons (k := 7) rfl .nil)))) ?_
      refine V_seq (V_region rfl ?_)
      refine L_go rfl (X_p (p_fieldo fo174_0 rfl rfl) ?_)
      refine L_go rfl (X_rd (r_load ag3 rfl rfl (by repeat first | exact mH | apply mT) rfl) ?_)
      refine L_go rfl (X_wr (w_callP rfl rfl rfl (fun w hg => part_c k hk w)) ?_)
      rintro _ _ ⟨rfl, rfl⟩
      refine L_go rfl (X_p (p_assign rfl rfl) ?_)
      refine L_then (.cons (k := 0) rfl (.cons (k := 3) rfl (.cons (k := 4) rfl (.cons (k := 7) rfl (.cons (k := 9) rfl .nil))))) ?_
      refine V_seq (V_region rfl ?_)
      refine L_go rfl (X_p (p_move rfl rfl) ?_)
      refine L_go rfl (X_p (p_nil rfl rfl) ?_)
      refine L_go rfl (X_p (p_fieldo fo101_1 rfl rfl) ?_)
      refine L_go rfl (X_rd (r_loadB ag66 rfl rfl (own_cell hbp _) (by simp only [Vc.add_block, List.mem_singleton]; assumption)) ?_)
      refine L_go rfl (X_p (p_len isl66 rfl rfl) ?_)
      refine L_go rfl (X_p (p_move rfl rfl) ?_)
      refine L_then (.cons (k := 0) rfl (.cons (k := 3) rfl (.cons (k := 4) rfl (.cons (k := 7) rfl (.cons (k := 9) rfl (.cons (k := 46) rfl (.cons (k := 47) rfl (.cons (k := 48) rfl .nil)))))))) ?_
      refine V_block ?_
      refine V_loop1 (γ := Int × Span) (.cons (k := 0) rfl (.cons (k := 3) rfl (.cons (k := 4) rfl (.cons (k := 7) rfl (.cons (k := 9) rfl (.cons (k := 46) rfl (.cons (k := 47) rfl .nil))))))) (fun (j, s) => [(48, .int .i64 j)]) (fun (j, s) => [(b4, .cells #[.int .i64 s.lo, .int .i64 s.hi] 121), (b2, .cells #[.int .i64 0, .int .i64 0] 121), (b1, .cells #[.int .i64 k, .int .i64 u] 174), (bm, .map es clk)]) (fun (j, s) => 0 ≤ j ∧ j ≤ ps.length ∧ s = (ps.take j.toNat).foldl (fun s i => common s (plotS t k u i)) (room0 (min 2000000000 (reachT t (u - t.frm))))) (fun (j, s) => (ps.length - j).toNat) ((0, room0 (min 2000000000 (reachT t (u - t.frm))))) (.cons rfl (.nil _)) (by repeat (first | exact List.Sublist.refl _ | apply List.Sublist.cons_cons | apply List.Sublist.cons)) (⟨by omega, by omega, rfl⟩) ?_
      rintro ⟨j, s⟩ hi
      obtain ⟨hj0, hj1, hs⟩ := hi
      refine V_seq (V_region rfl ?_)
      refine L_go rfl (X_p (p_lss rfl rfl rfl) ?_)
      refine L_then (.cons (k := 0) rfl (.cons (k := 3) rfl (.cons (k := 4) rfl (.cons (k := 7) rfl (.cons (k := 9) rfl (.cons (k := 46) rfl (.cons (k := 47) rfl (.cons (k := 48) rfl (.cons (k := 49) rfl .nil))))))))) ?_
      refine V_seq ?_
      refine V_cond rfl ?_ ?_
      · intro c3; try simp only [td] at c3
        obtain ⟨sb, rfl, hsn, hcs⟩ := hse j.toNat _ (getD_cells (f := fun n : Int => [Value.int .i64 n]) (d := 0) (by omega))
        have hib := hP.bnd (ps.getD j.toNat 0) (getD_mem (by omega))
        have hii : (ps.getD j.toNat 0).toNat < t.plots.length := by omega
        obtain ⟨pb, rfl, hpn, hcp⟩ := hpe (ps.getD j.toNat 0).toNat _ (getD_cells (d := plZ) (by omega))
        have hsl := slack_bnd hG hii hu
        have hwd := width_bnd hG hii
        have hpt := part_bnd hG hii k
        have htk := (hG.plot hii).tick
        have hsl0 : slackT t u (ps.getD j.toNat 0).toNat = widthT t (ps.getD j.toNat 0).toNat + t.speed * apartI (t.pl (ps.getD j.toNat 0).toNat).tick u := rfl
        simp only [Task.pl] at hsl htk hsl0 hpt
        refine V_skip (then_n ?_)
        refine V_seq ?_
        refine V_block ?_
        refine V_seq (V_region rfl ?_)
        refine L_go rfl (X_p (p_idx es66 rfl rfl rfl (by omega) (by omega)) ?_)
        refine L_go rfl (X_rd (r_loadB ag3 rfl rfl hcs.zero (by simp only [Vc.add_block, List.mem_singleton]; assumption)) ?_)
        refine L_go rfl (X_p (p_assign rfl rfl) ?_)
        refine L_then (.cons (k := 0) rfl (.cons (k := 3) rfl (.cons (k := 4) rfl (.cons (k := 7) rfl (.cons (k := 9) rfl (.cons (k := 11) rfl (.cons (k := 46) rfl (.cons (k := 47) rfl (.cons (k := 48) rfl .nil))))))))) ?_
        refine V_seq (V_region rfl ?_)
        refine L_go rfl (X_p (p_move rfl rfl) ?_)
        refine L_go rfl (X_p (p_nil rfl rfl) ?_)
        refine L_go rfl (X_p (p_fieldo fo101_0 rfl rfl) ?_)
        refine L_go rfl (X_p (p_fieldo fo54_4 rfl rfl) ?_)
        refine L_go rfl (X_rd (r_loadB ag52 rfl rfl (own_cell hbp _) (by simp only [Vc.add_block, List.mem_singleton]; assumption)) ?_)
        refine L_go rfl (X_p (p_move rfl rfl) ?_)
        refine L_go rfl (X_p (p_idx es52 rfl rfl rfl (by omega) (by omega)) ?_)
        refine L_go rfl (X_rd (r_loadBA ag70 sz70 rfl rfl hcp rfl (by simp only [Vc.add_block, List.mem_singleton]; assumption)) ?_)
        refine L_go rfl (X_wr (w_alloc zr70 rfl) ?_)
        rintro _ _ ⟨b5, hb5, rfl, rfl⟩
        refine L_go rfl (X_wr (w_store (cs' := [_, _, _, _, _]) sz70 rfl rfl rfl rfl rfl (by repeat first | exact .head | apply SetAt.tail) (Nat.le_of_ble_eq_true rfl) rfl) ?_)
        rintro _ _ ⟨rfl, rfl⟩
        refine L_then (.cons (k := 0) rfl (.cons (k := 3) rfl (.cons (k := 4) rfl (.cons (k := 7) rfl (.cons (k := 9) rfl (.cons (k := 11) rfl (.cons (k := 12) rfl (.cons (k := 46) rfl (.cons (k := 47) rfl (.cons (k := 48) rfl .nil)))))))))) ?_
        refine V_seq (V_draw (.rd 0 (.rd 1 (.rd 3 (.rd 4 (.rd 5 (.rd 6 (.rd 7 (.rd 8 (.rd 9 (.rd 10 (.rd 11 (.wr 2 [11, 10, 9, 8, 7, 6, 5, 4, 3] (.wr 12 [10, 8, 7, 6, 5, 4, 3, 1, 0] (.rd 13 (.rd 14 (.rd 15 .done)))))))))))))))) mixed (by kernel_rfl) rfl ?_)
        refine D_p rfl (.plain rfl) (p_move rfl rfl) ?_
        refine D_p rfl (.plain rfl) (p_move rfl rfl) ?_
        refine D_p rfl (.plain rfl) (p_move rfl rfl) ?_
        refine D_p rfl (.plain rfl) (p_nil rfl rfl) ?_
        refine D_p rfl (.plain rfl) (p_fieldo fo101_0 rfl rfl) ?_
        refine D_p rfl (.plain rfl) (p_fieldo fo54_1 rfl rfl) ?_
        refine D_rd rfl (.plain rfl) (r_loadB ag3 rfl rfl (own_cell hbp _) (by simp only [Vc.add_block, List.mem_singleton]; assumption)) ?_
        refine D_p rfl (.plain rfl) (p_fieldo fo70_1 rfl rfl) ?_
        refine D_rd rfl (.plain rfl) (r_load ag3 rfl rfl (by repeat first | exact mH | apply mT) rfl) ?_
        refine D_p rfl (.plain rfl) (p_fieldo fo174_1 rfl rfl) ?_
        refine D_rd rfl (.plain rfl) (r_load ag3 rfl rfl (by repeat first | exact mH | apply mT) rfl) ?_
        refine D_wr (.go (E' := [(11, _), (9, _), (7, _)]) rfl (.plain rfl) (w_callP rfl rfl rfl (fun w hg => width_c bp bm _ t ps w (hP.good' hg) _ hib.1 hib.2)) rfl ?_)
        rintro _ _ ⟨rfl, rfl⟩
        refine ⟨(.cons rfl (.plain rfl) (r_load ag3 rfl rfl (by repeat first | exact mH | apply mT) rfl) (.cons rfl (.plain rfl) (r_load ag3 rfl rfl (by repeat first | exact mH | apply mT) rfl) (.cons rfl (.plain rfl) (r_loadB ag3 rfl rfl (own_cell hbp _) (by simp only [Vc.add_block, List.mem_singleton]; assumption)) .nil))), ?_⟩
        refine D_wr (.go (E' := [(7, _)]) rfl (.plain rfl) (w_callP rfl rfl rfl (fun w hg => apart_c _ _ (by omega) (by omega) w)) rfl ?_)
        rintro _ _ ⟨rfl, rfl⟩
        refine ⟨(.cons rfl (.plain rfl) (r_loadB ag3 rfl rfl (own_cell hbp _) (by simp only [Vc.add_block, List.mem_singleton]; assumption)) .nil), ?_⟩
        first | refine D_p rfl (.plain rfl) (p_mul' rfl rfl rfl (by unfold InI; omega)) ?_ | refine D_p rfl (.plain rfl) (p_mul rfl rfl rfl) ?_
        first | refine D_p rfl (.plain rfl) (p_add' rfl rfl rfl (by unfold InI; omega)) ?_ | refine D_p rfl (.plain rfl) (p_add rfl rfl rfl) ?_
        refine D_p rfl (.plain rfl) (p_assign rfl rfl) ?_
        refine D_then (.cons (k := 0) rfl (.cons (k := 3) rfl (.cons (k := 4) rfl (.cons (k := 7) rfl (.cons (k := 9) rfl (.cons (k := 12) rfl (.cons (k := 13) rfl (.cons (k := 46) rfl (.cons (k := 47) rfl (.cons (k := 48) rfl .nil)))))))))) ?_
        refine V_draw (.rd 0 (.rd 1 (.rd 3 (.rd 5 (.rd 6 (.rd 8 (.wr 2 [8, 6, 5, 3] (.rd 4 (.wr 7 [8, 4, 3, 1, 0] (.rd 9 (.wr 10 [8, 6, 5, 3, 1, 0] .done))))))))))) mixed (by kernel_rfl) rfl ?_
        refine D_p rfl (.plain rfl) (p_move rfl rfl) ?_
        refine D_rd rfl (.plain rfl) (r_loadA (vs := [_, _, _, _, _]) ag70 sz70 rfl rfl (by repeat first | exact mH | apply mT) rfl) ?_
        refine D_p rfl (.plain rfl) (p_move rfl rfl) ?_
        refine D_p rfl (.plain rfl) (p_move rfl rfl) ?_
        refine D_rd rfl (.plain rfl) (r_loadA (vs := [_, _, _, _, _]) ag70 sz70 rfl rfl (by repeat first | exact mH | apply mT) rfl) ?_
        refine D_p rfl (.plain rfl) (p_move rfl rfl) ?_
        refine D_wr (.go (E' := [(6, _)]) rfl (.plain rfl) (w_callP rfl rfl rfl (fun w hg => pf_c k (t.plots.getD (ps.getD j.toNat 0).toNat plZ) w)) rfl ?_)
        rintro _ _ ⟨rfl, rfl⟩
        refine ⟨(.cons rfl (.plain rfl) (r_loadA (vs := [_, _, _, _, _]) ag70 sz70 rfl rfl (by repeat first | exact mH | apply mT) rfl) .nil), ?_⟩
        first | refine D_p rfl (.plain rfl) (p_sub' rfl rfl rfl (by unfold InI; omega)) ?_ | refine D_p rfl (.plain rfl) (p_sub rfl rfl rfl) ?_
        refine D_wr (.go (E' := []) rfl (.plain rfl) (w_callP rfl rfl rfl (fun w hg => pf_c k (t.plots.getD (ps.getD j.toNat 0).toNat plZ) w)) rfl ?_)
        rintro _ _ ⟨rfl, rfl⟩
        refine ⟨.nil, ?_⟩
        first | refine D_p rfl (.plain rfl) (p_add' rfl rfl rfl (by unfold InI; omega)) ?_ | refine D_p rfl (.plain rfl) (p_add rfl rfl rfl) ?_
        refine D_wr (.go (E' := []) rfl (.plain rfl) (w_callM rfl rfl rfl (fun o' => (by repeat first | exact .head | apply SetAt.tail)) (fun w hg => narrow_c b4 s.lo s.hi 121 _ _ w (hg.own (b4, _) (by repeat first | exact mH | apply mT)))) rfl ?_)
        rintro _ _ ⟨_, rfl, rfl, rfl⟩
        refine ⟨.nil, ?_⟩
        refine D_keep (.cons (k := 0) rfl (.cons (k := 3) rfl (.cons (k := 4) rfl (.cons (k := 7) rfl (.cons (k := 9) rfl (.cons (k := 46) rfl (.cons (k := 47) rfl (.cons (k := 48) rfl .nil)))))))) (blk_n (then_n ?_))
        refine V_region rfl ?_
        first | refine L_go rfl (X_p (p_add' rfl rfl rfl (by unfold InI; omega)) ?_) | refine L_go rfl (X_p (p_add rfl rfl rfl) ?_)
        refine L_go rfl (X_p (p_move rfl rfl) ?_)
        refine L_keep (.cons (k := 0) rfl (.cons (k := 3) rfl (.cons (k := 4) rfl (.cons (k := 7) rfl (.cons (k := 9) rfl (.cons (k := 46) rfl (.cons (k := 47) rfl (.cons (k := 48) rfl .nil)))))))) (then_n ?_)
        refine ⟨(j + 1, common s (plotS t k u (ps.getD j.toNat 0))), ?_, ?_, (.cons rfl (.cons rfl (.cons rfl (.cons rfl (.cons rfl (.cons rfl (.cons rfl (.cons rfl (.nil _))))))))), (by repeat (first | exact List.Sublist.refl _ | apply List.Sublist.cons_cons | apply List.Sublist.cons | apply List.sublist_append_of_sublist_right)), rfl⟩
        · refine ⟨by omega, by omega, ?_⟩
          rw [show (j + 1).toNat = j.toNat + 1 by omega, take_snoc (d := 0) (by omega), List.foldl_append, ← hs]; rfl
        · dsimp only; omega
      · intro c3; try simp only [td] at c3
        have hsN : s = placeN t ps k u := by rw [hs, List.take_of_length_le (by omega)]; rfl
        refine V_exit (then_e (then_e (blk_e rfl (then_n ?_))))
        refine V_seq (V_draw (.rd 0 (.rd 1 (.rd 2 (.rd 3 (.rd 4 (.rd 5 (.wr 6 [] .done))))))) mixed (by kernel_rfl) rfl ?_)
        refine D_p rfl (.plain rfl) (p_move rfl rfl) ?_
        refine D_p rfl (.plain rfl) (p_nil rfl rfl) ?_
        refine D_p rfl (.plain rfl) (p_fieldo fo101_2 rfl rfl) ?_
        refine D_rd rfl (.plain rfl) (r_loadB ag99 rfl rfl (own_cell hbp _) (by simp only [Vc.add_block, List.mem_singleton]; assumption)) ?_
        refine D_rd rfl (.plain rfl) (r_loadA (vs := [_, _]) ag174 sz174 rfl rfl (by repeat first | exact mH | apply mT) rfl) ?_
        refine D_rd rfl (.plain rfl) (r_loadA (vs := [_, _]) ag121 sz121 rfl rfl (by repeat first | exact mH | apply mT) rfl) ?_
        refine D_wr (.go (E' := []) rfl (.plain rfl) (w_mapNew un99 lv174 ag174 rfl rfl rfl (k := [_, _]) rfl rfl (fun o' => (by repeat first | exact .head | apply SetAt.tail)) his (cache_fit hca) (hs4 c1)) rfl ?_)
        rintro _ _ ⟨es1, clk1, rfl, his1⟩
        refine ⟨.nil, ?_⟩
        refine D_then (.cons (k := 4) rfl (.cons (k := 7) rfl .nil)) ?_
        refine V_seq (V_region rfl ?_)
        refine L_go rfl (X_rd (r_loadA (vs := [_, _]) ag121 sz121 rfl rfl (by repeat first | exact mH | apply mT) rfl) ?_)
        refine L_go rfl (X_wr (w_store (cs' := [_, _]) sz121 rfl rfl rfl rfl rfl (by repeat first | exact .head | apply SetAt.tail) (Nat.le_of_ble_eq_true rfl) rfl) ?_)
        rintro _ _ ⟨rfl, rfl⟩
        refine L_then (.cons (k := 4) rfl .nil) ?_
        refine V_ret ?_
        refine Leave.nil (.cellA (us := [_, _]) rfl ag121 sz121 (by repeat first | exact mH | apply mT) rfl .nil) ?_
        have e : placeT t ps k u = s := by rw [placeT, if_pos (by omega), hsN]
        exact ⟨_, (by repeat first | exact mH | apply mT), by rw [e]; rfl, _, _, rfl, Cache.add hca his1 (by rw [e])⟩
    · intro c2; try simp only [td] at c2
      refine V_skip (then_n ?_)
      refine V_seq (V_draw (.rd 0 (.rd 1 (.rd 2 (.rd 3 (.rd 4 (.rd 5 (.wr 6 [] .done))))))) mixed (by kernel_rfl) rfl ?_)
      refine D_p rfl (.plain rfl) (p_move rfl rfl) ?_
      refine D_p rfl (.plain rfl) (p_nil rfl rfl) ?_
      refine D_p rfl (.plain rfl) (p_fieldo fo101_2 rfl rfl) ?_
      refine D_rd rfl (.plain rfl) (r_loadB ag99 rfl rfl (own_cell hbp _) (by simp only [Vc.add_block, List.mem_singleton]; assumption)) ?_
      refine D_rd rfl (.plain rfl) (r_loadA (vs := [_, _]) ag174 sz174 rfl rfl (by repeat first | exact mH | apply mT) rfl) ?_
      refine D_rd rfl (.plain rfl) (r_loadA (vs := [_, _]) ag121 sz121 rfl rfl (by repeat first | exact mH | apply mT) rfl) ?_
      refine D_wr (.go (E' := []) rfl (.plain rfl) (w_mapNew un99 lv174 ag174 rfl rfl rfl (k := [_, _]) rfl rfl (fun o' => (by repeat first | exact .head | apply SetAt.tail)) his (cache_fit hca) (hs4 c1)) rfl ?_)
      rintro _ _ ⟨es1, clk1, rfl, his1⟩
      refine ⟨.nil, ?_⟩
      refine D_then (.cons (k := 4) rfl (.cons (k := 7) rfl .nil)) ?_
      refine V_seq (V_region rfl ?_)
      refine L_go rfl (X_rd (r_loadA (vs := [_, _]) ag121 sz121 rfl rfl (by repeat first | exact mH | apply mT) rfl) ?_)
      refine L_go rfl (X_wr (w_store (cs' := [_, _]) sz121 rfl rfl rfl rfl rfl (by repeat first | exact .head | apply SetAt.tail) (Nat.le_of_ble_eq_true rfl) rfl) ?_)
      rintro _ _ ⟨rfl, rfl⟩
      refine L_then (.cons (k := 4) rfl .nil) ?_
      refine V_ret ?_
      refine Leave.nil (.cellA (us := [_, _]) rfl ag121 sz121 (by repeat first | exact mH | apply mT) rfl .nil) ?_
      have e : placeT t ps k u = ⟨0, 0⟩ := by rw [placeT, if_neg (by omega)]
      exact ⟨_, (by repeat first | exact mH | apply mT), by rw [e]; rfl, _, _, rfl, Cache.add hca his1 (by rw [e])⟩

end Go.Proofs.YtlcccpeelombbaaDoor

/- YtlcccpeelombbaaDoor: the walk of fast. -/
set_option linter.all false
namespace Go.Proofs.YtlcccpeelombbaaDoor
open Go.Vc Go.Tk
set_option maxRecDepth 100000
set_option maxHeartbeats 4000000 in
theorem fast_c (bp bm : Nat) (es : Array MapEntry) (clk : Nat) (t : Task) (ps : List Int) (k u : Int) (hk : k = 0 ∨ k = 1 ∨ k = 2) (hu : 0 ≤ u ∧ u ≤ 100000) (w : World) (hp : PickR w bp bm (.map (some bm)) t ps) (hc : Cache t ps es) (hb : w.heap[bm]? = some (.map es clk)) : FnC Tryd.prog 87 [.pointer (some ⟨bp, 0, none⟩), .agg #[.int .i64 k, .int .i64 u]] w fun v w' => ∃ o', Vc.Good w [bm] [(bm, o')] w' ∧ (FastV (fastT t ps k u) v ∧ ∃ es' clk', o' = .map es' clk' ∧ Cache t ps es') := by
  have hP := hp
  obtain ⟨tv, pv, sv, ty, fr, hbp, htr, hpl, hsv⟩ := hp.ex
  obtain ⟨ta, tc, rfl, htc, hte⟩ := htr.ex
  obtain ⟨pa, pc, rfl, hpc, hpe⟩ := hpl.ex
  obtain ⟨sa, sc, rfl, hsc, hse⟩ := hsv.ex
  have hG := hP.good
  obtain ⟨hfrm, hspd, hacc⟩ := hG.nums
  have hne := hP.ne
  have hpsl := hP.psl
  simp only [List.length_map] at hbp htc hpc hsc
  refine fn_mod (b := bm) Tryd.func87 rfl (by kernel_rfl) Tryd.ntmps87 Tryd.results87 rfl hb ?_
  refine V_seq (V_region rfl ?_)
  refine L_go rfl (X_wr (w_box rfl rfl) ?_)
  rintro _ _ ⟨b1, hb1, rfl, rfl⟩
  refine L_go rfl (X_wr (w_alloc zr121 rfl) ?_)
  rintro _ _ ⟨b2, hb2, rfl, rfl⟩
  refine L_go rfl (X_p (p_assign rfl rfl) ?_)
  refine L_then (.cons (k := 0) rfl (.cons (k := 3) rfl (.cons (k := 4) rfl .nil))) ?_
  refine V_seq ?_
  refine V_seq (V_draw (.rd 0 (.rd 1 (.rd 2 (.rd 3 (.rd 4 (.rd 5 (.rd 6 (.rd 7 .done)))))))) mixed (by kernel_rfl) rfl ?_)
  refine D_p rfl (.plain rfl) (p_fieldo fo174_1 rfl rfl) ?_
  refine D_rd rfl (.plain rfl) (r_load ag3 rfl rfl (by repeat first | exact mH | apply mT) rfl) ?_
  refine D_p rfl (.plain rfl) (p_move rfl rfl) ?_
  refine D_p rfl (.plain rfl) (p_nil rfl rfl) ?_
  refine D_p rfl (.plain rfl) (p_fieldo fo101_0 rfl rfl) ?_
  refine D_p rfl (.plain rfl) (p_fieldo fo54_0 rfl rfl) ?_
  refine D_rd rfl (.plain rfl) (r_loadB ag3 rfl rfl (own_cell hbp _) (by simp only [Vc.add_block, List.mem_singleton]; assumption)) ?_
  refine D_p rfl (.plain rfl) (p_lss rfl rfl rfl) ?_
  refine D_then (.cons (k := 0) rfl (.cons (k := 3) rfl (.cons (k := 4) rfl (.cons (k := 20) rfl .nil)))) ?_
  refine V_cond rfl ?_ ?_
  · intro c1; try simp only [td] at c1
    refine V_seq (V_region rfl ?_)
    refine L_go rfl (X_p (p_build (r := [_, _]) pl121 zr121 rfl rfl rfl) ?_)
    refine L_go rfl (X_wr (w_store (cs' := [_, _]) sz121 rfl rfl rfl rfl rfl (by repeat first | exact .head | apply SetAt.tail) (Nat.le_of_ble_eq_true rfl) rfl) ?_)
    rintro _ _ ⟨rfl, rfl⟩
    refine L_go rfl (X_p (p_assign rfl rfl) ?_)
    refine L_then (.cons (k := 4) rfl (.cons (k := 5) rfl .nil)) ?_
    refine V_ret (then_r ?_)
    refine Leave.nil (.cellA (us := [_, _]) rfl ag121 sz121 (by repeat first | exact mH | apply mT) rfl (.tmp rfl .nil)) ?_
    exact ⟨_, (by repeat first | exact mH | apply mT), ⟨0, 0, true, rfl, .inl ⟨rfl, by rw [fastT, if_pos (by omega)]⟩⟩, _, _, rfl, hc⟩
  · intro c1; try simp only [td] at c1
    have hm0 := mul_bnd (show 0 ≤ t.accel ∧ t.accel ≤ 1000000 by omega) (show 0 ≤ u - t.frm + 1 ∧ u - t.frm + 1 ≤ 100001 by omega)
    refine V_skip (then_n ?_)
    refine V_mid (γ := Nat × Nat × Array MapEntry × Nat) (.cons (k := 0) rfl (.cons (k := 3) rfl (.cons (k := 4) rfl .nil))) (fun (x6, x7, es1, clk1) => [(6, .pointer (some ⟨x6, 0, none⟩)), (7, .pointer (some ⟨x7, 0, none⟩))]) (fun (x6, x7, es1, clk1) => [(x6, .cells #[.int .i64 (-(min t.speed (t.accel * (u - t.frm + 1)))), .int .i64 (min t.speed (t.accel * (u - t.frm + 1)))] 121), (x7, .cells #[.int .i64 (placeT t ps k u).lo, .int .i64 (placeT t ps k u).hi] 121), (b2, .cells #[.int .i64 0, .int .i64 0] 121), (b1, .cells #[.int .i64 k, .int .i64 u] 174), (bm, .map es1 clk1)]) (fun (x6, x7, es1, clk1) => Cache t ps es1) ?_ ?_
    · refine V_draw (.rd 0 (.rd 1 (.rd 2 (.rd 3 (.rd 4 (.rd 5 (.rd 6 (.rd 7 (.rd 8 (.rd 9 (.rd 10 (.rd 11 (.rd 12 (.rd 13 (.rd 14 (.rd 15 (.rd 16 (.rd 17 (.rd 18 (.rd 19 (.rd 20 (.rd 22 (.rd 23 (.wr3 21 [23, 22, 19, 18, 17, 16, 15, 14, 13, 12, 11, 10, 9, 8, 7, 6, 5, 4, 3, 2, 1, 0] (.wr3 24 [20, 19, 18, 17, 16, 15, 14, 13, 12, 11, 10, 9, 8, 7, 6, 5, 4, 3, 2, 1, 0] (.wr2 25 [23, 22, 20, 19, 18, 17, 16, 15, 14, 13, 12, 11, 10, 9, 8, 7, 6, 5, 4, 3, 2, 1, 0] (.wr 26 [23, 22, 20, 19, 18, 17, 16, 15, 14, 13, 12, 11, 10, 9, 8, 7, 6, 5, 4, 3, 2, 1, 0] (.wr 27 [23, 22] (.wr 28 [] .done))) 26 [23, 22, 20, 19, 18, 17, 16, 15, 14, 13, 12, 11, 10, 9, 8, 7, 6, 5, 4, 3, 2, 1, 0] (.wr 25 [23, 22, 20, 19, 18, 17, 16, 15, 14, 13, 12, 11, 10, 9, 8, 7, 6, 5, 4, 3, 2, 1, 0] (.wr 27 [23, 22] (.wr 28 [] .done)))) 25 [23, 22, 20, 19, 18, 17, 16, 15, 14, 13, 12, 11, 10, 9, 8, 7, 6, 5, 4, 3, 2, 1, 0] (.wr2 24 [20, 19, 18, 17, 16, 15, 14, 13, 12, 11, 10, 9, 8, 7, 6, 5, 4, 3, 2, 1, 0] (.wr 26 [23, 22, 20, 19, 18, 17, 16, 15, 14, 13, 12, 11, 10, 9, 8, 7, 6, 5, 4, 3, 2, 1, 0] (.wr 27 [23, 22] (.wr 28 [] .done))) 26 [23, 22, 20, 19, 18, 17, 16, 15, 14, 13, 12, 11, 10, 9, 8, 7, 6, 5, 4, 3, 2, 1, 0] (.wr 24 [20, 19, 18, 17, 16, 15, 14, 13, 12, 11, 10, 9, 8, 7, 6, 5, 4, 3, 2, 1, 0] (.wr 27 [23, 22] (.wr 28 [] .done)))) 26 [23, 22, 20, 19, 18, 17, 16, 15, 14, 13, 12, 11, 10, 9, 8, 7, 6, 5, 4, 3, 2, 1, 0] (.wr2 24 [20, 19, 18, 17, 16, 15, 14, 13, 12, 11, 10, 9, 8, 7, 6, 5, 4, 3, 2, 1, 0] (.wr 25 [23, 22, 20, 19, 18, 17, 16, 15, 14, 13, 12, 11, 10, 9, 8, 7, 6, 5, 4, 3, 2, 1, 0] (.wr 27 [23, 22] (.wr 28 [] .done))) 25 [23, 22, 20, 19, 18, 17, 16, 15, 14, 13, 12, 11, 10, 9, 8, 7, 6, 5, 4, 3, 2, 1, 0] (.wr 24 [20, 19, 18, 17, 16, 15, 14, 13, 12, 11, 10, 9, 8, 7, 6, 5, 4, 3, 2, 1, 0] (.wr 27 [23, 22] (.wr 28 [] .done))))) 25 [23, 22, 20, 19, 18, 17, 16, 15, 14, 13, 12, 11, 10, 9, 8, 7, 6, 5, 4, 3, 2, 1, 0] (.wr2 21 [23, 22, 19, 18, 17, 16, 15, 14, 13, 12, 11, 10, 9, 8, 7, 6, 5, 4, 3, 2, 1, 0] (.wr2 24 [20, 19, 18, 17, 16, 15, 14, 13, 12, 11, 10, 9, 8, 7, 6, 5, 4, 3, 2, 1, 0] (.wr 26 [23, 22, 20, 19, 18, 17, 16, 15, 14, 13, 12, 11, 10, 9, 8, 7, 6, 5, 4, 3, 2, 1, 0] (.wr 27 [23, 22] (.wr 28 [] .done))) 26 [23, 22, 20, 19, 18, 17, 16, 15, 14, 13, 12, 11, 10, 9, 8, 7, 6, 5, 4, 3, 2, 1, 0] (.wr 24 [20, 19, 18, 17, 16, 15, 14, 13, 12, 11, 10, 9, 8, 7, 6, 5, 4, 3, 2, 1, 0] (.wr 27 [23, 22] (.wr 28 [] .done)))) 26 [23, 22, 20, 19, 18, 17, 16, 15, 14, 13, 12, 11, 10, 9, 8, 7, 6, 5, 4, 3, 2, 1, 0] (.wr 21 [23, 22, 19, 18, 17, 16, 15, 14, 13, 12, 11, 10, 9, 8, 7, 6, 5, 4, 3, 2, 1, 0] (.wr 24 [20, 19, 18, 17, 16, 15, 14, 13, 12, 11, 10, 9, 8, 7, 6, 5, 4, 3, 2, 1, 0] (.wr 27 [23, 22] (.wr 28 [] .done))))) 26 [23, 22, 20, 19, 18, 17, 16, 15, 14, 13, 12, 11, 10, 9, 8, 7, 6, 5, 4, 3, 2, 1, 0] (.wr2 21 [23, 22, 19, 18, 17, 16, 15, 14, 13, 12, 11, 10, 9, 8, 7, 6, 5, 4, 3, 2, 1, 0] (.wr2 24 [20, 19, 18, 17, 16, 15, 14, 13, 12, 11, 10, 9, 8, 7, 6, 5, 4, 3, 2, 1, 0] (.wr 25 [23, 22, 20, 19, 18, 17, 16, 15, 14, 13, 12, 11, 10, 9, 8, 7, 6, 5, 4, 3, 2, 1, 0] (.wr 27 [23, 22] (.wr 28 [] .done))) 25 [23, 22, 20, 19, 18, 17, 16, 15, 14, 13, 12, 11, 10, 9, 8, 7, 6, 5, 4, 3, 2, 1, 0] (.wr 24 [20, 19, 18, 17, 16, 15, 14, 13, 12, 11, 10, 9, 8, 7, 6, 5, 4, 3, 2, 1, 0] (.wr 27 [23, 22] (.wr 28 [] .done)))) 25 [23, 22, 20, 19, 18, 17, 16, 15, 14, 13, 12, 11, 10, 9, 8, 7, 6, 5, 4, 3, 2, 1, 0] (.wr 21 [23, 22, 19, 18, 17, 16, 15, 14, 13, 12, 11, 10, 9, 8, 7, 6, 5, 4, 3, 2, 1, 0] (.wr 24 [20, 19, 18, 17, 16, 15, 14, 13, 12, 11, 10, 9, 8, 7, 6, 5, 4, 3, 2, 1, 0] (.wr 27 [23, 22] (.wr 28 [] .done))))))))))))))))))))))))))))) mixed (by kernel_rfl) rfl ?_
      refine D_p rfl (.plain rfl) (p_move rfl rfl) ?_
      refine D_p rfl (.plain rfl) (p_nil rfl rfl) ?_
      refine D_p rfl (.plain rfl) (p_fieldo fo101_0 rfl rfl) ?_
      refine D_p rfl (.plain rfl) (p_fieldo fo54_1 rfl rfl) ?_
      refine D_rd rfl (.plain rfl) (r_loadB ag3 rfl rfl (own_cell hbp _) (by simp only [Vc.add_block, List.mem_singleton]; assumption)) ?_
      refine D_p rfl (.plain rfl) (p_move rfl rfl) ?_
      refine D_p rfl (.plain rfl) (p_nil rfl rfl) ?_
      refine D_p rfl (.plain rfl) (p_fieldo fo101_0 rfl rfl) ?_
      refine D_p rfl (.plain rfl) (p_fieldo fo54_2 rfl rfl) ?_
      refine D_rd rfl (.plain rfl) (r_loadB ag3 rfl rfl (own_cell hbp _) (by simp only [Vc.add_block, List.mem_singleton]; assumption)) ?_
      refine D_p rfl (.plain rfl) (p_fieldo fo174_1 rfl rfl) ?_
      refine D_rd rfl (.plain rfl) (r_load ag3 rfl rfl (by repeat first | exact mH | apply mT) rfl) ?_
      refine D_p rfl (.plain rfl) (p_move rfl rfl) ?_
      refine D_p rfl (.plain rfl) (p_nil rfl rfl) ?_
      refine D_p rfl (.plain rfl) (p_fieldo fo101_0 rfl rfl) ?_
      refine D_p rfl (.plain rfl) (p_fieldo fo54_0 rfl rfl) ?_
      refine D_rd rfl (.plain rfl) (r_loadB ag3 rfl rfl (own_cell hbp _) (by simp only [Vc.add_block, List.mem_singleton]; assumption)) ?_
      first | refine D_p rfl (.plain rfl) (p_sub' rfl rfl rfl (by unfold InI; omega)) ?_ | refine D_p rfl (.plain rfl) (p_sub rfl rfl rfl) ?_
      first | refine D_p rfl (.plain rfl) (p_add' rfl rfl rfl (by unfold InI; omega)) ?_ | refine D_p rfl (.plain rfl) (p_add rfl rfl rfl) ?_
      first | refine D_p rfl (.plain rfl) (p_mul' rfl rfl rfl (by unfold InI; omega)) ?_ | refine D_p rfl (.plain rfl) (p_mul rfl rfl rfl) ?_
      refine D_p rfl (.plain rfl) (p_min rfl rfl rfl) ?_
      refine D_p rfl (.plain rfl) (p_move rfl rfl) ?_
      refine D_rd rfl (.plain rfl) (r_loadA (vs := [_, _]) ag174 sz174 rfl rfl (by repeat first | exact mH | apply mT) rfl) ?_
      refine D_wr3 rfl rfl rfl ?_ ?_ ?_
      · refine (.go (E' := [(23, _), (16, _), (11, _), (9, _), (4, _)]) rfl (.plain rfl) (w_callP rfl rfl rfl (fun w hg => around_c _ (by omega) w)) rfl ?_)
        rintro _ _ ⟨rfl, rfl⟩
        refine ⟨(.cons rfl (.plain rfl) (r_loadA (vs := [_, _]) ag174 sz174 rfl rfl (by repeat first | exact mH | apply mT) rfl) (.cons rfl (.plain rfl) (r_loadB ag3 rfl rfl (own_cell hbp _) (by simp only [Vc.add_block, List.mem_singleton]; assumption)) (.cons rfl (.plain rfl) (r_load ag3 rfl rfl (by repeat first | exact mH | apply mT) rfl) (.cons rfl (.plain rfl) (r_loadB ag3 rfl rfl (own_cell hbp _) (by simp only [Vc.add_block, List.mem_singleton]; assumption)) (.cons rfl (.plain rfl) (r_loadB ag3 rfl rfl (own_cell hbp _) (by simp only [Vc.add_block, List.mem_singleton]; assumption)) .nil))))), ?_⟩
        refine D_wr3 rfl rfl rfl ?_ ?_ ?_
        · refine (.go (E' := [(16, _), (11, _), (9, _), (4, _)]) rfl (.plain rfl) (w_callM rfl rfl rfl (fun o' => (by repeat first | exact .head | apply SetAt.tail)) (fun w hg => place_c bp bm es clk t ps k u hk hu w (hP.good' hg) hc (hg.own (bm, _) (by repeat first | exact mH | apply mT)))) rfl ?_)
          rintro _ _ ⟨_, rfl, rfl, es1, clk1, rfl, hc1⟩
          refine ⟨(.cons rfl (.plain rfl) (r_loadB ag3 rfl rfl (own_cell hbp _) (by simp only [Vc.add_block, List.mem_singleton]; assumption)) (.cons rfl (.plain rfl) (r_load ag3 rfl rfl (by repeat first | exact mH | apply mT) rfl) (.cons rfl (.plain rfl) (r_loadB ag3 rfl rfl (own_cell hbp _) (by simp only [Vc.add_block, List.mem_singleton]; assumption)) (.cons rfl (.plain rfl) (r_loadB ag3 rfl rfl (own_cell hbp _) (by simp only [Vc.add_block, List.mem_singleton]; assumption)) .nil)))), ?_⟩
          refine D_wr2 rfl ?_ ?_
          · refine (.go (E' := [(16, _), (11, _), (9, _), (4, _)]) rfl (.plain rfl) (w_alloc zr121 rfl) rfl ?_)
            rintro _ _ ⟨b3, hb3, rfl, rfl⟩
            refine ⟨(.cons rfl (.plain rfl) (r_loadB ag3 rfl rfl (own_cell hbp _) (by simp only [Vc.add_block, List.mem_singleton]; assumption)) (.cons rfl (.plain rfl) (r_load ag3 rfl rfl (by repeat first | exact mH | apply mT) rfl) (.cons rfl (.plain rfl) (r_loadB ag3 rfl rfl (own_cell hbp _) (by simp only [Vc.add_block, List.mem_singleton]; assumption)) (.cons rfl (.plain rfl) (r_loadB ag3 rfl rfl (own_cell hbp _) (by simp only [Vc.add_block, List.mem_singleton]; assumption)) .nil)))), ?_⟩
            refine D_wr (.go (E' := [(16, _), (11, _), (9, _), (4, _)]) rfl (.plain rfl) (w_alloc zr121 rfl) rfl ?_)
            rintro _ _ ⟨b4, hb4, rfl, rfl⟩
            refine ⟨(.cons rfl (.plain rfl) (r_loadB ag3 rfl rfl (own_cell hbp _) (by simp only [Vc.add_block, List.mem_singleton]; assumption)) (.cons rfl (.plain rfl) (r_load ag3 rfl rfl (by repeat first | exact mH | apply mT) rfl) (.cons rfl (.plain rfl) (r_loadB ag3 rfl rfl (own_cell hbp _) (by simp only [Vc.add_block, List.mem_singleton]; assumption)) (.cons rfl (.plain rfl) (r_loadB ag3 rfl rfl (own_cell hbp _) (by simp only [Vc.add_block, List.mem_singleton]; assumption)) .nil)))), ?_⟩
            refine D_wr (.go (E' := []) rfl (.plain rfl) (w_store (cs' := [_, _]) sz121 rfl rfl rfl rfl rfl (by repeat first | exact .head | apply SetAt.tail) (Nat.le_of_ble_eq_true rfl) rfl) rfl ?_)
            rintro _ _ ⟨rfl, rfl⟩
            refine ⟨.nil, ?_⟩
            refine D_wr (.go (E' := []) rfl (.plain rfl) (w_store (cs' := [_, _]) sz121 rfl rfl rfl rfl rfl (by repeat first | exact .head | apply SetAt.tail) (Nat.le_of_ble_eq_true rfl) rfl) rfl ?_)
            rintro _ _ ⟨rfl, rfl⟩
            refine ⟨.nil, ?_⟩
            refine D_then (.cons (k := 0) rfl (.cons (k := 3) rfl (.cons (k := 4) rfl (.cons (k := 6) rfl (.cons (k := 7) rfl .nil))))) ?_
            refine ⟨(b3, b4, es1, clk1), hc1, (.cons rfl (.cons rfl (.cons rfl (.cons rfl (.cons rfl (.nil _)))))), (by (try dsimp only); repeat (first | exact HSub.nil _ | refine HSub.take (by repeat first | exact Take.head | apply Take.tail) ?_ | exact HSub.refl _ | refine HSub.drop ?_ | refine HSub.app ?_)), rfl⟩
          · refine (.go (E' := [(16, _), (11, _), (9, _), (4, _)]) rfl (.plain rfl) (w_alloc zr121 rfl) rfl ?_)
            rintro _ _ ⟨b3, hb3, rfl, rfl⟩
            refine ⟨(.cons rfl (.plain rfl) (r_loadB ag3 rfl rfl (own_cell hbp _) (by simp only [Vc.add_block, List.mem_singleton]; assumption)) (.cons rfl (.plain rfl) (r_load ag3 rfl rfl (by repeat first | exact mH | apply mT) rfl) (.cons rfl (.plain rfl) (r_loadB ag3 rfl rfl (own_cell hbp _) (by simp only [Vc.add_block, List.mem_singleton]; assumption)) (.cons rfl (.plain rfl) (r_loadB ag3 rfl rfl (own_cell hbp _) (by simp only [Vc.add_block, List.mem_singleton]; assumption)) .nil)))), ?_⟩
            refine D_wr (.go (E' := [(16, _), (11, _), (9, _), (4, _)]) rfl (.plain rfl) (w_alloc zr121 rfl) rfl ?_)
            rintro _ _ ⟨b4, hb4, rfl, rfl⟩
            refine ⟨(.cons rfl (.plain rfl) (r_loadB ag3 rfl rfl (own_cell hbp _) (by simp only [Vc.add_block, List.mem_singleton]; assumption)) (.cons rfl (.plain rfl) (r_load ag3 rfl rfl (by repeat first | exact mH | apply mT) rfl) (.cons rfl (.plain rfl) (r_loadB ag3 rfl rfl (own_cell hbp _) (by simp only [Vc.add_block, List.mem_singleton]; assumption)) (.cons rfl (.plain rfl) (r_loadB ag3 rfl rfl (own_cell hbp _) (by simp only [Vc.add_block, List.mem_singleton]; assumption)) .nil)))), ?_⟩
            refine D_wr (.go (E' := []) rfl (.plain rfl) (w_store (cs' := [_, _]) sz121 rfl rfl rfl rfl rfl (by repeat first | exact .head | apply SetAt.tail) (Nat.le_of_ble_eq_true rfl) rfl) rfl ?_)
            rintro _ _ ⟨rfl, rfl⟩
            refine ⟨.nil, ?_⟩
            refine D_wr (.go (E' := []) rfl (.plain rfl) (w_store (cs' := [_, _]) sz121 rfl rfl rfl rfl rfl (by repeat first | exact .head | apply SetAt.tail) (Nat.le_of_ble_eq_true rfl) rfl) rfl ?_)
            rintro _ _ ⟨rfl, rfl⟩
            refine ⟨.nil, ?_⟩
            refine D_then (.cons (k := 0) rfl (.cons (k := 3) rfl (.cons (k := 4) rfl (.cons (k := 6) rfl (.cons (k := 7) rfl .nil))))) ?_
            refine ⟨(b4, b3, es1, clk1), hc1, (.cons rfl (.cons rfl (.cons rfl (.cons rfl (.cons rfl (.nil _)))))), (by (try dsimp only); repeat (first | exact HSub.nil _ | refine HSub.take (by repeat first | exact Take.head | apply Take.tail) ?_ | exact HSub.refl _ | refine HSub.drop ?_ | refine HSub.app ?_)), rfl⟩
        · refine (.go (E' := [(23, _), (16, _), (11, _), (9, _), (4, _)]) rfl (.plain rfl) (w_alloc zr121 rfl) rfl ?_)
          rintro _ _ ⟨b3, hb3, rfl, rfl⟩
          refine ⟨(.cons rfl (.plain rfl) (r_loadA (vs := [_, _]) ag174 sz174 rfl rfl (by repeat first | exact mH | apply mT) rfl) (.cons rfl (.plain rfl) (r_loadB ag3 rfl rfl (own_cell hbp _) (by simp only [Vc.add_block, List.mem_singleton]; assumption)) (.cons rfl (.plain rfl) (r_load ag3 rfl rfl (by repeat first | exact mH | apply mT) rfl) (.cons rfl (.plain rfl) (r_loadB ag3 rfl rfl (own_cell hbp _) (by simp only [Vc.add_block, List.mem_singleton]; assumption)) (.cons rfl (.plain rfl) (r_loadB ag3 rfl rfl (own_cell hbp _) (by simp only [Vc.add_block, List.mem_singleton]; assumption)) .nil))))), ?_⟩
          refine D_wr2 rfl ?_ ?_
          · refine (.go (E' := [(16, _), (11, _), (9, _), (4, _)]) rfl (.plain rfl) (w_callM rfl rfl rfl (fun o' => (by repeat first | exact .head | apply SetAt.tail)) (fun w hg => place_c bp bm es clk t ps k u hk hu w (hP.good' hg) hc (hg.own (bm, _) (by repeat first | exact mH | apply mT)))) rfl ?_)
            rintro _ _ ⟨_, rfl, rfl, es1, clk1, rfl, hc1⟩
            refine ⟨(.cons rfl (.plain rfl) (r_loadB ag3 rfl rfl (own_cell hbp _) (by simp only [Vc.add_block, List.mem_singleton]; assumption)) (.cons rfl (.plain rfl) (r_load ag3 rfl rfl (by repeat first | exact mH | apply mT) rfl) (.cons rfl (.plain rfl) (r_loadB ag3 rfl rfl (own_cell hbp _) (by simp only [Vc.add_block, List.mem_singleton]; assumption)) (.cons rfl (.plain rfl) (r_loadB ag3 rfl rfl (own_cell hbp _) (by simp only [Vc.add_block, List.mem_singleton]; assumption)) .nil)))), ?_⟩
            refine D_wr (.go (E' := [(16, _), (11, _), (9, _), (4, _)]) rfl (.plain rfl) (w_alloc zr121 rfl) rfl ?_)
            rintro _ _ ⟨b4, hb4, rfl, rfl⟩
            refine ⟨(.cons rfl (.plain rfl) (r_loadB ag3 rfl rfl (own_cell hbp _) (by simp only [Vc.add_block, List.mem_singleton]; assumption)) (.cons rfl (.plain rfl) (r_load ag3 rfl rfl (by repeat first | exact mH | apply mT) rfl) (.cons rfl (.plain rfl) (r_loadB ag3 rfl rfl (own_cell hbp _) (by simp only [Vc.add_block, List.mem_singleton]; assumption)) (.cons rfl (.plain rfl) (r_loadB ag3 rfl rfl (own_cell hbp _) (by simp only [Vc.add_block, List.mem_singleton]; assumption)) .nil)))), ?_⟩
            refine D_wr (.go (E' := []) rfl (.plain rfl) (w_store (cs' := [_, _]) sz121 rfl rfl rfl rfl rfl (by repeat first | exact .head | apply SetAt.tail) (Nat.le_of_ble_eq_true rfl) rfl) rfl ?_)
            rintro _ _ ⟨rfl, rfl⟩
            refine ⟨.nil, ?_⟩
            refine D_wr (.go (E' := []) rfl (.plain rfl) (w_store (cs' := [_, _]) sz121 rfl rfl rfl rfl rfl (by repeat first | exact .head | apply SetAt.tail) (Nat.le_of_ble_eq_true rfl) rfl) rfl ?_)
            rintro _ _ ⟨rfl, rfl⟩
            refine ⟨.nil, ?_⟩
            refine D_then (.cons (k := 0) rfl (.cons (k := 3) rfl (.cons (k := 4) rfl (.cons (k := 6) rfl (.cons (k := 7) rfl .nil))))) ?_
            refine ⟨(b3, b4, es1, clk1), hc1, (.cons rfl (.cons rfl (.cons rfl (.cons rfl (.cons rfl (.nil _)))))), (by (try dsimp only); repeat (first | exact HSub.nil _ | refine HSub.take (by repeat first | exact Take.head | apply Take.tail) ?_ | exact HSub.refl _ | refine HSub.drop ?_ | refine HSub.app ?_)), rfl⟩
          · refine (.go (E' := [(23, _), (16, _), (11, _), (9, _), (4, _)]) rfl (.plain rfl) (w_alloc zr121 rfl) rfl ?_)
            rintro _ _ ⟨b4, hb4, rfl, rfl⟩
            refine ⟨(.cons rfl (.plain rfl) (r_loadA (vs := [_, _]) ag174 sz174 rfl rfl (by repeat first | exact mH | apply mT) rfl) (.cons rfl (.plain rfl) (r_loadB ag3 rfl rfl (own_cell hbp _) (by simp only [Vc.add_block, List.mem_singleton]; assumption)) (.cons rfl (.plain rfl) (r_load ag3 rfl rfl (by repeat first | exact mH | apply mT) rfl) (.cons rfl (.plain rfl) (r_loadB ag3 rfl rfl (own_cell hbp _) (by simp only [Vc.add_block, List.mem_singleton]; assumption)) (.cons rfl (.plain rfl) (r_loadB ag3 rfl rfl (own_cell hbp _) (by simp only [Vc.add_block, List.mem_singleton]; assumption)) .nil))))), ?_⟩
            refine D_wr (.go (E' := [(16, _), (11, _), (9, _), (4, _)]) rfl (.plain rfl) (w_callM rfl rfl rfl (fun o' => (by repeat first | exact .head | apply SetAt.tail)) (fun w hg => place_c bp bm es clk t ps k u hk hu w (hP.good' hg) hc (hg.own (bm, _) (by repeat first | exact mH | apply mT)))) rfl ?_)
            rintro _ _ ⟨_, rfl, rfl, es1, clk1, rfl, hc1⟩
            refine ⟨(.cons rfl (.plain rfl) (r_loadB ag3 rfl rfl (own_cell hbp _) (by simp only [Vc.add_block, List.mem_singleton]; assumption)) (.cons rfl (.plain rfl) (r_load ag3 rfl rfl (by repeat first | exact mH | apply mT) rfl) (.cons rfl (.plain rfl) (r_loadB ag3 rfl rfl (own_cell hbp _) (by simp only [Vc.add_block, List.mem_singleton]; assumption)) (.cons rfl (.plain rfl) (r_loadB ag3 rfl rfl (own_cell hbp _) (by simp only [Vc.add_block, List.mem_singleton]; assumption)) .nil)))), ?_⟩
            refine D_wr (.go (E' := []) rfl (.plain rfl) (w_store (cs' := [_, _]) sz121 rfl rfl rfl rfl rfl (by repeat first | exact .head | apply SetAt.tail) (Nat.le_of_ble_eq_true rfl) rfl) rfl ?_)
            rintro _ _ ⟨rfl, rfl⟩
            refine ⟨.nil, ?_⟩
            refine D_wr (.go (E' := []) rfl (.plain rfl) (w_store (cs' := [_, _]) sz121 rfl rfl rfl rfl rfl (by repeat first | exact .head | apply SetAt.tail) (Nat.le_of_ble_eq_true rfl) rfl) rfl ?_)
            rintro _ _ ⟨rfl, rfl⟩
            refine ⟨.nil, ?_⟩
            refine D_then (.cons (k := 0) rfl (.cons (k := 3) rfl (.cons (k := 4) rfl (.cons (k := 6) rfl (.cons (k := 7) rfl .nil))))) ?_
            refine ⟨(b3, b4, es1, clk1), hc1, (.cons rfl (.cons rfl (.cons rfl (.cons rfl (.cons rfl (.nil _)))))), (by (try dsimp only); repeat (first | exact HSub.nil _ | refine HSub.take (by repeat first | exact Take.head | apply Take.tail) ?_ | exact HSub.refl _ | refine HSub.drop ?_ | refine HSub.app ?_)), rfl⟩
        · refine (.go (E' := [(23, _), (16, _), (11, _), (9, _), (4, _)]) rfl (.plain rfl) (w_alloc zr121 rfl) rfl ?_)
          rintro _ _ ⟨b3, hb3, rfl, rfl⟩
          refine ⟨(.cons rfl (.plain rfl) (r_loadA (vs := [_, _]) ag174 sz174 rfl rfl (by repeat first | exact mH | apply mT) rfl) (.cons rfl (.plain rfl) (r_loadB ag3 rfl rfl (own_cell hbp _) (by simp only [Vc.add_block, List.mem_singleton]; assumption)) (.cons rfl (.plain rfl) (r_load ag3 rfl rfl (by repeat first | exact mH | apply mT) rfl) (.cons rfl (.plain rfl) (r_loadB ag3 rfl rfl (own_cell hbp _) (by simp only [Vc.add_block, List.mem_singleton]; assumption)) (.cons rfl (.plain rfl) (r_loadB ag3 rfl rfl (own_cell hbp _) (by simp only [Vc.add_block, List.mem_singleton]; assumption)) .nil))))), ?_⟩
          refine D_wr2 rfl ?_ ?_
          · refine (.go (E' := [(16, _), (11, _), (9, _), (4, _)]) rfl (.plain rfl) (w_callM rfl rfl rfl (fun o' => (by repeat first | exact .head | apply SetAt.tail)) (fun w hg => place_c bp bm es clk t ps k u hk hu w (hP.good' hg) hc (hg.own (bm, _) (by repeat first | exact mH | apply mT)))) rfl ?_)
            rintro _ _ ⟨_, rfl, rfl, es1, clk1, rfl, hc1⟩
            refine ⟨(.cons rfl (.plain rfl) (r_loadB ag3 rfl rfl (own_cell hbp _) (by simp only [Vc.add_block, List.mem_singleton]; assumption)) (.cons rfl (.plain rfl) (r_load ag3 rfl rfl (by repeat first | exact mH | apply mT) rfl) (.cons rfl (.plain rfl) (r_loadB ag3 rfl rfl (own_cell hbp _) (by simp only [Vc.add_block, List.mem_singleton]; assumption)) (.cons rfl (.plain rfl) (r_loadB ag3 rfl rfl (own_cell hbp _) (by simp only [Vc.add_block, List.mem_singleton]; assumption)) .nil)))), ?_⟩
            refine D_wr (.go (E' := [(16, _), (11, _), (9, _), (4, _)]) rfl (.plain rfl) (w_alloc zr121 rfl) rfl ?_)
            rintro _ _ ⟨b4, hb4, rfl, rfl⟩
            refine ⟨(.cons rfl (.plain rfl) (r_loadB ag3 rfl rfl (own_cell hbp _) (by simp only [Vc.add_block, List.mem_singleton]; assumption)) (.cons rfl (.plain rfl) (r_load ag3 rfl rfl (by repeat first | exact mH | apply mT) rfl) (.cons rfl (.plain rfl) (r_loadB ag3 rfl rfl (own_cell hbp _) (by simp only [Vc.add_block, List.mem_singleton]; assumption)) (.cons rfl (.plain rfl) (r_loadB ag3 rfl rfl (own_cell hbp _) (by simp only [Vc.add_block, List.mem_singleton]; assumption)) .nil)))), ?_⟩
            refine D_wr (.go (E' := []) rfl (.plain rfl) (w_store (cs' := [_, _]) sz121 rfl rfl rfl rfl rfl (by repeat first | exact .head | apply SetAt.tail) (Nat.le_of_ble_eq_true rfl) rfl) rfl ?_)
            rintro _ _ ⟨rfl, rfl⟩
            refine ⟨.nil, ?_⟩
            refine D_wr (.go (E' := []) rfl (.plain rfl) (w_store (cs' := [_, _]) sz121 rfl rfl rfl rfl rfl (by repeat first | exact .head | apply SetAt.tail) (Nat.le_of_ble_eq_true rfl) rfl) rfl ?_)
            rintro _ _ ⟨rfl, rfl⟩
            refine ⟨.nil, ?_⟩
            refine D_then (.cons (k := 0) rfl (.cons (k := 3) rfl (.cons (k := 4) rfl (.cons (k := 6) rfl (.cons (k := 7) rfl .nil))))) ?_
            refine ⟨(b4, b3, es1, clk1), hc1, (.cons rfl (.cons rfl (.cons rfl (.cons rfl (.cons rfl (.nil _)))))), (by (try dsimp only); repeat (first | exact HSub.nil _ | refine HSub.take (by repeat first | exact Take.head | apply Take.tail) ?_ | exact HSub.refl _ | refine HSub.drop ?_ | refine HSub.app ?_)), rfl⟩
          · refine (.go (E' := [(23, _), (16, _), (11, _), (9, _), (4, _)]) rfl (.plain rfl) (w_alloc zr121 rfl) rfl ?_)
            rintro _ _ ⟨b4, hb4, rfl, rfl⟩
            refine ⟨(.cons rfl (.plain rfl) (r_loadA (vs := [_, _]) ag174 sz174 rfl rfl (by repeat first | exact mH | apply mT) rfl) (.cons rfl (.plain rfl) (r_loadB ag3 rfl rfl (own_cell hbp _) (by simp only [Vc.add_block, List.mem_singleton]; assumption)) (.cons rfl (.plain rfl) (r_load ag3 rfl rfl (by repeat first | exact mH | apply mT) rfl) (.cons rfl (.plain rfl) (r_loadB ag3 rfl rfl (own_cell hbp _) (by simp only [Vc.add_block, List.mem_singleton]; assumption)) (.cons rfl (.plain rfl) (r_loadB ag3 rfl rfl (own_cell hbp _) (by simp only [Vc.add_block, List.mem_singleton]; assumption)) .nil))))), ?_⟩
            refine D_wr (.go (E' := [(16, _), (11, _), (9, _), (4, _)]) rfl (.plain rfl) (w_callM rfl rfl rfl (fun o' => (by repeat first | exact .head | apply SetAt.tail)) (fun w hg => place_c bp bm es clk t ps k u hk hu w (hP.good' hg) hc (hg.own (bm, _) (by repeat first | exact mH | apply mT)))) rfl ?_)
            rintro _ _ ⟨_, rfl, rfl, es1, clk1, rfl, hc1⟩
            refine ⟨(.cons rfl (.plain rfl) (r_loadB ag3 rfl rfl (own_cell hbp _) (by simp only [Vc.add_block, List.mem_singleton]; assumption)) (.cons rfl (.plain rfl) (r_load ag3 rfl rfl (by repeat first | exact mH | apply mT) rfl) (.cons rfl (.plain rfl) (r_loadB ag3 rfl rfl (own_cell hbp _) (by simp only [Vc.add_block, List.mem_singleton]; assumption)) (.cons rfl (.plain rfl) (r_loadB ag3 rfl rfl (own_cell hbp _) (by simp only [Vc.add_block, List.mem_singleton]; assumption)) .nil)))), ?_⟩
            refine D_wr (.go (E' := []) rfl (.plain rfl) (w_store (cs' := [_, _]) sz121 rfl rfl rfl rfl rfl (by repeat first | exact .head | apply SetAt.tail) (Nat.le_of_ble_eq_true rfl) rfl) rfl ?_)
            rintro _ _ ⟨rfl, rfl⟩
            refine ⟨.nil, ?_⟩
            refine D_wr (.go (E' := []) rfl (.plain rfl) (w_store (cs' := [_, _]) sz121 rfl rfl rfl rfl rfl (by repeat first | exact .head | apply SetAt.tail) (Nat.le_of_ble_eq_true rfl) rfl) rfl ?_)
            rintro _ _ ⟨rfl, rfl⟩
            refine ⟨.nil, ?_⟩
            refine D_then (.cons (k := 0) rfl (.cons (k := 3) rfl (.cons (k := 4) rfl (.cons (k := 6) rfl (.cons (k := 7) rfl .nil))))) ?_
            refine ⟨(b4, b3, es1, clk1), hc1, (.cons rfl (.cons rfl (.cons rfl (.cons rfl (.cons rfl (.nil _)))))), (by (try dsimp only); repeat (first | exact HSub.nil _ | refine HSub.take (by repeat first | exact Take.head | apply Take.tail) ?_ | exact HSub.refl _ | refine HSub.drop ?_ | refine HSub.app ?_)), rfl⟩
      · refine (.go (E' := [(23, _), (16, _), (11, _), (9, _), (4, _)]) rfl (.plain rfl) (w_alloc zr121 rfl) rfl ?_)
        rintro _ _ ⟨b3, hb3, rfl, rfl⟩
        refine ⟨(.cons rfl (.plain rfl) (r_loadA (vs := [_, _]) ag174 sz174 rfl rfl (by repeat first | exact mH | apply mT) rfl) (.cons rfl (.plain rfl) (r_loadB ag3 rfl rfl (own_cell hbp _) (by simp only [Vc.add_block, List.mem_singleton]; assumption)) (.cons rfl (.plain rfl) (r_load ag3 rfl rfl (by repeat first | exact mH | apply mT) rfl) (.cons rfl (.plain rfl) (r_loadB ag3 rfl rfl (own_cell hbp _) (by simp only [Vc.add_block, List.mem_singleton]; assumption)) (.cons rfl (.plain rfl) (r_loadB ag3 rfl rfl (own_cell hbp _) (by simp only [Vc.add_block, List.mem_singleton]; assumption)) .nil))))), ?_⟩
        refine D_wr2 rfl ?_ ?_
        · refine (.go (E' := [(23, _), (16, _), (11, _), (9, _), (4, _)]) rfl (.plain rfl) (w_callP rfl rfl rfl (fun w hg => around_c _ (by omega) w)) rfl ?_)
          rintro _ _ ⟨rfl, rfl⟩
          refine ⟨(.cons rfl (.plain rfl) (r_loadA (vs := [_, _]) ag174 sz174 rfl rfl (by repeat first | exact mH | apply mT) rfl) (.cons rfl (.plain rfl) (r_loadB ag3 rfl rfl (own_cell hbp _) (by simp only [Vc.add_block, List.mem_singleton]; assumption)) (.cons rfl (.plain rfl) (r_load ag3 rfl rfl (by repeat first | exact mH | apply mT) rfl) (.cons rfl (.plain rfl) (r_loadB ag3 rfl rfl (own_cell hbp _) (by simp only [Vc.add_block, List.mem_singleton]; assumption)) (.cons rfl (.plain rfl) (r_loadB ag3 rfl rfl (own_cell hbp _) (by simp only [Vc.add_block, List.mem_singleton]; assumption)) .nil))))), ?_⟩
          refine D_wr2 rfl ?_ ?_
          · refine (.go (E' := [(16, _), (11, _), (9, _), (4, _)]) rfl (.plain rfl) (w_callM rfl rfl rfl (fun o' => (by repeat first | exact .head | apply SetAt.tail)) (fun w hg => place_c bp bm es clk t ps k u hk hu w (hP.good' hg) hc (hg.own (bm, _) (by repeat first | exact mH | apply mT)))) rfl ?_)
            rintro _ _ ⟨_, rfl, rfl, es1, clk1, rfl, hc1⟩
            refine ⟨(.cons rfl (.plain rfl) (r_loadB ag3 rfl rfl (own_cell hbp _) (by simp only [Vc.add_block, List.mem_singleton]; assumption)) (.cons rfl (.plain rfl) (r_load ag3 rfl rfl (by repeat first | exact mH | apply mT) rfl) (.cons rfl (.plain rfl) (r_loadB ag3 rfl rfl (own_cell hbp _) (by simp only [Vc.add_block, List.mem_singleton]; assumption)) (.cons rfl (.plain rfl) (r_loadB ag3 rfl rfl (own_cell hbp _) (by simp only [Vc.add_block, List.mem_singleton]; assumption)) .nil)))), ?_⟩
            refine D_wr (.go (E' := [(16, _), (11, _), (9, _), (4, _)]) rfl (.plain rfl) (w_alloc zr121 rfl) rfl ?_)
            rintro _ _ ⟨b4, hb4, rfl, rfl⟩
            refine ⟨(.cons rfl (.plain rfl) (r_loadB ag3 rfl rfl (own_cell hbp _) (by simp only [Vc.add_block, List.mem_singleton]; assumption)) (.cons rfl (.plain rfl) (r_load ag3 rfl rfl (by repeat first | exact mH | apply mT) rfl) (.cons rfl (.plain rfl) (r_loadB ag3 rfl rfl (own_cell hbp _) (by simp only [Vc.add_block, List.mem_singleton]; assumption)) (.cons rfl (.plain rfl) (r_loadB ag3 rfl rfl (own_cell hbp _) (by simp only [Vc.add_block, List.mem_singleton]; assumption)) .nil)))), ?_⟩
            refine D_wr (.go (E' := []) rfl (.plain rfl) (w_store (cs' := [_, _]) sz121 rfl rfl rfl rfl rfl (by repeat first | exact .head | apply SetAt.tail) (Nat.le_of_ble_eq_true rfl) rfl) rfl ?_)
            rintro _ _ ⟨rfl, rfl⟩
            refine ⟨.nil, ?_⟩
            refine D_wr (.go (E' := []) rfl (.plain rfl) (w_store (cs' := [_, _]) sz121 rfl rfl rfl rfl rfl (by repeat first | exact .head | apply SetAt.tail) (Nat.le_of_ble_eq_true rfl) rfl) rfl ?_)
            rintro _ _ ⟨rfl, rfl⟩
            refine ⟨.nil, ?_⟩
            refine D_then (.cons (k := 0) rfl (.cons (k := 3) rfl (.cons (k := 4) rfl (.cons (k := 6) rfl (.cons (k := 7) rfl .nil))))) ?_
            refine ⟨(b3, b4, es1, clk1), hc1, (.cons rfl (.cons rfl (.cons rfl (.cons rfl (.cons rfl (.nil _)))))), (by (try dsimp only); repeat (first | exact HSub.nil _ | refine HSub.take (by repeat first | exact Take.head | apply Take.tail) ?_ | exact HSub.refl _ | refine HSub.drop ?_ | refine HSub.app ?_)), rfl⟩
          · refine (.go (E' := [(23, _), (16, _), (11, _), (9, _), (4, _)]) rfl (.plain rfl) (w_alloc zr121 rfl) rfl ?_)
            rintro _ _ ⟨b4, hb4, rfl, rfl⟩
            refine ⟨(.cons rfl (.plain rfl) (r_loadA (vs := [_, _]) ag174 sz174 rfl rfl (by repeat first | exact mH | apply mT) rfl) (.cons rfl (.plain rfl) (r_loadB ag3 rfl rfl (own_cell hbp _) (by simp only [Vc.add_block, List.mem_singleton]; assumption)) (.cons rfl (.plain rfl) (r_load ag3 rfl rfl (by repeat first | exact mH | apply mT) rfl) (.cons rfl (.plain rfl) (r_loadB ag3 rfl rfl (own_cell hbp _) (by simp only [Vc.add_block, List.mem_singleton]; assumption)) (.cons rfl (.plain rfl) (r_loadB ag3 rfl rfl (own_cell hbp _) (by simp only [Vc.add_block, List.mem_singleton]; assumption)) .nil))))), ?_⟩
            refine D_wr (.go (E' := [(16, _), (11, _), (9, _), (4, _)]) rfl (.plain rfl) (w_callM rfl rfl rfl (fun o' => (by repeat first | exact .head | apply SetAt.tail)) (fun w hg => place_c bp bm es clk t ps k u hk hu w (hP.good' hg) hc (hg.own (bm, _) (by repeat first | exact mH | apply mT)))) rfl ?_)
            rintro _ _ ⟨_, rfl, rfl, es1, clk1, rfl, hc1⟩
            refine ⟨(.cons rfl (.plain rfl) (r_loadB ag3 rfl rfl (own_cell hbp _) (by simp only [Vc.add_block, List.mem_singleton]; assumption)) (.cons rfl (.plain rfl) (r_load ag3 rfl rfl (by repeat first | exact mH | apply mT) rfl) (.cons rfl (.plain rfl) (r_loadB ag3 rfl rfl (own_cell hbp _) (by simp only [Vc.add_block, List.mem_singleton]; assumption)) (.cons rfl (.plain rfl) (r_loadB ag3 rfl rfl (own_cell hbp _) (by simp only [Vc.add_block, List.mem_singleton]; assumption)) .nil)))), ?_⟩
            refine D_wr (.go (E' := []) rfl (.plain rfl) (w_store (cs' := [_, _]) sz121 rfl rfl rfl rfl rfl (by repeat first | exact .head | apply SetAt.tail) (Nat.le_of_ble_eq_true rfl) rfl) rfl ?_)
            rintro _ _ ⟨rfl, rfl⟩
            refine ⟨.nil, ?_⟩
            refine D_wr (.go (E' := []) rfl (.plain rfl) (w_store (cs' := [_, _]) sz121 rfl rfl rfl rfl rfl (by repeat first | exact .head | apply SetAt.tail) (Nat.le_of_ble_eq_true rfl) rfl) rfl ?_)
            rintro _ _ ⟨rfl, rfl⟩
            refine ⟨.nil, ?_⟩
            refine D_then (.cons (k := 0) rfl (.cons (k := 3) rfl (.cons (k := 4) rfl (.cons (k := 6) rfl (.cons (k := 7) rfl .nil))))) ?_
            refine ⟨(b3, b4, es1, clk1), hc1, (.cons rfl (.cons rfl (.cons rfl (.cons rfl (.cons rfl (.nil _)))))), (by (try dsimp only); repeat (first | exact HSub.nil _ | refine HSub.take (by repeat first | exact Take.head | apply Take.tail) ?_ | exact HSub.refl _ | refine HSub.drop ?_ | refine HSub.app ?_)), rfl⟩
        · refine (.go (E' := [(23, _), (16, _), (11, _), (9, _), (4, _)]) rfl (.plain rfl) (w_alloc zr121 rfl) rfl ?_)
          rintro _ _ ⟨b4, hb4, rfl, rfl⟩
          refine ⟨(.cons rfl (.plain rfl) (r_loadA (vs := [_, _]) ag174 sz174 rfl rfl (by repeat first | exact mH | apply mT) rfl) (.cons rfl (.plain rfl) (r_loadB ag3 rfl rfl (own_cell hbp _) (by simp only [Vc.add_block, List.mem_singleton]; assumption)) (.cons rfl (.plain rfl) (r_load ag3 rfl rfl (by repeat first | exact mH | apply mT) rfl) (.cons rfl (.plain rfl) (r_loadB ag3 rfl rfl (own_cell hbp _) (by simp only [Vc.add_block, List.mem_singleton]; assumption)) (.cons rfl (.plain rfl) (r_loadB ag3 rfl rfl (own_cell hbp _) (by simp only [Vc.add_block, List.mem_singleton]; assumption)) .nil))))), ?_⟩
          refine D_wr (.go (E' := [(23, _), (16, _), (11, _), (9, _), (4, _)]) rfl (.plain rfl) (w_callP rfl rfl rfl (fun w hg => around_c _ (by omega) w)) rfl ?_)
          rintro _ _ ⟨rfl, rfl⟩
          refine ⟨(.cons rfl (.plain rfl) (r_loadA (vs := [_, _]) ag174 sz174 rfl rfl (by repeat first | exact mH | apply mT) rfl) (.cons rfl (.plain rfl) (r_loadB ag3 rfl rfl (own_cell hbp _) (by simp only [Vc.add_block, List.mem_singleton]; assumption)) (.cons rfl (.plain rfl) (r_load ag3 rfl rfl (by repeat first | exact mH | apply mT) rfl) (.cons rfl (.plain rfl) (r_loadB ag3 rfl rfl (own_cell hbp _) (by simp only [Vc.add_block, List.mem_singleton]; assumption)) (.cons rfl (.plain rfl) (r_loadB ag3 rfl rfl (own_cell hbp _) (by simp only [Vc.add_block, List.mem_singleton]; assumption)) .nil))))), ?_⟩
          refine D_wr (.go (E' := [(16, _), (11, _), (9, _), (4, _)]) rfl (.plain rfl) (w_callM rfl rfl rfl (fun o' => (by repeat first | exact .head | apply SetAt.tail)) (fun w hg => place_c bp bm es clk t ps k u hk hu w (hP.good' hg) hc (hg.own (bm, _) (by repeat first | exact mH | apply mT)))) rfl ?_)
          rintro _ _ ⟨_, rfl, rfl, es1, clk1, rfl, hc1⟩
          refine ⟨(.cons rfl (.plain rfl) (r_loadB ag3 rfl rfl (own_cell hbp _) (by simp only [Vc.add_block, List.mem_singleton]; assumption)) (.cons rfl (.plain rfl) (r_load ag3 rfl rfl (by repeat first | exact mH | apply mT) rfl) (.cons rfl (.plain rfl) (r_loadB ag3 rfl rfl (own_cell hbp _) (by simp only [Vc.add_block, List.mem_singleton]; assumption)) (.cons rfl (.plain rfl) (r_loadB ag3 rfl rfl (own_cell hbp _) (by simp only [Vc.add_block, List.mem_singleton]; assumption)) .nil)))), ?_⟩
          refine D_wr (.go (E' := []) rfl (.plain rfl) (w_store (cs' := [_, _]) sz121 rfl rfl rfl rfl rfl (by repeat first | exact .head | apply SetAt.tail) (Nat.le_of_ble_eq_true rfl) rfl) rfl ?_)
          rintro _ _ ⟨rfl, rfl⟩
          refine ⟨.nil, ?_⟩
          refine D_wr (.go (E' := []) rfl (.plain rfl) (w_store (cs' := [_, _]) sz121 rfl rfl rfl rfl rfl (by repeat first | exact .head | apply SetAt.tail) (Nat.le_of_ble_eq_true rfl) rfl) rfl ?_)
          rintro _ _ ⟨rfl, rfl⟩
          refine ⟨.nil, ?_⟩
          refine D_then (.cons (k := 0) rfl (.cons (k := 3) rfl (.cons (k := 4) rfl (.cons (k := 6) rfl (.cons (k := 7) rfl .nil))))) ?_
          refine ⟨(b3, b4, es1, clk1), hc1, (.cons rfl (.cons rfl (.cons rfl (.cons rfl (.cons rfl (.nil _)))))), (by (try dsimp only); repeat (first | exact HSub.nil _ | refine HSub.take (by repeat first | exact Take.head | apply Take.tail) ?_ | exact HSub.refl _ | refine HSub.drop ?_ | refine HSub.app ?_)), rfl⟩
      · refine (.go (E' := [(23, _), (16, _), (11, _), (9, _), (4, _)]) rfl (.plain rfl) (w_alloc zr121 rfl) rfl ?_)
        rintro _ _ ⟨b3, hb3, rfl, rfl⟩
        refine ⟨(.cons rfl (.plain rfl) (r_loadA (vs := [_, _]) ag174 sz174 rfl rfl (by repeat first | exact mH | apply mT) rfl) (.cons rfl (.plain rfl) (r_loadB ag3 rfl rfl (own_cell hbp _) (by simp only [Vc.add_block, List.mem_singleton]; assumption)) (.cons rfl (.plain rfl) (r_load ag3 rfl rfl (by repeat first | exact mH | apply mT) rfl) (.cons rfl (.plain rfl) (r_loadB ag3 rfl rfl (own_cell hbp _) (by simp only [Vc.add_block, List.mem_singleton]; assumption)) (.cons rfl (.plain rfl) (r_loadB ag3 rfl rfl (own_cell hbp _) (by simp only [Vc.add_block, List.mem_singleton]; assumption)) .nil))))), ?_⟩
        refine D_wr2 rfl ?_ ?_
        · refine (.go (E' := [(23, _), (16, _), (11, _), (9, _), (4, _)]) rfl (.plain rfl) (w_callP rfl rfl rfl (fun w hg => around_c _ (by omega) w)) rfl ?_)
          rintro _ _ ⟨rfl, rfl⟩
          refine ⟨(.cons rfl (.plain rfl) (r_loadA (vs := [_, _]) ag174 sz174 rfl rfl (by repeat first | exact mH | apply mT) rfl) (.cons rfl (.plain rfl) (r_loadB ag3 rfl rfl (own_cell hbp _) (by simp only [Vc.add_block, List.mem_singleton]; assumption)) (.cons rfl (.plain rfl) (r_load ag3 rfl rfl (by repeat first | exact mH | apply mT) rfl) (.cons rfl (.plain rfl) (r_loadB ag3 rfl rfl (own_cell hbp _) (by simp only [Vc.add_block, List.mem_singleton]; assumption)) (.cons rfl (.plain rfl) (r_loadB ag3 rfl rfl (own_cell hbp _) (by simp only [Vc.add_block, List.mem_singleton]; assumption)) .nil))))), ?_⟩
          refine D_wr2 rfl ?_ ?_
          · refine (.go (E' := [(16, _), (11, _), (9, _), (4, _)]) rfl (.plain rfl) (w_callM rfl rfl rfl (fun o' => (by repeat first | exact .head | apply SetAt.tail)) (fun w hg => place_c bp bm es clk t ps k u hk hu w (hP.good' hg) hc (hg.own (bm, _) (by repeat first | exact mH | apply mT)))) rfl ?_)
            rintro _ _ ⟨_, rfl, rfl, es1, clk1, rfl, hc1⟩
            refine ⟨(.cons rfl (.plain rfl) (r_loadB ag3 rfl rfl (own_cell hbp _) (by simp only [Vc.add_block, List.mem_singleton]; assumption)) (.cons rfl (.plain rfl) (r_load ag3 rfl rfl (by repeat first | exact mH | apply mT) rfl) (.cons rfl (.plain rfl) (r_loadB ag3 rfl rfl (own_cell hbp _) (by simp only [Vc.add_block, List.mem_singleton]; assumption)) (.cons rfl (.plain rfl) (r_loadB ag3 rfl rfl (own_cell hbp _) (by simp only [Vc.add_block, List.mem_singleton]; assumption)) .nil)))), ?_⟩
            refine D_wr (.go (E' := [(16, _), (11, _), (9, _), (4, _)]) rfl (.plain rfl) (w_alloc zr121 rfl) rfl ?_)
            rintro _ _ ⟨b4, hb4, rfl, rfl⟩
            refine ⟨(.cons rfl (.plain rfl) (r_loadB ag3 rfl rfl (own_cell hbp _) (by simp only [Vc.add_block, List.mem_singleton]; assumption)) (.cons rfl (.plain rfl) (r_load ag3 rfl rfl (by repeat first | exact mH | apply mT) rfl) (.cons rfl (.plain rfl) (r_loadB ag3 rfl rfl (own_cell hbp _) (by simp only [Vc.add_block, List.mem_singleton]; assumption)) (.cons rfl (.plain rfl) (r_loadB ag3 rfl rfl (own_cell hbp _) (by simp only [Vc.add_block, List.mem_singleton]; assumption)) .nil)))), ?_⟩
            refine D_wr (.go (E' := []) rfl (.plain rfl) (w_store (cs' := [_, _]) sz121 rfl rfl rfl rfl rfl (by repeat first | exact .head | apply SetAt.tail) (Nat.le_of_ble_eq_true rfl) rfl) rfl ?_)
            rintro _ _ ⟨rfl, rfl⟩
            refine ⟨.nil, ?_⟩
            refine D_wr (.go (E' := []) rfl (.plain rfl) (w_store (cs' := [_, _]) sz121 rfl rfl rfl rfl rfl (by repeat first | exact .head | apply SetAt.tail) (Nat.le_of_ble_eq_true rfl) rfl) rfl ?_)
            rintro _ _ ⟨rfl, rfl⟩
            refine ⟨.nil, ?_⟩
            refine D_then (.cons (k := 0) rfl (.cons (k := 3) rfl (.cons (k := 4) rfl (.cons (k := 6) rfl (.cons (k := 7) rfl .nil))))) ?_
            refine ⟨(b4, b3, es1, clk1), hc1, (.cons rfl (.cons rfl (.cons rfl (.cons rfl (.cons rfl (.nil _)))))), (by (try dsimp only); repeat (first | exact HSub.nil _ | refine HSub.take (by repeat first | exact Take.head | apply Take.tail) ?_ | exact HSub.refl _ | refine HSub.drop ?_ | refine HSub.app ?_)), rfl⟩
          · refine (.go (E' := [(23, _), (16, _), (11, _), (9, _), (4, _)]) rfl (.plain rfl) (w_alloc zr121 rfl) rfl ?_)
            rintro _ _ ⟨b4, hb4, rfl, rfl⟩
            refine ⟨(.cons rfl (.plain rfl) (r_loadA (vs := [_, _]) ag174 sz174 rfl rfl (by repeat first | exact mH | apply mT) rfl) (.cons rfl (.plain rfl) (r_loadB ag3 rfl rfl (own_cell hbp _) (by simp only [Vc.add_block, List.mem_singleton]; assumption)) (.cons rfl (.plain rfl) (r_load ag3 rfl rfl (by repeat first | exact mH | apply mT) rfl) (.cons rfl (.plain rfl) (r_loadB ag3 rfl rfl (own_cell hbp _) (by simp only [Vc.add_block, List.mem_singleton]; assumption)) (.cons rfl (.plain rfl) (r_loadB ag3 rfl rfl (own_cell hbp _) (by simp only [Vc.add_block, List.mem_singleton]; assumption)) .nil))))), ?_⟩
            refine D_wr (.go (E' := [(16, _), (11, _), (9, _), (4, _)]) rfl (.plain rfl) (w_callM rfl rfl rfl (fun o' => (by repeat first | exact .head | apply SetAt.tail)) (fun w hg => place_c bp bm es clk t ps k u hk hu w (hP.good' hg) hc (hg.own (bm, _) (by repeat first | exact mH | apply mT)))) rfl ?_)
            rintro _ _ ⟨_, rfl, rfl, es1, clk1, rfl, hc1⟩
            refine ⟨(.cons rfl (.plain rfl) (r_loadB ag3 rfl rfl (own_cell hbp _) (by simp only [Vc.add_block, List.mem_singleton]; assumption)) (.cons rfl (.plain rfl) (r_load ag3 rfl rfl (by repeat first | exact mH | apply mT) rfl) (.cons rfl (.plain rfl) (r_loadB ag3 rfl rfl (own_cell hbp _) (by simp only [Vc.add_block, List.mem_singleton]; assumption)) (.cons rfl (.plain rfl) (r_loadB ag3 rfl rfl (own_cell hbp _) (by simp only [Vc.add_block, List.mem_singleton]; assumption)) .nil)))), ?_⟩
            refine D_wr (.go (E' := []) rfl (.plain rfl) (w_store (cs' := [_, _]) sz121 rfl rfl rfl rfl rfl (by repeat first | exact .head | apply SetAt.tail) (Nat.le_of_ble_eq_true rfl) rfl) rfl ?_)
            rintro _ _ ⟨rfl, rfl⟩
            refine ⟨.nil, ?_⟩
            refine D_wr (.go (E' := []) rfl (.plain rfl) (w_store (cs' := [_, _]) sz121 rfl rfl rfl rfl rfl (by repeat first | exact .head | apply SetAt.tail) (Nat.le_of_ble_eq_true rfl) rfl) rfl ?_)
            rintro _ _ ⟨rfl, rfl⟩
            refine ⟨.nil, ?_⟩
            refine D_then (.cons (k := 0) rfl (.cons (k := 3) rfl (.cons (k := 4) rfl (.cons (k := 6) rfl (.cons (k := 7) rfl .nil))))) ?_
            refine ⟨(b4, b3, es1, clk1), hc1, (.cons rfl (.cons rfl (.cons rfl (.cons rfl (.cons rfl (.nil _)))))), (by (try dsimp only); repeat (first | exact HSub.nil _ | refine HSub.take (by repeat first | exact Take.head | apply Take.tail) ?_ | exact HSub.refl _ | refine HSub.drop ?_ | refine HSub.app ?_)), rfl⟩
        · refine (.go (E' := [(23, _), (16, _), (11, _), (9, _), (4, _)]) rfl (.plain rfl) (w_alloc zr121 rfl) rfl ?_)
          rintro _ _ ⟨b4, hb4, rfl, rfl⟩
          refine ⟨(.cons rfl (.plain rfl) (r_loadA (vs := [_, _]) ag174 sz174 rfl rfl (by repeat first | exact mH | apply mT) rfl) (.cons rfl (.plain rfl) (r_loadB ag3 rfl rfl (own_cell hbp _) (by simp only [Vc.add_block, List.mem_singleton]; assumption)) (.cons rfl (.plain rfl) (r_load ag3 rfl rfl (by repeat first | exact mH | apply mT) rfl) (.cons rfl (.plain rfl) (r_loadB ag3 rfl rfl (own_cell hbp _) (by simp only [Vc.add_block, List.mem_singleton]; assumption)) (.cons rfl (.plain rfl) (r_loadB ag3 rfl rfl (own_cell hbp _) (by simp only [Vc.add_block, List.mem_singleton]; assumption)) .nil))))), ?_⟩
          refine D_wr (.go (E' := [(23, _), (16, _), (11, _), (9, _), (4, _)]) rfl (.plain rfl) (w_callP rfl rfl rfl (fun w hg => around_c _ (by omega) w)) rfl ?_)
          rintro _ _ ⟨rfl, rfl⟩
          refine ⟨(.cons rfl (.plain rfl) (r_loadA (vs := [_, _]) ag174 sz174 rfl rfl (by repeat first | exact mH | apply mT) rfl) (.cons rfl (.plain rfl) (r_loadB ag3 rfl rfl (own_cell hbp _) (by simp only [Vc.add_block, List.mem_singleton]; assumption)) (.cons rfl (.plain rfl) (r_load ag3 rfl rfl (by repeat first | exact mH | apply mT) rfl) (.cons rfl (.plain rfl) (r_loadB ag3 rfl rfl (own_cell hbp _) (by simp only [Vc.add_block, List.mem_singleton]; assumption)) (.cons rfl (.plain rfl) (r_loadB ag3 rfl rfl (own_cell hbp _) (by simp only [Vc.add_block, List.mem_singleton]; assumption)) .nil))))), ?_⟩
          refine D_wr (.go (E' := [(16, _), (11, _), (9, _), (4, _)]) rfl (.plain rfl) (w_callM rfl rfl rfl (fun o' => (by repeat first | exact .head | apply SetAt.tail)) (fun w hg => place_c bp bm es clk t ps k u hk hu w (hP.good' hg) hc (hg.own (bm, _) (by repeat first | exact mH | apply mT)))) rfl ?_)
          rintro _ _ ⟨_, rfl, rfl, es1, clk1, rfl, hc1⟩
          refine ⟨(.cons rfl (.plain rfl) (r_loadB ag3 rfl rfl (own_cell hbp _) (by simp only [Vc.add_block, List.mem_singleton]; assumption)) (.cons rfl (.plain rfl) (r_load ag3 rfl rfl (by repeat first | exact mH | apply mT) rfl) (.cons rfl (.plain rfl) (r_loadB ag3 rfl rfl (own_cell hbp _) (by simp only [Vc.add_block, List.mem_singleton]; assumption)) (.cons rfl (.plain rfl) (r_loadB ag3 rfl rfl (own_cell hbp _) (by simp only [Vc.add_block, List.mem_singleton]; assumption)) .nil)))), ?_⟩
          refine D_wr (.go (E' := []) rfl (.plain rfl) (w_store (cs' := [_, _]) sz121 rfl rfl rfl rfl rfl (by repeat first | exact .head | apply SetAt.tail) (Nat.le_of_ble_eq_true rfl) rfl) rfl ?_)
          rintro _ _ ⟨rfl, rfl⟩
          refine ⟨.nil, ?_⟩
          refine D_wr (.go (E' := []) rfl (.plain rfl) (w_store (cs' := [_, _]) sz121 rfl rfl rfl rfl rfl (by repeat first | exact .head | apply SetAt.tail) (Nat.le_of_ble_eq_true rfl) rfl) rfl ?_)
          rintro _ _ ⟨rfl, rfl⟩
          refine ⟨.nil, ?_⟩
          refine D_then (.cons (k := 0) rfl (.cons (k := 3) rfl (.cons (k := 4) rfl (.cons (k := 6) rfl (.cons (k := 7) rfl .nil))))) ?_
          refine ⟨(b4, b3, es1, clk1), hc1, (.cons rfl (.cons rfl (.cons rfl (.cons rfl (.cons rfl (.nil _)))))), (by (try dsimp only); repeat (first | exact HSub.nil _ | refine HSub.take (by repeat first | exact Take.head | apply Take.tail) ?_ | exact HSub.refl _ | refine HSub.drop ?_ | refine HSub.app ?_)), rfl⟩
    · rintro ⟨x6, x7, es1, clk1⟩ hc1
      refine V_seq ?_
      refine V_seq (V_region rfl ?_)
      refine L_go rfl (X_p (p_assign rfl rfl) ?_)
      refine L_then (.cons (k := 0) rfl (.cons (k := 3) rfl (.cons (k := 4) rfl (.cons (k := 6) rfl (.cons (k := 7) rfl (.cons (k := 8) rfl .nil)))))) ?_
      refine V_block ?_
      refine V_loop1 (γ := Int × Span × Array MapEntry × Nat) (.cons (k := 0) rfl (.cons (k := 3) rfl (.cons (k := 4) rfl (.cons (k := 6) rfl (.cons (k := 7) rfl .nil))))) (fun (j, s, es1, clk1) => [(8, .int .i64 j)]) (fun (j, s, es1, clk1) => [(x6, .cells #[.int .i64 s.lo, .int .i64 s.hi] 121), (x7, .cells #[.int .i64 (placeT t ps k u).lo, .int .i64 (placeT t ps k u).hi] 121), (b2, .cells #[.int .i64 0, .int .i64 0] 121), (b1, .cells #[.int .i64 k, .int .i64 u] 174), (bm, .map es1 clk1)]) (fun (j, s, es1, clk1) => 1 ≤ j ∧ j ≤ 9 ∧ fastN t ps k u (j - 1).toNat = some s ∧ Cache t ps es1) (fun (j, s, es1, clk1) => (9 - j).toNat) ((1, room0 (min t.speed (t.accel * (u - t.frm + 1))), es1, clk1)) (.cons rfl (.nil _)) (by repeat (first | exact List.Sublist.refl _ | apply List.Sublist.cons_cons | apply List.Sublist.cons)) (⟨by omega, by omega, rfl, hc1⟩) ?_
      rintro ⟨j, s, es1, clk1⟩ hi
      obtain ⟨hj0, hj1, hN, hc1⟩ := hi
      refine V_seq ?_
      refine V_seq (V_region rfl ?_)
      refine L_go rfl (X_p (p_move rfl rfl) ?_)
      refine L_go rfl (X_p (p_leq rfl rfl rfl) ?_)
      refine L_then (.cons (k := 0) rfl (.cons (k := 3) rfl (.cons (k := 4) rfl (.cons (k := 6) rfl (.cons (k := 7) rfl (.cons (k := 8) rfl (.cons (k := 48) rfl .nil))))))) ?_
      refine V_cond rfl ?_ ?_
      · intro c2; try simp only [td] at c2
        have hmb := moreB_bnd hG (j := j) ⟨by omega, by omega⟩
        have hmf := moreF_bnd hG (j := j) ⟨by omega, by omega⟩
        have hmb3 : 0 ≤ moreB t j ∧ moreB t j ≤ 72000000 := hmb.2.2
        have hmf3 : 0 ≤ moreF t j ∧ moreF t j ≤ 56000000 := hmf.2.2
        have hpu := placeT_bnd hG hP.bnd hu.2 k
        unfold SpanB at hpu
        refine V_skip (then_n ?_)
        refine V_seq ?_
        refine V_block ?_
        refine V_seq ?_
        refine V_seq (V_draw (.rd 0 (.rd 1 (.rd 2 (.rd 3 (.rd 4 (.rd 5 (.rd 6 (.rd 7 (.rd 8 (.rd 9 .done)))))))))) mixed (by kernel_rfl) rfl ?_)
        refine D_p rfl (.plain rfl) (p_fieldo fo174_1 rfl rfl) ?_
        refine D_rd rfl (.plain rfl) (r_load ag3 rfl rfl (by repeat first | exact mH | apply mT) rfl) ?_
        refine D_p rfl (.plain rfl) (p_move rfl rfl) ?_
        first | refine D_p rfl (.plain rfl) (p_sub' rfl rfl rfl (by unfold InI; omega)) ?_ | refine D_p rfl (.plain rfl) (p_sub rfl rfl rfl) ?_
        refine D_p rfl (.plain rfl) (p_move rfl rfl) ?_
        refine D_p rfl (.plain rfl) (p_nil rfl rfl) ?_
        refine D_p rfl (.plain rfl) (p_fieldo fo101_0 rfl rfl) ?_
        refine D_p rfl (.plain rfl) (p_fieldo fo54_0 rfl rfl) ?_
        refine D_rd rfl (.plain rfl) (r_loadB ag3 rfl rfl (own_cell hbp _) (by simp only [Vc.add_block, List.mem_singleton]; assumption)) ?_
        refine D_p rfl (.plain rfl) (p_geq rfl rfl rfl) ?_
        refine D_then (.cons (k := 0) rfl (.cons (k := 3) rfl (.cons (k := 4) rfl (.cons (k := 6) rfl (.cons (k := 7) rfl (.cons (k := 8) rfl (.cons (k := 60) rfl .nil))))))) ?_
        refine V_cond rfl ?_ ?_
        · intro c3; try simp only [td] at c3
          have hpv := placeT_bnd hG hP.bnd (u := u - j) (by omega) k
          unfold SpanB at hpv
          refine V_mid (γ := Nat × Array MapEntry × Nat) (.cons (k := 0) rfl (.cons (k := 3) rfl (.cons (k := 4) rfl (.cons (k := 6) rfl (.cons (k := 7) rfl (.cons (k := 8) rfl .nil)))))) (fun (x9, es2, clk2) => [(9, .pointer (some ⟨x9, 0, none⟩)), (10, .int .i64 (moreB t j))]) (fun (x9, es2, clk2) => [(x9, .cells #[.int .i64 (placeT t ps k (u - j)).lo, .int .i64 (placeT t ps k (u - j)).hi] 121), (x6, .cells #[.int .i64 s.lo, .int .i64 s.hi] 121), (x7, .cells #[.int .i64 (placeT t ps k u).lo, .int .i64 (placeT t ps k u).hi] 121), (b2, .cells #[.int .i64 0, .int .i64 0] 121), (b1, .cells #[.int .i64 k, .int .i64 u] 174), (bm, .map es2 clk2)]) (fun (x9, es2, clk2) => Cache t ps es2) ?_ ?_
          · refine V_draw (.rd 0 (.rd 1 (.rd 2 (.rd 3 (.rd 4 (.rd 5 (.rd 6 (.rd 7 (.rd 9 (.rd 10 (.rd 11 (.rd 12 (.rd 13 (.rd 14 (.rd 15 (.rd 16 (.rd 17 (.rd 18 (.rd 19 (.wr2 8 [19, 18, 17, 16, 15, 14, 13, 12, 11, 10, 9, 6, 5, 4, 3, 2, 1] (.wr 20 [19, 18, 17, 16, 15, 14, 13, 12, 11, 10, 9, 7, 6, 5, 4, 3, 2, 1, 0] (.wr 21 [19, 18, 17, 16, 15, 14, 12, 11, 10, 9] (.rd 22 .done))) 20 [19, 18, 17, 16, 15, 14, 13, 12, 11, 10, 9, 7, 6, 5, 4, 3, 2, 1, 0] (.wr 8 [19, 18, 17, 16, 15, 14, 13, 12, 11, 10, 9, 6, 5, 4, 3, 2, 1] (.wr 21 [19, 18, 17, 16, 15, 14, 12, 11, 10, 9] (.rd 22 .done))))))))))))))))))))))) mixed (by kernel_rfl) rfl ?_
            refine D_p rfl (.plain rfl) (p_move rfl rfl) ?_
            refine D_p rfl (.plain rfl) (p_fieldo fo174_0 rfl rfl) ?_
            refine D_rd rfl (.plain rfl) (r_load ag3 rfl rfl (by repeat first | exact mH | apply mT) rfl) ?_
            refine D_p rfl (.plain rfl) (p_fieldo fo174_1 rfl rfl) ?_
            refine D_rd rfl (.plain rfl) (r_load ag3 rfl rfl (by repeat first | exact mH | apply mT) rfl) ?_
            refine D_p rfl (.plain rfl) (p_move rfl rfl) ?_
            first | refine D_p rfl (.plain rfl) (p_sub' rfl rfl rfl (by unfold InI; omega)) ?_ | refine D_p rfl (.plain rfl) (p_sub rfl rfl rfl) ?_
            refine D_p rfl (.plain rfl) (p_build (r := [_, _]) pl174 zr174 rfl rfl rfl) ?_
            refine D_p rfl (.plain rfl) (p_move rfl rfl) ?_
            refine D_p rfl (.plain rfl) (p_nil rfl rfl) ?_
            refine D_p rfl (.plain rfl) (p_fieldo fo101_0 rfl rfl) ?_
            refine D_p rfl (.plain rfl) (p_fieldo fo54_2 rfl rfl) ?_
            refine D_rd rfl (.plain rfl) (r_loadB ag3 rfl rfl (own_cell hbp _) (by simp only [Vc.add_block, List.mem_singleton]; assumption)) ?_
            refine D_p rfl (.plain rfl) (p_move rfl rfl) ?_
            refine D_p rfl (.plain rfl) (p_move rfl rfl) ?_
            first | refine D_p rfl (.plain rfl) (p_add' rfl rfl rfl (by unfold InI; omega)) ?_ | refine D_p rfl (.plain rfl) (p_add rfl rfl rfl) ?_
            first | refine D_p rfl (.plain rfl) (p_mul' rfl rfl rfl (by unfold InI; omega)) ?_ | refine D_p rfl (.plain rfl) (p_mul rfl rfl rfl) ?_
            first | refine D_p rfl (.plain rfl) (p_quo' rfl rfl rfl (by first | decide | omega) (by unfold InI; omega)) ?_ | refine D_p rfl (.plain rfl) (p_quo rfl rfl rfl (by first | decide | omega)) ?_
            first | refine D_p rfl (.plain rfl) (p_mul' rfl rfl rfl (by unfold InI; omega)) ?_ | refine D_p rfl (.plain rfl) (p_mul rfl rfl rfl) ?_
            refine D_wr2 rfl ?_ ?_
            · refine (.go (E' := [(13, _), (4, _), (2, _)]) rfl (.plain rfl) (w_callM rfl rfl rfl (fun o' => (by repeat first | exact .head | apply SetAt.tail)) (fun w hg => place_c bp bm es1 clk1 t ps k (u - j) hk (by omega) w (hP.good' hg) hc1 (hg.own (bm, _) (by repeat first | exact mH | apply mT)))) rfl ?_)
              rintro _ _ ⟨_, rfl, rfl, es2, clk2, rfl, hc2⟩
              refine ⟨(.cons rfl (.plain rfl) (r_loadB ag3 rfl rfl (own_cell hbp _) (by simp only [Vc.add_block, List.mem_singleton]; assumption)) (.cons rfl (.plain rfl) (r_load ag3 rfl rfl (by repeat first | exact mH | apply mT) rfl) (.cons rfl (.plain rfl) (r_load ag3 rfl rfl (by repeat first | exact mH | apply mT) rfl) .nil))), ?_⟩
              refine D_wr (.go (E' := [(13, _), (4, _), (2, _)]) rfl (.plain rfl) (w_alloc zr121 rfl) rfl ?_)
              rintro _ _ ⟨b3, hb3, rfl, rfl⟩
              refine ⟨(.cons rfl (.plain rfl) (r_loadB ag3 rfl rfl (own_cell hbp _) (by simp only [Vc.add_block, List.mem_singleton]; assumption)) (.cons rfl (.plain rfl) (r_load ag3 rfl rfl (by repeat first | exact mH | apply mT) rfl) (.cons rfl (.plain rfl) (r_load ag3 rfl rfl (by repeat first | exact mH | apply mT) rfl) .nil))), ?_⟩
              refine D_wr (.go (E' := []) rfl (.plain rfl) (w_store (cs' := [_, _]) sz121 rfl rfl rfl rfl rfl (by repeat first | exact .head | apply SetAt.tail) (Nat.le_of_ble_eq_true rfl) rfl) rfl ?_)
              rintro _ _ ⟨rfl, rfl⟩
              refine ⟨.nil, ?_⟩
              refine D_p rfl (.plain rfl) (p_assign rfl rfl) ?_
              refine D_then (.cons (k := 0) rfl (.cons (k := 3) rfl (.cons (k := 4) rfl (.cons (k := 6) rfl (.cons (k := 7) rfl (.cons (k := 8) rfl (.cons (k := 9) rfl (.cons (k := 10) rfl .nil)))))))) ?_
              refine ⟨(b3, es2, clk2), hc2, (.cons rfl (.cons rfl (.cons rfl (.cons rfl (.cons rfl (.cons rfl (.cons rfl (.cons rfl (.nil _))))))))), (by (try dsimp only); repeat (first | exact HSub.nil _ | refine HSub.take (by repeat first | exact Take.head | apply Take.tail) ?_ | exact HSub.refl _ | refine HSub.drop ?_ | refine HSub.app ?_)), rfl⟩
            · refine (.go (E' := [(13, _), (4, _), (2, _)]) rfl (.plain rfl) (w_alloc zr121 rfl) rfl ?_)
              rintro _ _ ⟨b3, hb3, rfl, rfl⟩
              refine ⟨(.cons rfl (.plain rfl) (r_loadB ag3 rfl rfl (own_cell hbp _) (by simp only [Vc.add_block, List.mem_singleton]; assumption)) (.cons rfl (.plain rfl) (r_load ag3 rfl rfl (by repeat first | exact mH | apply mT) rfl) (.cons rfl (.plain rfl) (r_load ag3 rfl rfl (by repeat first | exact mH | apply mT) rfl) .nil))), ?_⟩
              refine D_wr (.go (E' := [(13, _), (4, _), (2, _)]) rfl (.plain rfl) (w_callM rfl rfl rfl (fun o' => (by repeat first | exact .head | apply SetAt.tail)) (fun w hg => place_c bp bm es1 clk1 t ps k (u - j) hk (by omega) w (hP.good' hg) hc1 (hg.own (bm, _) (by repeat first | exact mH | apply mT)))) rfl ?_)
              rintro _ _ ⟨_, rfl, rfl, es2, clk2, rfl, hc2⟩
              refine ⟨(.cons rfl (.plain rfl) (r_loadB ag3 rfl rfl (own_cell hbp _) (by simp only [Vc.add_block, List.mem_singleton]; assumption)) (.cons rfl (.plain rfl) (r_load ag3 rfl rfl (by repeat first | exact mH | apply mT) rfl) (.cons rfl (.plain rfl) (r_load ag3 rfl rfl (by repeat first | exact mH | apply mT) rfl) .nil))), ?_⟩
              refine D_wr (.go (E' := []) rfl (.plain rfl) (w_store (cs' := [_, _]) sz121 rfl rfl rfl rfl rfl (by repeat first | exact .head | apply SetAt.tail) (Nat.le_of_ble_eq_true rfl) rfl) rfl ?_)
              rintro _ _ ⟨rfl, rfl⟩
              refine ⟨.nil, ?_⟩
              refine D_p rfl (.plain rfl) (p_assign rfl rfl) ?_
              refine D_then (.cons (k := 0) rfl (.cons (k := 3) rfl (.cons (k := 4) rfl (.cons (k := 6) rfl (.cons (k := 7) rfl (.cons (k := 8) rfl (.cons (k := 9) rfl (.cons (k := 10) rfl .nil)))))))) ?_
              refine ⟨(b3, es2, clk2), hc2, (.cons rfl (.cons rfl (.cons rfl (.cons rfl (.cons rfl (.cons rfl (.cons rfl (.cons rfl (.nil _))))))))), (by (try dsimp only); repeat (first | exact HSub.nil _ | refine HSub.take (by repeat first | exact Take.head | apply Take.tail) ?_ | exact HSub.refl _ | refine HSub.drop ?_ | refine HSub.app ?_)), rfl⟩
          · rintro ⟨x9, es2, clk2⟩ hc2
            refine V_seq ?_
            refine V_seq (V_region rfl ?_)
            refine L_go rfl (X_wr (w_callP rfl rfl rfl (fun w hg => empty_c x9 _ _ 121 w (hg.own (x9, _) (by repeat first | exact mH | apply mT)))) ?_)
            rintro _ _ ⟨rfl, rfl⟩
            refine L_then (.cons (k := 0) rfl (.cons (k := 3) rfl (.cons (k := 4) rfl (.cons (k := 6) rfl (.cons (k := 7) rfl (.cons (k := 8) rfl (.cons (k := 9) rfl (.cons (k := 10) rfl (.cons (k := 81) rfl .nil))))))))) ?_
            refine V_cond rfl ?_ ?_
            · intro c4; try simp only [td] at c4
              refine V_seq (V_region rfl ?_)
              refine L_go rfl (X_rd (r_loadA (vs := [_, _]) ag121 sz121 rfl rfl (by repeat first | exact mH | apply mT) rfl) ?_)
              refine L_go rfl (X_wr (w_store (cs' := [_, _]) sz121 rfl rfl rfl rfl rfl (by repeat first | exact .head | apply SetAt.tail) (Nat.le_of_ble_eq_true rfl) rfl) ?_)
              rintro _ _ ⟨rfl, rfl⟩
              refine L_go rfl (X_p (p_assign rfl rfl) ?_)
              refine L_then (.cons (k := 4) rfl (.cons (k := 5) rfl .nil)) ?_
              refine V_ret (then_r (then_r (blk_r (then_r (then_r (blk_r (then_r ?_)))))))
              refine Leave.nil (.cellA (us := [_, _]) rfl ag121 sz121 (by repeat first | exact mH | apply mT) rfl (.tmp rfl .nil)) ?_
              exact ⟨_, (by repeat first | exact mH | apply mT), ⟨_, _, false, rfl, .inr ⟨rfl, fastT_none1 (by omega) ⟨by omega, by omega⟩ hN (fastB_none (by omega) c4)⟩⟩, _, _, rfl, hc2⟩
            · intro c4; try simp only [td] at c4
              refine V_skip (then_n ?_)
              refine V_region rfl ?_
              refine L_go rfl (X_p (p_fieldo fo121_0 rfl rfl) ?_)
              refine L_go rfl (X_p (p_fieldo fo24_0 rfl rfl) ?_)
              refine L_go rfl (X_rd (r_load ag3 rfl rfl (by repeat first | exact mH | apply mT) rfl) ?_)
              refine L_go rfl (X_p (p_fieldo fo121_0 rfl rfl) ?_)
              refine L_go rfl (X_p (p_fieldo fo24_1 rfl rfl) ?_)
              refine L_go rfl (X_rd (r_load ag3 rfl rfl (by repeat first | exact mH | apply mT) rfl) ?_)
              first | refine L_go rfl (X_p (p_sub' rfl rfl rfl (by unfold InI; omega)) ?_) | refine L_go rfl (X_p (p_sub rfl rfl rfl) ?_)
              refine L_go rfl (X_p (p_move rfl rfl) ?_)
              first | refine L_go rfl (X_p (p_sub' rfl rfl rfl (by unfold InI; omega)) ?_) | refine L_go rfl (X_p (p_sub rfl rfl rfl) ?_)
              refine L_go rfl (X_p (p_fieldo fo121_0 rfl rfl) ?_)
              refine L_go rfl (X_p (p_fieldo fo24_1 rfl rfl) ?_)
              refine L_go rfl (X_rd (r_load ag3 rfl rfl (by repeat first | exact mH | apply mT) rfl) ?_)
              refine L_go rfl (X_p (p_fieldo fo121_0 rfl rfl) ?_)
              refine L_go rfl (X_p (p_fieldo fo24_0 rfl rfl) ?_)
              refine L_go rfl (X_rd (r_load ag3 rfl rfl (by repeat first | exact mH | apply mT) rfl) ?_)
              first | refine L_go rfl (X_p (p_sub' rfl rfl rfl (by unfold InI; omega)) ?_) | refine L_go rfl (X_p (p_sub rfl rfl rfl) ?_)
              refine L_go rfl (X_p (p_move rfl rfl) ?_)
              first | refine L_go rfl (X_p (p_add' rfl rfl rfl (by unfold InI; omega)) ?_) | refine L_go rfl (X_p (p_add rfl rfl rfl) ?_)
              refine L_go rfl (X_p (p_move rfl rfl) ?_)
              refine L_go rfl (X_wr (w_callM rfl rfl rfl (fun o' => (by repeat first | exact .head | apply SetAt.tail)) (fun w hg => gone_c x6 s.lo s.hi 121 _ _ _ (by omega) (by omega) (by omega) w (hg.own (x6, _) (by repeat first | exact mH | apply mT)))) ?_)
              rintro _ _ ⟨_, rfl, rfl, rfl⟩
              refine L_then (.cons (k := 0) rfl (.cons (k := 3) rfl (.cons (k := 4) rfl (.cons (k := 6) rfl (.cons (k := 7) rfl (.cons (k := 8) rfl .nil)))))) ?_
              refine V_seq (V_region rfl ?_)
              refine L_go rfl (X_p (p_fieldo fo174_1 rfl rfl) ?_)
              refine L_go rfl (X_rd (r_load ag3 rfl rfl (by repeat first | exact mH | apply mT) rfl) ?_)
              refine L_go rfl (X_p (p_move rfl rfl) ?_)
              first | refine L_go rfl (X_p (p_add' rfl rfl rfl (by unfold InI; omega)) ?_) | refine L_go rfl (X_p (p_add rfl rfl rfl) ?_)
              refine L_go rfl (X_p (p_leq rfl rfl rfl) ?_)
              refine L_then (.cons (k := 0) rfl (.cons (k := 3) rfl (.cons (k := 4) rfl (.cons (k := 6) rfl (.cons (k := 7) rfl (.cons (k := 8) rfl (.cons (k := 107) rfl .nil))))))) ?_
              refine V_cond rfl ?_ ?_
              · intro c5; try simp only [td] at c5
                have hpw := placeT_bnd hG hP.bnd (u := u + j) (by omega) k
                unfold SpanB at hpw
                refine V_mid (γ := Nat × Array MapEntry × Nat) (.cons (k := 0) rfl (.cons (k := 3) rfl (.cons (k := 4) rfl (.cons (k := 6) rfl (.cons (k := 7) rfl (.cons (k := 8) rfl .nil)))))) (fun (x11, es3, clk3) => [(11, .pointer (some ⟨x11, 0, none⟩)), (12, .int .i64 (moreF t j))]) (fun (x11, es3, clk3) => [(x11, .cells #[.int .i64 (placeT t ps k (u + j)).lo, .int .i64 (placeT t ps k (u + j)).hi] 121), (x6, .cells #[.int .i64 (sB t ps k u j s).lo, .int .i64 (sB t ps k u j s).hi] 121), (x7, .cells #[.int .i64 (placeT t ps k u).lo, .int .i64 (placeT t ps k u).hi] 121), (b2, .cells #[.int .i64 0, .int .i64 0] 121), (b1, .cells #[.int .i64 k, .int .i64 u] 174), (bm, .map es3 clk3)]) (fun (x11, es3, clk3) => Cache t ps es3) ?_ ?_
                · refine V_draw (.rd 0 (.rd 1 (.rd 2 (.rd 3 (.rd 4 (.rd 5 (.rd 6 (.rd 7 (.rd 9 (.rd 10 (.rd 11 (.rd 12 (.rd 13 (.rd 14 (.rd 15 (.rd 16 (.rd 17 (.rd 18 (.rd 19 (.wr2 8 [19, 18, 17, 16, 15, 14, 13, 12, 11, 10, 9, 6, 5, 4, 3, 2, 1] (.wr 20 [19, 18, 17, 16, 15, 14, 13, 12, 11, 10, 9, 7, 6, 5, 4, 3, 2, 1, 0] (.wr 21 [19, 18, 17, 16, 15, 14, 12, 11, 10, 9] (.rd 22 .done))) 20 [19, 18, 17, 16, 15, 14, 13, 12, 11, 10, 9, 7, 6, 5, 4, 3, 2, 1, 0] (.wr 8 [19, 18, 17, 16, 15, 14, 13, 12, 11, 10, 9, 6, 5, 4, 3, 2, 1] (.wr 21 [19, 18, 17, 16, 15, 14, 12, 11, 10, 9] (.rd 22 .done))))))))))))))))))))))) mixed (by kernel_rfl) rfl ?_
                  refine D_p rfl (.plain rfl) (p_move rfl rfl) ?_
                  refine D_p rfl (.plain rfl) (p_fieldo fo174_0 rfl rfl) ?_
                  refine D_rd rfl (.plain rfl) (r_load ag3 rfl rfl (by repeat first | exact mH | apply mT) rfl) ?_
                  refine D_p rfl (.plain rfl) (p_fieldo fo174_1 rfl rfl) ?_
                  refine D_rd rfl (.plain rfl) (r_load ag3 rfl rfl (by repeat first | exact mH | apply mT) rfl) ?_
                  refine D_p rfl (.plain rfl) (p_move rfl rfl) ?_
                  first | refine D_p rfl (.plain rfl) (p_add' rfl rfl rfl (by unfold InI; omega)) ?_ | refine D_p rfl (.plain rfl) (p_add rfl rfl rfl) ?_
                  refine D_p rfl (.plain rfl) (p_build (r := [_, _]) pl174 zr174 rfl rfl rfl) ?_
                  refine D_p rfl (.plain rfl) (p_move rfl rfl) ?_
                  refine D_p rfl (.plain rfl) (p_nil rfl rfl) ?_
                  refine D_p rfl (.plain rfl) (p_fieldo fo101_0 rfl rfl) ?_
                  refine D_p rfl (.plain rfl) (p_fieldo fo54_2 rfl rfl) ?_
                  refine D_rd rfl (.plain rfl) (r_loadB ag3 rfl rfl (own_cell hbp _) (by simp only [Vc.add_block, List.mem_singleton]; assumption)) ?_
                  refine D_p rfl (.plain rfl) (p_move rfl rfl) ?_
                  refine D_p rfl (.plain rfl) (p_move rfl rfl) ?_
                  first | refine D_p rfl (.plain rfl) (p_sub' rfl rfl rfl (by unfold InI; omega)) ?_ | refine D_p rfl (.plain rfl) (p_sub rfl rfl rfl) ?_
                  first | refine D_p rfl (.plain rfl) (p_mul' rfl rfl rfl (by unfold InI; omega)) ?_ | refine D_p rfl (.plain rfl) (p_mul rfl rfl rfl) ?_
                  first | refine D_p rfl (.plain rfl) (p_quo' rfl rfl rfl (by first | decide | omega) (by unfold InI; omega)) ?_ | refine D_p rfl (.plain rfl) (p_quo rfl rfl rfl (by first | decide | omega)) ?_
                  first | refine D_p rfl (.plain rfl) (p_mul' rfl rfl rfl (by unfold InI; omega)) ?_ | refine D_p rfl (.plain rfl) (p_mul rfl rfl rfl) ?_
                  refine D_wr2 rfl ?_ ?_
                  · refine (.go (E' := [(13, _), (4, _), (2, _)]) rfl (.plain rfl) (w_callM rfl rfl rfl (fun o' => (by repeat first | exact .head | apply SetAt.tail)) (fun w hg => place_c bp bm es2 clk2 t ps k (u + j) hk (by omega) w (hP.good' hg) hc2 (hg.own (bm, _) (by repeat first | exact mH | apply mT)))) rfl ?_)
                    rintro _ _ ⟨_, rfl, rfl, es3, clk3, rfl, hc3⟩
                    refine ⟨(.cons rfl (.plain rfl) (r_loadB ag3 rfl rfl (own_cell hbp _) (by simp only [Vc.add_block, List.mem_singleton]; assumption)) (.cons rfl (.plain rfl) (r_load ag3 rfl rfl (by repeat first | exact mH | apply mT) rfl) (.cons rfl (.plain rfl) (r_load ag3 rfl rfl (by repeat first | exact mH | apply mT) rfl) .nil))), ?_⟩
                    refine D_wr (.go (E' := [(13, _), (4, _), (2, _)]) rfl (.plain rfl) (w_alloc zr121 rfl) rfl ?_)
                    rintro _ _ ⟨b3, hb3, rfl, rfl⟩
                    refine ⟨(.cons rfl (.plain rfl) (r_loadB ag3 rfl rfl (own_cell hbp _) (by simp only [Vc.add_block, List.mem_singleton]; assumption)) (.cons rfl (.plain rfl) (r_load ag3 rfl rfl (by repeat first | exact mH | apply mT) rfl) (.cons rfl (.plain rfl) (r_load ag3 rfl rfl (by repeat first | exact mH | apply mT) rfl) .nil))), ?_⟩
                    refine D_wr (.go (E' := []) rfl (.plain rfl) (w_store (cs' := [_, _]) sz121 rfl rfl rfl rfl rfl (by repeat first | exact .head | apply SetAt.tail) (Nat.le_of_ble_eq_true rfl) rfl) rfl ?_)
                    rintro _ _ ⟨rfl, rfl⟩
                    refine ⟨.nil, ?_⟩
                    refine D_p rfl (.plain rfl) (p_assign rfl rfl) ?_
                    refine D_then (.cons (k := 0) rfl (.cons (k := 3) rfl (.cons (k := 4) rfl (.cons (k := 6) rfl (.cons (k := 7) rfl (.cons (k := 8) rfl (.cons (k := 11) rfl (.cons (k := 12) rfl .nil)))))))) ?_
                    refine ⟨(b3, es3, clk3), hc3, (.cons rfl (.cons rfl (.cons rfl (.cons rfl (.cons rfl (.cons rfl (.cons rfl (.cons rfl (.nil _))))))))), (by (try dsimp only); repeat (first | exact HSub.nil _ | refine HSub.take (by repeat first | exact Take.head | apply Take.tail) ?_ | exact HSub.refl _ | refine HSub.drop ?_ | refine HSub.app ?_)), rfl⟩
                  · refine (.go (E' := [(13, _), (4, _), (2, _)]) rfl (.plain rfl) (w_alloc zr121 rfl) rfl ?_)
                    rintro _ _ ⟨b3, hb3, rfl, rfl⟩
                    refine ⟨(.cons rfl (.plain rfl) (r_loadB ag3 rfl rfl (own_cell hbp _) (by simp only [Vc.add_block, List.mem_singleton]; assumption)) (.cons rfl (.plain rfl) (r_load ag3 rfl rfl (by repeat first | exact mH | apply mT) rfl) (.cons rfl (.plain rfl) (r_load ag3 rfl rfl (by repeat first | exact mH | apply mT) rfl) .nil))), ?_⟩
                    refine D_wr (.go (E' := [(13, _), (4, _), (2, _)]) rfl (.plain rfl) (w_callM rfl rfl rfl (fun o' => (by repeat first | exact .head | apply SetAt.tail)) (fun w hg => place_c bp bm es2 clk2 t ps k (u + j) hk (by omega) w (hP.good' hg) hc2 (hg.own (bm, _) (by repeat first | exact mH | apply mT)))) rfl ?_)
                    rintro _ _ ⟨_, rfl, rfl, es3, clk3, rfl, hc3⟩
                    refine ⟨(.cons rfl (.plain rfl) (r_loadB ag3 rfl rfl (own_cell hbp _) (by simp only [Vc.add_block, List.mem_singleton]; assumption)) (.cons rfl (.plain rfl) (r_load ag3 rfl rfl (by repeat first | exact mH | apply mT) rfl) (.cons rfl (.plain rfl) (r_load ag3 rfl rfl (by repeat first | exact mH | apply mT) rfl) .nil))), ?_⟩
                    refine D_wr (.go (E' := []) rfl (.plain rfl) (w_store (cs' := [_, _]) sz121 rfl rfl rfl rfl rfl (by repeat first | exact .head | apply SetAt.tail) (Nat.le_of_ble_eq_true rfl) rfl) rfl ?_)
                    rintro _ _ ⟨rfl, rfl⟩
                    refine ⟨.nil, ?_⟩
                    refine D_p rfl (.plain rfl) (p_assign rfl rfl) ?_
                    refine D_then (.cons (k := 0) rfl (.cons (k := 3) rfl (.cons (k := 4) rfl (.cons (k := 6) rfl (.cons (k := 7) rfl (.cons (k := 8) rfl (.cons (k := 11) rfl (.cons (k := 12) rfl .nil)))))))) ?_
                    refine ⟨(b3, es3, clk3), hc3, (.cons rfl (.cons rfl (.cons rfl (.cons rfl (.cons rfl (.cons rfl (.cons rfl (.cons rfl (.nil _))))))))), (by (try dsimp only); repeat (first | exact HSub.nil _ | refine HSub.take (by repeat first | exact Take.head | apply Take.tail) ?_ | exact HSub.refl _ | refine HSub.drop ?_ | refine HSub.app ?_)), rfl⟩
                · rintro ⟨x11, es3, clk3⟩ hc3
                  refine V_seq ?_
                  refine V_seq (V_region rfl ?_)
                  refine L_go rfl (X_wr (w_callP rfl rfl rfl (fun w hg => empty_c x11 _ _ 121 w (hg.own (x11, _) (by repeat first | exact mH | apply mT)))) ?_)
                  rintro _ _ ⟨rfl, rfl⟩
                  refine L_then (.cons (k := 0) rfl (.cons (k := 3) rfl (.cons (k := 4) rfl (.cons (k := 6) rfl (.cons (k := 7) rfl (.cons (k := 8) rfl (.cons (k := 11) rfl (.cons (k := 12) rfl (.cons (k := 128) rfl .nil))))))))) ?_
                  refine V_cond rfl ?_ ?_
                  · intro c6; try simp only [td] at c6
                    refine V_seq (V_region rfl ?_)
                    refine L_go rfl (X_rd (r_loadA (vs := [_, _]) ag121 sz121 rfl rfl (by repeat first | exact mH | apply mT) rfl) ?_)
                    refine L_go rfl (X_wr (w_store (cs' := [_, _]) sz121 rfl rfl rfl rfl rfl (by repeat first | exact .head | apply SetAt.tail) (Nat.le_of_ble_eq_true rfl) rfl) ?_)
                    rintro _ _ ⟨rfl, rfl⟩
                    refine L_go rfl (X_p (p_assign rfl rfl) ?_)
                    refine L_then (.cons (k := 4) rfl (.cons (k := 5) rfl .nil)) ?_
                    refine V_ret (then_r (blk_r (then_r (then_r (blk_r (then_r ?_))))))
                    refine Leave.nil (.cellA (us := [_, _]) rfl ag121 sz121 (by repeat first | exact mH | apply mT) rfl (.tmp rfl .nil)) ?_
                    exact ⟨_, (by repeat first | exact mH | apply mT), ⟨_, _, false, rfl, .inr ⟨rfl, fastT_none2 (by omega) ⟨by omega, by omega⟩ hN (fastB_go (by omega) c4) (fastF_none (by omega) c6)⟩⟩, _, _, rfl, hc3⟩
                  · intro c6; try simp only [td] at c6
                    refine V_skip (then_n ?_)
                    refine V_region rfl ?_
                    refine L_go rfl (X_p (p_fieldo fo121_0 rfl rfl) ?_)
                    refine L_go rfl (X_p (p_fieldo fo24_0 rfl rfl) ?_)
                    refine L_go rfl (X_rd (r_load ag3 rfl rfl (by repeat first | exact mH | apply mT) rfl) ?_)
                    refine L_go rfl (X_p (p_fieldo fo121_0 rfl rfl) ?_)
                    refine L_go rfl (X_p (p_fieldo fo24_1 rfl rfl) ?_)
                    refine L_go rfl (X_rd (r_load ag3 rfl rfl (by repeat first | exact mH | apply mT) rfl) ?_)
                    first | refine L_go rfl (X_p (p_sub' rfl rfl rfl (by unfold InI; omega)) ?_) | refine L_go rfl (X_p (p_sub rfl rfl rfl) ?_)
                    refine L_go rfl (X_p (p_move rfl rfl) ?_)
                    first | refine L_go rfl (X_p (p_sub' rfl rfl rfl (by unfold InI; omega)) ?_) | refine L_go rfl (X_p (p_sub rfl rfl rfl) ?_)
                    refine L_go rfl (X_p (p_fieldo fo121_0 rfl rfl) ?_)
                    refine L_go rfl (X_p (p_fieldo fo24_1 rfl rfl) ?_)
                    refine L_go rfl (X_rd (r_load ag3 rfl rfl (by repeat first | exact mH | apply mT) rfl) ?_)
                    refine L_go rfl (X_p (p_fieldo fo121_0 rfl rfl) ?_)
                    refine L_go rfl (X_p (p_fieldo fo24_0 rfl rfl) ?_)
                    refine L_go rfl (X_rd (r_load ag3 rfl rfl (by repeat first | exact mH | apply mT) rfl) ?_)
                    first | refine L_go rfl (X_p (p_sub' rfl rfl rfl (by unfold InI; omega)) ?_) | refine L_go rfl (X_p (p_sub rfl rfl rfl) ?_)
                    refine L_go rfl (X_p (p_move rfl rfl) ?_)
                    first | refine L_go rfl (X_p (p_add' rfl rfl rfl (by unfold InI; omega)) ?_) | refine L_go rfl (X_p (p_add rfl rfl rfl) ?_)
                    refine L_go rfl (X_p (p_move rfl rfl) ?_)
                    refine L_go rfl (X_wr (w_callM rfl rfl rfl (fun o' => (by repeat first | exact .head | apply SetAt.tail)) (fun w hg => gone_c x6 (sB t ps k u j s).lo (sB t ps k u j s).hi 121 _ _ _ (by omega) (by omega) (by omega) w (hg.own (x6, _) (by repeat first | exact mH | apply mT)))) ?_)
                    rintro _ _ ⟨_, rfl, rfl, rfl⟩
                    refine L_keep (.cons (k := 0) rfl (.cons (k := 3) rfl (.cons (k := 4) rfl (.cons (k := 6) rfl (.cons (k := 7) rfl (.cons (k := 8) rfl .nil)))))) (blk_n (then_n ?_))
                    refine V_region rfl ?_
                    refine L_go rfl (X_p (p_move rfl rfl) ?_)
                    first | refine L_go rfl (X_p (p_add' rfl rfl rfl (by unfold InI; omega)) ?_) | refine L_go rfl (X_p (p_add rfl rfl rfl) ?_)
                    refine L_go rfl (X_p (p_assign rfl rfl) ?_)
                    refine L_keep (.cons (k := 0) rfl (.cons (k := 3) rfl (.cons (k := 4) rfl (.cons (k := 6) rfl (.cons (k := 7) rfl (.cons (k := 8) rfl .nil)))))) (then_n ?_)
                    refine ⟨(j + 1, sF t ps k u j (sB t ps k u j s), es3, clk3), ?_, ?_, (.cons rfl (.cons rfl (.cons rfl (.cons rfl (.cons rfl (.cons rfl (.nil _))))))), (by repeat (first | exact List.Sublist.refl _ | apply List.Sublist.cons_cons | apply List.Sublist.cons | apply List.sublist_append_of_sublist_right)), rfl⟩
                    · exact ⟨by omega, by omega, fastN_go hj0 hN (fastB_go (by omega) c4) (fastF_go (by omega) c6), hc3⟩
                    · dsimp only; omega
              · intro c5; try simp only [td] at c5
                refine V_skip (blk_n (then_n ?_))
                refine V_region rfl ?_
                refine L_go rfl (X_p (p_move rfl rfl) ?_)
                first | refine L_go rfl (X_p (p_add' rfl rfl rfl (by unfold InI; omega)) ?_) | refine L_go rfl (X_p (p_add rfl rfl rfl) ?_)
                refine L_go rfl (X_p (p_assign rfl rfl) ?_)
                refine L_keep (.cons (k := 0) rfl (.cons (k := 3) rfl (.cons (k := 4) rfl (.cons (k := 6) rfl (.cons (k := 7) rfl (.cons (k := 8) rfl .nil)))))) (then_n ?_)
                refine ⟨(j + 1, sB t ps k u j s, es2, clk2), ?_, ?_, (.cons rfl (.cons rfl (.cons rfl (.cons rfl (.cons rfl (.cons rfl (.nil _))))))), (by repeat (first | exact List.Sublist.refl _ | apply List.Sublist.cons_cons | apply List.Sublist.cons | apply List.sublist_append_of_sublist_right)), rfl⟩
                · exact ⟨by omega, by omega, fastN_go hj0 hN (fastB_go (by omega) c4) (fastF_skip (by omega)), hc2⟩
                · dsimp only; omega
        · intro c3; try simp only [td] at c3
          refine V_skip (then_n ?_)
          refine V_seq (V_region rfl ?_)
          refine L_go rfl (X_p (p_fieldo fo174_1 rfl rfl) ?_)
          refine L_go rfl (X_rd (r_load ag3 rfl rfl (by repeat first | exact mH | apply mT) rfl) ?_)
          refine L_go rfl (X_p (p_move rfl rfl) ?_)
          first | refine L_go rfl (X_p (p_add' rfl rfl rfl (by unfold InI; omega)) ?_) | refine L_go rfl (X_p (p_add rfl rfl rfl) ?_)
          refine L_go rfl (X_p (p_leq rfl rfl rfl) ?_)
          refine L_then (.cons (k := 0) rfl (.cons (k := 3) rfl (.cons (k := 4) rfl (.cons (k := 6) rfl (.cons (k := 7) rfl (.cons (k := 8) rfl (.cons (k := 107) rfl .nil))))))) ?_
          refine V_cond rfl ?_ ?_
          · intro c7; try simp only [td] at c7
            have hpw := placeT_bnd hG hP.bnd (u := u + j) (by omega) k
            unfold SpanB at hpw
            refine V_mid (γ := Nat × Array MapEntry × Nat) (.cons (k := 0) rfl (.cons (k := 3) rfl (.cons (k := 4) rfl (.cons (k := 6) rfl (.cons (k := 7) rfl (.cons (k := 8) rfl .nil)))))) (fun (x11, es3, clk3) => [(11, .pointer (some ⟨x11, 0, none⟩)), (12, .int .i64 (moreF t j))]) (fun (x11, es3, clk3) => [(x11, .cells #[.int .i64 (placeT t ps k (u + j)).lo, .int .i64 (placeT t ps k (u + j)).hi] 121), (x6, .cells #[.int .i64 s.lo, .int .i64 s.hi] 121), (x7, .cells #[.int .i64 (placeT t ps k u).lo, .int .i64 (placeT t ps k u).hi] 121), (b2, .cells #[.int .i64 0, .int .i64 0] 121), (b1, .cells #[.int .i64 k, .int .i64 u] 174), (bm, .map es3 clk3)]) (fun (x11, es3, clk3) => Cache t ps es3) ?_ ?_
            · refine V_draw (.rd 0 (.rd 1 (.rd 2 (.rd 3 (.rd 4 (.rd 5 (.rd 6 (.rd 7 (.rd 9 (.rd 10 (.rd 11 (.rd 12 (.rd 13 (.rd 14 (.rd 15 (.rd 16 (.rd 17 (.rd 18 (.rd 19 (.wr2 8 [19, 18, 17, 16, 15, 14, 13, 12, 11, 10, 9, 6, 5, 4, 3, 2, 1] (.wr 20 [19, 18, 17, 16, 15, 14, 13, 12, 11, 10, 9, 7, 6, 5, 4, 3, 2, 1, 0] (.wr 21 [19, 18, 17, 16, 15, 14, 12, 11, 10, 9] (.rd 22 .done))) 20 [19, 18, 17, 16, 15, 14, 13, 12, 11, 10, 9, 7, 6, 5, 4, 3, 2, 1, 0] (.wr 8 [19, 18, 17, 16, 15, 14, 13, 12, 11, 10, 9, 6, 5, 4, 3, 2, 1] (.wr 21 [19, 18, 17, 16, 15, 14, 12, 11, 10, 9] (.rd 22 .done))))))))))))))))))))))) mixed (by kernel_rfl) rfl ?_
              refine D_p rfl (.plain rfl) (p_move rfl rfl) ?_
              refine D_p rfl (.plain rfl) (p_fieldo fo174_0 rfl rfl) ?_
              refine D_rd rfl (.plain rfl) (r_load ag3 rfl rfl (by repeat first | exact mH | apply mT) rfl) ?_
              refine D_p rfl (.plain rfl) (p_fieldo fo174_1 rfl rfl) ?_
              refine D_rd rfl (.plain rfl) (r_load ag3 rfl rfl (by repeat first | exact mH | apply mT) rfl) ?_
              refine D_p rfl (.plain rfl) (p_move rfl rfl) ?_
              first | refine D_p rfl (.plain rfl) (p_add' rfl rfl rfl (by unfold InI; omega)) ?_ | refine D_p rfl (.plain rfl) (p_add rfl rfl rfl) ?_
              refine D_p rfl (.plain rfl) (p_build (r := [_, _]) pl174 zr174 rfl rfl rfl) ?_
              refine D_p rfl (.plain rfl) (p_move rfl rfl) ?_
              refine D_p rfl (.plain rfl) (p_nil rfl rfl) ?_
              refine D_p rfl (.plain rfl) (p_fieldo fo101_0 rfl rfl) ?_
              refine D_p rfl (.plain rfl) (p_fieldo fo54_2 rfl rfl) ?_
              refine D_rd rfl (.plain rfl) (r_loadB ag3 rfl rfl (own_cell hbp _) (by simp only [Vc.add_block, List.mem_singleton]; assumption)) ?_
              refine D_p rfl (.plain rfl) (p_move rfl rfl) ?_
              refine D_p rfl (.plain rfl) (p_move rfl rfl) ?_
              first | refine D_p rfl (.plain rfl) (p_sub' rfl rfl rfl (by unfold InI; omega)) ?_ | refine D_p rfl (.plain rfl) (p_sub rfl rfl rfl) ?_
              first | refine D_p rfl (.plain rfl) (p_mul' rfl rfl rfl (by unfold InI; omega)) ?_ | refine D_p rfl (.plain rfl) (p_mul rfl rfl rfl) ?_
              first | refine D_p rfl (.plain rfl) (p_quo' rfl rfl rfl (by first | decide | omega) (by unfold InI; omega)) ?_ | refine D_p rfl (.plain rfl) (p_quo rfl rfl rfl (by first | decide | omega)) ?_
              first | refine D_p rfl (.plain rfl) (p_mul' rfl rfl rfl (by unfold InI; omega)) ?_ | refine D_p rfl (.plain rfl) (p_mul rfl rfl rfl) ?_
              refine D_wr2 rfl ?_ ?_
              · refine (.go (E' := [(13, _), (4, _), (2, _)]) rfl (.plain rfl) (w_callM rfl rfl rfl (fun o' => (by repeat first | exact .head | apply SetAt.tail)) (fun w hg => place_c bp bm es1 clk1 t ps k (u + j) hk (by omega) w (hP.good' hg) hc1 (hg.own (bm, _) (by repeat first | exact mH | apply mT)))) rfl ?_)
                rintro _ _ ⟨_, rfl, rfl, es3, clk3, rfl, hc3⟩
                refine ⟨(.cons rfl (.plain rfl) (r_loadB ag3 rfl rfl (own_cell hbp _) (by simp only [Vc.add_block, List.mem_singleton]; assumption)) (.cons rfl (.plain rfl) (r_load ag3 rfl rfl (by repeat first | exact mH | apply mT) rfl) (.cons rfl (.plain rfl) (r_load ag3 rfl rfl (by repeat first | exact mH | apply mT) rfl) .nil))), ?_⟩
                refine D_wr (.go (E' := [(13, _), (4, _), (2, _)]) rfl (.plain rfl) (w_alloc zr121 rfl) rfl ?_)
                rintro _ _ ⟨b3, hb3, rfl, rfl⟩
                refine ⟨(.cons rfl (.plain rfl) (r_loadB ag3 rfl rfl (own_cell hbp _) (by simp only [Vc.add_block, List.mem_singleton]; assumption)) (.cons rfl (.plain rfl) (r_load ag3 rfl rfl (by repeat first | exact mH | apply mT) rfl) (.cons rfl (.plain rfl) (r_load ag3 rfl rfl (by repeat first | exact mH | apply mT) rfl) .nil))), ?_⟩
                refine D_wr (.go (E' := []) rfl (.plain rfl) (w_store (cs' := [_, _]) sz121 rfl rfl rfl rfl rfl (by repeat first | exact .head | apply SetAt.tail) (Nat.le_of_ble_eq_true rfl) rfl) rfl ?_)
                rintro _ _ ⟨rfl, rfl⟩
                refine ⟨.nil, ?_⟩
                refine D_p rfl (.plain rfl) (p_assign rfl rfl) ?_
                refine D_then (.cons (k := 0) rfl (.cons (k := 3) rfl (.cons (k := 4) rfl (.cons (k := 6) rfl (.cons (k := 7) rfl (.cons (k := 8) rfl (.cons (k := 11) rfl (.cons (k := 12) rfl .nil)))))))) ?_
                refine ⟨(b3, es3, clk3), hc3, (.cons rfl (.cons rfl (.cons rfl (.cons rfl (.cons rfl (.cons rfl (.cons rfl (.cons rfl (.nil _))))))))), (by (try dsimp only); repeat (first | exact HSub.nil _ | refine HSub.take (by repeat first | exact Take.head | apply Take.tail) ?_ | exact HSub.refl _ | refine HSub.drop ?_ | refine HSub.app ?_)), rfl⟩
              · refine (.go (E' := [(13, _), (4, _), (2, _)]) rfl (.plain rfl) (w_alloc zr121 rfl) rfl ?_)
                rintro _ _ ⟨b3, hb3, rfl, rfl⟩
                refine ⟨(.cons rfl (.plain rfl) (r_loadB ag3 rfl rfl (own_cell hbp _) (by simp only [Vc.add_block, List.mem_singleton]; assumption)) (.cons rfl (.plain rfl) (r_load ag3 rfl rfl (by repeat first | exact mH | apply mT) rfl) (.cons rfl (.plain rfl) (r_load ag3 rfl rfl (by repeat first | exact mH | apply mT) rfl) .nil))), ?_⟩
                refine D_wr (.go (E' := [(13, _), (4, _), (2, _)]) rfl (.plain rfl) (w_callM rfl rfl rfl (fun o' => (by repeat first | exact .head | apply SetAt.tail)) (fun w hg => place_c bp bm es1 clk1 t ps k (u + j) hk (by omega) w (hP.good' hg) hc1 (hg.own (bm, _) (by repeat first | exact mH | apply mT)))) rfl ?_)
                rintro _ _ ⟨_, rfl, rfl, es3, clk3, rfl, hc3⟩
                refine ⟨(.cons rfl (.plain rfl) (r_loadB ag3 rfl rfl (own_cell hbp _) (by simp only [Vc.add_block, List.mem_singleton]; assumption)) (.cons rfl (.plain rfl) (r_load ag3 rfl rfl (by repeat first | exact mH | apply mT) rfl) (.cons rfl (.plain rfl) (r_load ag3 rfl rfl (by repeat first | exact mH | apply mT) rfl) .nil))), ?_⟩
                refine D_wr (.go (E' := []) rfl (.plain rfl) (w_store (cs' := [_, _]) sz121 rfl rfl rfl rfl rfl (by repeat first | exact .head | apply SetAt.tail) (Nat.le_of_ble_eq_true rfl) rfl) rfl ?_)
                rintro _ _ ⟨rfl, rfl⟩
                refine ⟨.nil, ?_⟩
                refine D_p rfl (.plain rfl) (p_assign rfl rfl) ?_
                refine D_then (.cons (k := 0) rfl (.cons (k := 3) rfl (.cons (k := 4) rfl (.cons (k := 6) rfl (.cons (k := 7) rfl (.cons (k := 8) rfl (.cons (k := 11) rfl (.cons (k := 12) rfl .nil)))))))) ?_
                refine ⟨(b3, es3, clk3), hc3, (.cons rfl (.cons rfl (.cons rfl (.cons rfl (.cons rfl (.cons rfl (.cons rfl (.cons rfl (.nil _))))))))), (by (try dsimp only); repeat (first | exact HSub.nil _ | refine HSub.take (by repeat first | exact Take.head | apply Take.tail) ?_ | exact HSub.refl _ | refine HSub.drop ?_ | refine HSub.app ?_)), rfl⟩
            · rintro ⟨x11, es3, clk3⟩ hc3
              refine V_seq ?_
              refine V_seq (V_region rfl ?_)
              refine L_go rfl (X_wr (w_callP rfl rfl rfl (fun w hg => empty_c x11 _ _ 121 w (hg.own (x11, _) (by repeat first | exact mH | apply mT)))) ?_)
              rintro _ _ ⟨rfl, rfl⟩
              refine L_then (.cons (k := 0) rfl (.cons (k := 3) rfl (.cons (k := 4) rfl (.cons (k := 6) rfl (.cons (k := 7) rfl (.cons (k := 8) rfl (.cons (k := 11) rfl (.cons (k := 12) rfl (.cons (k := 128) rfl .nil))))))))) ?_
              refine V_cond rfl ?_ ?_
              · intro c8; try simp only [td] at c8
                refine V_seq (V_region rfl ?_)
                refine L_go rfl (X_rd (r_loadA (vs := [_, _]) ag121 sz121 rfl rfl (by repeat first | exact mH | apply mT) rfl) ?_)
                refine L_go rfl (X_wr (w_store (cs' := [_, _]) sz121 rfl rfl rfl rfl rfl (by repeat first | exact .head | apply SetAt.tail) (Nat.le_of_ble_eq_true rfl) rfl) ?_)
                rintro _ _ ⟨rfl, rfl⟩
                refine L_go rfl (X_p (p_assign rfl rfl) ?_)
                refine L_then (.cons (k := 4) rfl (.cons (k := 5) rfl .nil)) ?_
                refine V_ret (then_r (blk_r (then_r (then_r (blk_r (then_r ?_))))))
                refine Leave.nil (.cellA (us := [_, _]) rfl ag121 sz121 (by repeat first | exact mH | apply mT) rfl (.tmp rfl .nil)) ?_
                exact ⟨_, (by repeat first | exact mH | apply mT), ⟨_, _, false, rfl, .inr ⟨rfl, fastT_none2 (by omega) ⟨by omega, by omega⟩ hN (fastB_skip (by omega)) (fastF_none (by omega) c8)⟩⟩, _, _, rfl, hc3⟩
              · intro c8; try simp only [td] at c8
                refine V_skip (then_n ?_)
                refine V_region rfl ?_
                refine L_go rfl (X_p (p_fieldo fo121_0 rfl rfl) ?_)
                refine L_go rfl (X_p (p_fieldo fo24_0 rfl rfl) ?_)
                refine L_go rfl (X_rd (r_load ag3 rfl rfl (by repeat first | exact mH | apply mT) rfl) ?_)
                refine L_go rfl (X_p (p_fieldo fo121_0 rfl rfl) ?_)
                refine L_go rfl (X_p (p_fieldo fo24_1 rfl rfl) ?_)
                refine L_go rfl (X_rd (r_load ag3 rfl rfl (by repeat first | exact mH | apply mT) rfl) ?_)
                first | refine L_go rfl (X_p (p_sub' rfl rfl rfl (by unfold InI; omega)) ?_) | refine L_go rfl (X_p (p_sub rfl rfl rfl) ?_)
                refine L_go rfl (X_p (p_move rfl rfl) ?_)
                first | refine L_go rfl (X_p (p_sub' rfl rfl rfl (by unfold InI; omega)) ?_) | refine L_go rfl (X_p (p_sub rfl rfl rfl) ?_)
                refine L_go rfl (X_p (p_fieldo fo121_0 rfl rfl) ?_)
                refine L_go rfl (X_p (p_fieldo fo24_1 rfl rfl) ?_)
                refine L_go rfl (X_rd (r_load ag3 rfl rfl (by repeat first | exact mH | apply mT) rfl) ?_)
                refine L_go rfl (X_p (p_fieldo fo121_0 rfl rfl) ?_)
                refine L_go rfl (X_p (p_fieldo fo24_0 rfl rfl) ?_)
                refine L_go rfl (X_rd (r_load ag3 rfl rfl (by repeat first | exact mH | apply mT) rfl) ?_)
                first | refine L_go rfl (X_p (p_sub' rfl rfl rfl (by unfold InI; omega)) ?_) | refine L_go rfl (X_p (p_sub rfl rfl rfl) ?_)
                refine L_go rfl (X_p (p_move rfl rfl) ?_)
                first | refine L_go rfl (X_p (p_add' rfl rfl rfl (by unfold InI; omega)) ?_) | refine L_go rfl (X_p (p_add rfl rfl rfl) ?_)
                refine L_go rfl (X_p (p_move rfl rfl) ?_)
                refine L_go rfl (X_wr (w_callM rfl rfl rfl (fun o' => (by repeat first | exact .head | apply SetAt.tail)) (fun w hg => gone_c x6 s.lo s.hi 121 _ _ _ (by omega) (by omega) (by omega) w (hg.own (x6, _) (by repeat first | exact mH | apply mT)))) ?_)
                rintro _ _ ⟨_, rfl, rfl, rfl⟩
                refine L_keep (.cons (k := 0) rfl (.cons (k := 3) rfl (.cons (k := 4) rfl (.cons (k := 6) rfl (.cons (k := 7) rfl (.cons (k := 8) rfl .nil)))))) (blk_n (then_n ?_))
                refine V_region rfl ?_
                refine L_go rfl (X_p (p_move rfl rfl) ?_)
                first | refine L_go rfl (X_p (p_add' rfl rfl rfl (by unfold InI; omega)) ?_) | refine L_go rfl (X_p (p_add rfl rfl rfl) ?_)
                refine L_go rfl (X_p (p_assign rfl rfl) ?_)
                refine L_keep (.cons (k := 0) rfl (.cons (k := 3) rfl (.cons (k := 4) rfl (.cons (k := 6) rfl (.cons (k := 7) rfl (.cons (k := 8) rfl .nil)))))) (then_n ?_)
                refine ⟨(j + 1, sF t ps k u j s, es3, clk3), ?_, ?_, (.cons rfl (.cons rfl (.cons rfl (.cons rfl (.cons rfl (.cons rfl (.nil _))))))), (by repeat (first | exact List.Sublist.refl _ | apply List.Sublist.cons_cons | apply List.Sublist.cons | apply List.sublist_append_of_sublist_right)), rfl⟩
                · exact ⟨by omega, by omega, fastN_go hj0 hN (fastB_skip (by omega)) (fastF_go (by omega) c8), hc3⟩
                · dsimp only; omega
          · intro c7; try simp only [td] at c7
            refine V_skip (blk_n (then_n ?_))
            refine V_region rfl ?_
            refine L_go rfl (X_p (p_move rfl rfl) ?_)
            first | refine L_go rfl (X_p (p_add' rfl rfl rfl (by unfold InI; omega)) ?_) | refine L_go rfl (X_p (p_add rfl rfl rfl) ?_)
            refine L_go rfl (X_p (p_assign rfl rfl) ?_)
            refine L_keep (.cons (k := 0) rfl (.cons (k := 3) rfl (.cons (k := 4) rfl (.cons (k := 6) rfl (.cons (k := 7) rfl (.cons (k := 8) rfl .nil)))))) (then_n ?_)
            refine ⟨(j + 1, s, es1, clk1), ?_, ?_, (.cons rfl (.cons rfl (.cons rfl (.cons rfl (.cons rfl (.cons rfl (.nil _))))))), (by repeat (first | exact List.Sublist.refl _ | apply List.Sublist.cons_cons | apply List.Sublist.cons | apply List.sublist_append_of_sublist_right)), rfl⟩
            · exact ⟨by omega, by omega, fastN_go hj0 hN (fastB_skip (by omega)) (fastF_skip (by omega)), hc1⟩
            · dsimp only; omega
      · intro c2; try simp only [td] at c2
        refine V_exit (then_e (then_e (blk_e rfl (then_n ?_))))
        refine V_seq (V_draw (.rd 0 (.wr 1 [0] (.rd 2 (.wr 3 [2] (.rd 4 .done))))) mixed (by kernel_rfl) rfl ?_)
        refine D_rd rfl (.plain rfl) (r_loadA (vs := [_, _]) ag121 sz121 rfl rfl (by repeat first | exact mH | apply mT) rfl) ?_
        refine D_wr (.go (E' := [(0, _)]) rfl (.plain rfl) (w_callP rfl rfl rfl (fun w hg => empty_c x6 _ _ 121 w (hg.own (x6, _) (by repeat first | exact mH | apply mT)))) rfl ?_)
        rintro _ _ ⟨rfl, rfl⟩
        refine ⟨(.cons rfl (.plain rfl) (r_loadA (vs := [_, _]) ag121 sz121 rfl rfl (by repeat first | exact mH | apply mT) rfl) .nil), ?_⟩
        refine D_p rfl (.plain rfl) (p_not rfl rfl) ?_
        refine D_wr (.go (E' := []) rfl (.plain rfl) (w_store (cs' := [_, _]) sz121 rfl rfl rfl rfl rfl (by repeat first | exact .head | apply SetAt.tail) (Nat.le_of_ble_eq_true rfl) rfl) rfl ?_)
        rintro _ _ ⟨rfl, rfl⟩
        refine ⟨.nil, ?_⟩
        refine D_p rfl (.plain rfl) (p_assign rfl rfl) ?_
        refine D_then (.cons (k := 4) rfl (.cons (k := 5) rfl .nil)) ?_
        refine V_ret ?_
        refine Leave.nil (.cellA (us := [_, _]) rfl ag121 sz121 (by repeat first | exact mH | apply mT) rfl (.tmp rfl .nil)) ?_
        have hj9 : j = 9 := by omega
        subst hj9
        refine ⟨_, (by repeat first | exact mH | apply mT), ⟨s.lo, s.hi, !(Span.none s), rfl, ?_⟩, _, _, rfl, hc1⟩
        rw [fastT_end (by omega) hN]
        cases hh : Span.none s
        · exact .inl ⟨rfl, rfl⟩
        · exact .inr ⟨rfl, rfl⟩

end Go.Proofs.YtlcccpeelombbaaDoor

/- YtlcccpeelombbaaDoor: the walk of box. -/
set_option linter.all false
namespace Go.Proofs.YtlcccpeelombbaaDoor
open Go.Vc Go.Tk
set_option maxRecDepth 100000
theorem parts_c (b : Nat) (w : World) : FnP Tryd.prog 52 [.pointer (some ⟨b, 0, none⟩)] w (.agg #[.pointer (some ⟨b, 1, none⟩), .pointer (some ⟨b, 3, none⟩), .pointer (some ⟨b, 5, none⟩), .pointer (some ⟨b, 7, none⟩), .pointer (some ⟨b, 9, none⟩), .pointer (some ⟨b, 11, none⟩)]) := by
  refine fn_pure Tryd.func52 rfl (by kernel_rfl) Tryd.ntmps52 Tryd.results52 rfl ?_
  refine V_seq (V_region rfl ?_)
  refine L_go rfl (X_wr (w_alloc zr117 rfl) ?_)
  rintro _ _ ⟨b1, hb1, rfl, rfl⟩
  refine L_then (.cons (k := 0) rfl (.cons (k := 2) rfl .nil)) ?_
  refine V_seq (V_draw (.rd 0 (.rd 1 (.rd 2 (.rd 3 (.rd 4 (.rd 5 (.rd 6 (.rd 7 (.rd 8 (.rd 9 (.rd 10 (.rd 11 (.rd 12 (.rd 13 (.rd 14 (.rd 15 (.rd 16 (.rd 17 (.rd 18 (.wr 19 [] .done)))))))))))))))))))) mixed (by kernel_rfl) rfl ?_)
  refine D_p rfl (.plain rfl) (p_move rfl rfl) ?_
  refine D_p rfl (.plain rfl) (p_nil rfl rfl) ?_
  refine D_p rfl (.plain rfl) (p_fieldo fo33_1 rfl rfl) ?_
  refine D_p rfl (.plain rfl) (p_move rfl rfl) ?_
  refine D_p rfl (.plain rfl) (p_nil rfl rfl) ?_
  refine D_p rfl (.plain rfl) (p_fieldo fo33_2 rfl rfl) ?_
  refine D_p rfl (.plain rfl) (p_move rfl rfl) ?_
  refine D_p rfl (.plain rfl) (p_nil rfl rfl) ?_
  refine D_p rfl (.plain rfl) (p_fieldo fo33_3 rfl rfl) ?_
  refine D_p rfl (.plain rfl) (p_move rfl rfl) ?_
  refine D_p rfl (.plain rfl) (p_nil rfl rfl) ?_
  refine D_p rfl (.plain rfl) (p_fieldo fo33_4 rfl rfl) ?_
  refine D_p rfl (.plain rfl) (p_move rfl rfl) ?_
  refine D_p rfl (.plain rfl) (p_nil rfl rfl) ?_
  refine D_p rfl (.plain rfl) (p_fieldo fo33_5 rfl rfl) ?_
  refine D_p rfl (.plain rfl) (p_move rfl rfl) ?_
  refine D_p rfl (.plain rfl) (p_nil rfl rfl) ?_
  refine D_p rfl (.plain rfl) (p_fieldo fo33_6 rfl rfl) ?_
  refine D_p rfl (.plain rfl) (p_buildA (r := [_, _, _, _, _, _]) ar117 zr117 rfl rfl rfl) ?_
  refine D_wr (.go (E' := []) rfl (.plain rfl) (w_store (cs' := [_, _, _, _, _, _]) sz117 rfl rfl rfl rfl rfl (by repeat first | exact .head | apply SetAt.tail) (Nat.le_of_ble_eq_true rfl) rfl) rfl ?_)
  rintro _ _ ⟨rfl, rfl⟩
  refine ⟨.nil, ?_⟩
  refine D_then (.cons (k := 2) rfl .nil) ?_
  refine V_ret ?_
  refine Leave.nil (.cellA (us := [_, _, _, _, _, _]) rfl ag117 sz117 (by repeat first | exact mH | apply mT) rfl .nil) ?_
  rfl
set_option maxHeartbeats 4000000 in
theorem box_c (bp bm : Nat) (es : Array MapEntry) (clk : Nat) (t : Task) (ps : List Int) (u : Int) (hu : 0 ≤ u ∧ u ≤ 100000) (w : World) (hp : PickR w bp bm (.map (some bm)) t ps) (hc : Cache t ps es) (hb : w.heap[bm]? = some (.map es clk)) : FnC Tryd.prog 73 [.pointer (some ⟨bp, 0, none⟩), .int .i64 u] w fun v w' => ∃ o', Vc.Good w [bm] [(bm, o')] w' ∧ (v = boxV (boxT t ps u) ∧ ∃ es' clk', o' = .map es' clk' ∧ Cache t ps es') := by
  have hP := hp
  obtain ⟨tv, pv, sv, ty, fr, hbp, htr, hpl, hsv⟩ := hp.ex
  obtain ⟨ta, tc, rfl, htc, hte⟩ := htr.ex
  obtain ⟨pa, pc, rfl, hpc, hpe⟩ := hpl.ex
  obtain ⟨sa, sc, rfl, hsc, hse⟩ := hsv.ex
  have hG := hP.good
  obtain ⟨hfrm, hspd, hacc⟩ := hG.nums
  have hne := hP.ne
  have hpsl := hP.psl
  simp only [List.length_map] at hbp htc hpc hsc
  refine fn_mod (b := bm) Tryd.func73 rfl (by kernel_rfl) Tryd.ntmps73 Tryd.results73 rfl hb ?_
  refine V_seq (V_region rfl ?_)
  refine L_go rfl (X_wr (w_alloc zr33 rfl) ?_)
  rintro _ _ ⟨b1, hb1, rfl, rfl⟩
  refine L_go rfl (X_p (p_assign rfl rfl) ?_)
  refine L_then (.cons (k := 0) rfl (.cons (k := 1) rfl (.cons (k := 4) rfl .nil))) ?_
  refine V_seq (V_region rfl ?_)
  refine L_go rfl (X_p (p_move rfl rfl) ?_)
  refine L_go rfl (X_p (p_fieldo fo33_0 rfl rfl) ?_)
  refine L_go rfl (X_wr (w_store (cs' := [_, _, _, _, _, _, _, _, _, _, _, _, _]) sz3 rfl rfl rfl rfl rfl (by repeat first | exact .head | apply SetAt.tail) (Nat.le_of_ble_eq_true rfl) rfl) ?_)
  rintro _ _ ⟨rfl, rfl⟩
  refine L_then (.cons (k := 0) rfl (.cons (k := 1) rfl (.cons (k := 4) rfl .nil))) ?_
  refine V_seq (V_region rfl ?_)
  refine L_go rfl (X_wr (w_callP rfl rfl rfl (fun w hg => parts_c b1 w)) ?_)
  rintro _ _ ⟨rfl, rfl⟩
  refine L_go rfl (X_wr (w_alloc zr117 rfl) ?_)
  rintro _ _ ⟨b2, hb2, rfl, rfl⟩
  refine L_go rfl (X_wr (w_store (cs' := [_, _, _, _, _, _]) sz117 rfl rfl rfl rfl rfl (by repeat first | exact .head | apply SetAt.tail) (Nat.le_of_ble_eq_true rfl) rfl) ?_)
  rintro _ _ ⟨rfl, rfl⟩
  refine L_then (.cons (k := 0) rfl (.cons (k := 1) rfl (.cons (k := 4) rfl (.cons (k := 6) rfl .nil)))) ?_
  refine V_seq ?_
  refine V_seq (V_region rfl ?_)
  refine L_go rfl (X_p (p_move rfl rfl) ?_)
  refine L_then (.cons (k := 0) rfl (.cons (k := 1) rfl (.cons (k := 4) rfl (.cons (k := 6) rfl (.cons (k := 15) rfl .nil))))) ?_
  refine V_block ?_
  refine V_loopU ?_
  refine LU_step ?_
  refine V_seq (V_region rfl ?_)
  refine L_go rfl (X_p (p_lss rfl rfl rfl) ?_)
  refine L_then (.cons (k := 0) rfl (.cons (k := 1) rfl (.cons (k := 4) rfl (.cons (k := 6) rfl (.cons (k := 15) rfl (.cons (k := 16) rfl .nil)))))) ?_
  refine V_seq ?_
  refine V_cond_t rfl rfl ?_
  refine V_skip (then_n ?_)
  refine V_seq ?_
  refine V_block ?_
  refine V_seq (V_region rfl ?_)
  refine L_go rfl (X_p (p_move rfl rfl) ?_)
  refine L_go rfl (X_p (p_assign rfl rfl) ?_)
  refine L_then (.cons (k := 0) rfl (.cons (k := 1) rfl (.cons (k := 4) rfl (.cons (k := 6) rfl (.cons (k := 7) rfl (.cons (k := 15) rfl .nil)))))) ?_
  refine V_seq (V_region rfl ?_)
  refine L_go rfl (X_p (p_move rfl rfl) ?_)
  refine L_go rfl (X_p (p_move rfl rfl) ?_)
  refine L_go rfl (X_p (p_build (r := [_, _]) pl174 zr174 rfl rfl rfl) ?_)
  refine L_go rfl (X_wr (w_alloc zr174 rfl) ?_)
  rintro _ _ ⟨b3, hb3, rfl, rfl⟩
  refine L_go rfl (X_wr (w_store (cs' := [_, _]) sz174 rfl rfl rfl rfl rfl (by repeat first | exact .head | apply SetAt.tail) (Nat.le_of_ble_eq_true rfl) rfl) ?_)
  rintro _ _ ⟨rfl, rfl⟩
  refine L_then (.cons (k := 0) rfl (.cons (k := 1) rfl (.cons (k := 4) rfl (.cons (k := 6) rfl (.cons (k := 7) rfl (.cons (k := 8) rfl (.cons (k := 15) rfl .nil))))))) ?_
  refine V_seq (V_region rfl ?_)
  refine L_go rfl (X_p (p_move rfl rfl) ?_)
  refine L_go rfl (X_rd (r_loadA (vs := [_, _]) ag174 sz174 rfl rfl (by repeat first | exact mH | apply mT) rfl) ?_)
  refine L_go rfl (X_wr (w_callM rfl rfl rfl (fun o' => (by repeat first | exact .head | apply SetAt.tail)) (fun w hg => place_c bp bm es clk t ps _ u (by decide) hu w (hP.good' hg) hc (hg.own (bm, _) (by repeat first | exact mH | apply mT)))) ?_)
  rintro _ _ ⟨_, rfl, rfl, ea1, ck1, rfl, ha1⟩
  refine L_go rfl (X_wr (w_alloc zr121 rfl) ?_)
  rintro _ _ ⟨b4, hb4, rfl, rfl⟩
  refine L_go rfl (X_wr (w_store (cs' := [_, _]) sz121 rfl rfl rfl rfl rfl (by repeat first | exact .head | apply SetAt.tail) (Nat.le_of_ble_eq_true rfl) rfl) ?_)
  rintro _ _ ⟨rfl, rfl⟩
  refine L_then (.cons (k := 0) rfl (.cons (k := 1) rfl (.cons (k := 4) rfl (.cons (k := 6) rfl (.cons (k := 7) rfl (.cons (k := 8) rfl (.cons (k := 9) rfl (.cons (k := 15) rfl .nil)))))))) ?_
  refine V_seq (V_region rfl ?_)
  refine L_go rfl (X_p (p_move rfl rfl) ?_)
  refine L_go rfl (X_rd (r_loadA (vs := [_, _]) ag174 sz174 rfl rfl (by repeat first | exact mH | apply mT) rfl) ?_)
  refine L_go rfl (X_wr (w_callM rfl rfl rfl (fun o' => (by repeat first | exact .head | apply SetAt.tail)) (fun w hg => fast_c bp bm ea1 ck1 t ps _ u (by decide) hu w (hP.good' hg) ha1 (hg.own (bm, _) (by repeat first | exact mH | apply mT)))) ?_)
  rintro _ _ ⟨_, rfl, ⟨lo1, hi1, ok1, rfl, hok1⟩, eb1, cl1, rfl, hb1⟩
  refine L_go rfl (X_p (p_move rfl rfl) ?_)
  refine L_go rfl (X_p (p_ext rfl rfl rfl) ?_)
  refine L_go rfl (X_p (p_ext rfl rfl rfl) ?_)
  refine L_go rfl (X_wr (w_alloc zr121 rfl) ?_)
  rintro _ _ ⟨b5, hb5, rfl, rfl⟩
  refine L_go rfl (X_wr (w_store (cs' := [_, _]) sz121 rfl rfl rfl rfl rfl (by repeat first | exact .head | apply SetAt.tail) (Nat.le_of_ble_eq_true rfl) rfl) ?_)
  rintro _ _ ⟨rfl, rfl⟩
  refine L_go rfl (X_p (p_assign rfl rfl) ?_)
  refine L_then (.cons (k := 0) rfl (.cons (k := 1) rfl (.cons (k := 4) rfl (.cons (k := 6) rfl (.cons (k := 7) rfl (.cons (k := 9) rfl (.cons (k := 10) rfl (.cons (k := 11) rfl (.cons (k := 15) rfl .nil))))))))) ?_
  refine V_seq ?_
  refine V_seq (V_region rfl ?_)
  refine L_go rfl (X_p (p_move rfl rfl) ?_)
  refine L_go rfl (X_p (p_not rfl rfl) ?_)
  refine L_go rfl (X_p (p_move rfl rfl) ?_)
  refine L_cases (d := 32) rfl ?_ ?_
  · intro g1; have g1' := g1; try simp only [td] at g1'
    refine L_no rfl rfl rfl g1 ?_
    refine L_go rfl (X_p (p_pick_t rfl rfl g1 rfl) ?_)
    refine L_then (.cons (k := 0) rfl (.cons (k := 1) rfl (.cons (k := 4) rfl (.cons (k := 6) rfl (.cons (k := 7) rfl (.cons (k := 9) rfl (.cons (k := 10) rfl (.cons (k := 15) rfl (.cons (k := 34) rfl .nil))))))))) ?_
    refine V_cond_t rfl rfl ?_
    refine V_seq (V_region rfl ?_)
    refine L_go rfl (X_p (p_build (r := [_, _, _, _, _, _, _, _, _, _, _, _, _]) pl33 zr33 rfl rfl rfl) ?_)
    refine L_go rfl (X_wr (w_store (cs' := [_, _, _, _, _, _, _, _, _, _, _, _, _]) sz33 rfl rfl rfl rfl rfl (by repeat first | exact .head | apply SetAt.tail) (Nat.le_of_ble_eq_true rfl) rfl) ?_)
    rintro _ _ ⟨rfl, rfl⟩
    refine L_go rfl (X_p (p_assign rfl rfl) ?_)
    refine L_then (.cons (k := 4) rfl (.cons (k := 5) rfl .nil)) ?_
    refine V_ret (then_r (blk_r (then_r (then_r (blk_r (then_r ?_))))))
    refine Leave.nil (.cellA (us := [_, _, _, _, _, _, _, _, _, _, _, _, _]) rfl ag33 sz33 (by repeat first | exact mH | apply mT) rfl (.tmp rfl .nil)) ?_
    exact ⟨_, (by repeat first | exact mH | apply mT), by rw [boxT_0 (partT_none1 (fv_none hok1 g1'))]; rfl, _, _, rfl, hb1⟩
  · intro g1; have g1' := g1; try simp only [td] at g1'
    refine L_yes rfl rfl rfl g1 (X_wr (w_callP rfl rfl rfl (fun w hg => empty_c b4 _ _ 121 w (hg.own (b4, _) (by repeat first | exact mH | apply mT)))) ?_)
    rintro _ _ ⟨rfl, rfl⟩
    refine L_go rfl (X_p (p_pick_f rfl rfl g1 rfl) ?_)
    refine L_then (.cons (k := 0) rfl (.cons (k := 1) rfl (.cons (k := 4) rfl (.cons (k := 6) rfl (.cons (k := 7) rfl (.cons (k := 9) rfl (.cons (k := 10) rfl (.cons (k := 15) rfl (.cons (k := 34) rfl .nil))))))))) ?_
    refine V_cond rfl ?_ ?_
    · intro c1; try simp only [td] at c1
      refine V_seq (V_region rfl ?_)
      refine L_go rfl (X_p (p_build (r := [_, _, _, _, _, _, _, _, _, _, _, _, _]) pl33 zr33 rfl rfl rfl) ?_)
      refine L_go rfl (X_wr (w_store (cs' := [_, _, _, _, _, _, _, _, _, _, _, _, _]) sz33 rfl rfl rfl rfl rfl (by repeat first | exact .head | apply SetAt.tail) (Nat.le_of_ble_eq_true rfl) rfl) ?_)
      rintro _ _ ⟨rfl, rfl⟩
      refine L_go rfl (X_p (p_assign rfl rfl) ?_)
      refine L_then (.cons (k := 4) rfl (.cons (k := 5) rfl .nil)) ?_
      refine V_ret (then_r (blk_r (then_r (then_r (blk_r (then_r ?_))))))
      refine Leave.nil (.cellA (us := [_, _, _, _, _, _, _, _, _, _, _, _, _]) rfl ag33 sz33 (by repeat first | exact mH | apply mT) rfl (.tmp rfl .nil)) ?_
      exact ⟨_, (by repeat first | exact mH | apply mT), by rw [boxT_0 (partT_none2 c1)]; rfl, _, _, rfl, hb1⟩
    · intro c1; try simp only [td] at c1
      refine V_skip (then_n ?_)
      refine V_draw (.rd 0 (.rd 1 (.rd 2 (.rd 3 (.rd 4 (.rd 5 (.rd 6 (.rd 7 (.rd 8 (.rd 9 (.rd 10 (.rd 11 (.wr 12 [10, 9, 6, 5, 4, 3] (.rd 13 (.wr 14 [] .done))))))))))))))) mixed (by kernel_rfl) rfl ?_
      refine D_p rfl (.plain rfl) (p_move rfl rfl) ?_
      refine D_p rfl (.plain rfl) (p_idxao ar117 rfl rfl rfl (by omega) (by omega)) ?_
      refine D_rd rfl (.plain rfl) (r_load ag116 rfl rfl (by repeat first | exact mH | apply mT) rfl) ?_
      refine D_p rfl (.plain rfl) (p_move rfl rfl) ?_
      first | refine D_p rfl (.plain rfl) (p_add' rfl rfl rfl (by unfold InI; omega)) ?_ | refine D_p rfl (.plain rfl) (p_add rfl rfl rfl) ?_
      refine D_p rfl (.plain rfl) (p_idxao ar117 rfl rfl rfl (by omega) (by omega)) ?_
      refine D_rd rfl (.plain rfl) (r_load ag116 rfl rfl (by repeat first | exact mH | apply mT) rfl) ?_
      refine D_p rfl (.plain rfl) (p_fieldo fo121_0 rfl rfl) ?_
      refine D_rd rfl (.plain rfl) (r_loadA (vs := [_, _]) ag24 sz24 rfl rfl (by repeat first | exact mH | apply mT) rfl) ?_
      refine D_p rfl (.plain rfl) (p_fieldo fo121_0 rfl rfl) ?_
      refine D_rd rfl (.plain rfl) (r_loadA (vs := [_, _]) ag24 sz24 rfl rfl (by repeat first | exact mH | apply mT) rfl) ?_
      refine D_p rfl (.plain rfl) (p_nil rfl rfl) ?_
      refine D_wr (.go (E' := [(10, _), (6, _)]) rfl (.plain rfl) (w_store (cs' := [_, _, _, _, _, _, _, _, _, _, _, _, _]) sz24 rfl rfl rfl rfl rfl (by repeat first | exact .head | apply SetAt.tail) (Nat.le_of_ble_eq_true rfl) rfl) rfl ?_)
      rintro _ _ ⟨rfl, rfl⟩
      refine ⟨(.cons rfl (.plain rfl) (r_loadA (vs := [_, _]) ag24 sz24 rfl rfl (by repeat first | exact mH | apply mT) rfl) (.cons rfl (.plain rfl) (r_load ag116 rfl rfl (by repeat first | exact mH | apply mT) rfl) .nil)), ?_⟩
      refine D_p rfl (.plain rfl) (p_nil rfl rfl) ?_
      refine D_wr (.go (E' := []) rfl (.plain rfl) (w_store (cs' := [_, _, _, _, _, _, _, _, _, _, _, _, _]) sz24 rfl rfl rfl rfl rfl (by repeat first | exact .head | apply SetAt.tail) (Nat.le_of_ble_eq_true rfl) rfl) rfl ?_)
      rintro _ _ ⟨rfl, rfl⟩
      refine ⟨.nil, ?_⟩
      refine D_keep (.cons (k := 0) rfl (.cons (k := 1) rfl (.cons (k := 4) rfl (.cons (k := 6) rfl (.cons (k := 15) rfl .nil))))) (blk_n (then_n ?_))
      refine V_region rfl ?_
      first | refine L_go rfl (X_p (p_add' rfl rfl rfl (by unfold InI; omega)) ?_) | refine L_go rfl (X_p (p_add rfl rfl rfl) ?_)
      refine L_go rfl (X_p (p_move rfl rfl) ?_)
      refine L_keep (.cons (k := 0) rfl (.cons (k := 1) rfl (.cons (k := 4) rfl (.cons (k := 6) rfl (.cons (k := 15) rfl .nil))))) (then_n ?_)
      refine LU_step ?_
      refine V_seq (V_region rfl ?_)
      refine L_go rfl (X_p (p_lss rfl rfl rfl) ?_)
      refine L_then (.cons (k := 0) rfl (.cons (k := 1) rfl (.cons (k := 4) rfl (.cons (k := 6) rfl (.cons (k := 15) rfl (.cons (k := 16) rfl .nil)))))) ?_
      refine V_seq ?_
      refine V_cond_t rfl rfl ?_
      refine V_skip (then_n ?_)
      refine V_seq ?_
      refine V_block ?_
      refine V_seq (V_region rfl ?_)
      refine L_go rfl (X_p (p_move rfl rfl) ?_)
      refine L_go rfl (X_p (p_assign rfl rfl) ?_)
      refine L_then (.cons (k := 0) rfl (.cons (k := 1) rfl (.cons (k := 4) rfl (.cons (k := 6) rfl (.cons (k := 7) rfl (.cons (k := 15) rfl .nil)))))) ?_
      refine V_seq (V_region rfl ?_)
      refine L_go rfl (X_p (p_move rfl rfl) ?_)
      refine L_go rfl (X_p (p_move rfl rfl) ?_)
      refine L_go rfl (X_p (p_build (r := [_, _]) pl174 zr174 rfl rfl rfl) ?_)
      refine L_go rfl (X_wr (w_alloc zr174 rfl) ?_)
      rintro _ _ ⟨b6, hb6, rfl, rfl⟩
      refine L_go rfl (X_wr (w_store (cs' := [_, _]) sz174 rfl rfl rfl rfl rfl (by repeat first | exact .head | apply SetAt.tail) (Nat.le_of_ble_eq_true rfl) rfl) ?_)
      rintro _ _ ⟨rfl, rfl⟩
      refine L_then (.cons (k := 0) rfl (.cons (k := 1) rfl (.cons (k := 4) rfl (.cons (k := 6) rfl (.cons (k := 7) rfl (.cons (k := 8) rfl (.cons (k := 15) rfl .nil))))))) ?_
      refine V_seq (V_region rfl ?_)
      refine L_go rfl (X_p (p_move rfl rfl) ?_)
      refine L_go rfl (X_rd (r_loadA (vs := [_, _]) ag174 sz174 rfl rfl (by repeat first | exact mH | apply mT) rfl) ?_)
      refine L_go rfl (X_wr (w_callM rfl rfl rfl (fun o' => (by repeat first | exact .head | apply SetAt.tail)) (fun w hg => place_c bp bm eb1 cl1 t ps _ u (by decide) hu w (hP.good' hg) hb1 (hg.own (bm, _) (by repeat first | exact mH | apply mT)))) ?_)
      rintro _ _ ⟨_, rfl, rfl, ea2, ck2, rfl, ha2⟩
      refine L_go rfl (X_wr (w_alloc zr121 rfl) ?_)
      rintro _ _ ⟨b7, hb7, rfl, rfl⟩
      refine L_go rfl (X_wr (w_store (cs' := [_, _]) sz121 rfl rfl rfl rfl rfl (by repeat first | exact .head | apply SetAt.tail) (Nat.le_of_ble_eq_true rfl) rfl) ?_)
      rintro _ _ ⟨rfl, rfl⟩
      refine L_then (.cons (k := 0) rfl (.cons (k := 1) rfl (.cons (k := 4) rfl (.cons (k := 6) rfl (.cons (k := 7) rfl (.cons (k := 8) rfl (.cons (k := 9) rfl (.cons (k := 15) rfl .nil)))))))) ?_
      refine V_seq (V_region rfl ?_)
      refine L_go rfl (X_p (p_move rfl rfl) ?_)
      refine L_go rfl (X_rd (r_loadA (vs := [_, _]) ag174 sz174 rfl rfl (by repeat first | exact mH | apply mT) rfl) ?_)
      refine L_go rfl (X_wr (w_callM rfl rfl rfl (fun o' => (by repeat first | exact .head | apply SetAt.tail)) (fun w hg => fast_c bp bm ea2 ck2 t ps _ u (by decide) hu w (hP.good' hg) ha2 (hg.own (bm, _) (by repeat first | exact mH | apply mT)))) ?_)
      rintro _ _ ⟨_, rfl, ⟨lo2, hi2, ok2, rfl, hok2⟩, eb2, cl2, rfl, hb2⟩
      refine L_go rfl (X_p (p_move rfl rfl) ?_)
      refine L_go rfl (X_p (p_ext rfl rfl rfl) ?_)
      refine L_go rfl (X_p (p_ext rfl rfl rfl) ?_)
      refine L_go rfl (X_wr (w_alloc zr121 rfl) ?_)
      rintro _ _ ⟨b8, hb8, rfl, rfl⟩
      refine L_go rfl (X_wr (w_store (cs' := [_, _]) sz121 rfl rfl rfl rfl rfl (by repeat first | exact .head | apply SetAt.tail) (Nat.le_of_ble_eq_true rfl) rfl) ?_)
      rintro _ _ ⟨rfl, rfl⟩
      refine L_go rfl (X_p (p_assign rfl rfl) ?_)
      refine L_then (.cons (k := 0) rfl (.cons (k := 1) rfl (.cons (k := 4) rfl (.cons (k := 6) rfl (.cons (k := 7) rfl (.cons (k := 9) rfl (.cons (k := 10) rfl (.cons (k := 11) rfl (.cons (k := 15) rfl .nil))))))))) ?_
      refine V_seq ?_
      refine V_seq (V_region rfl ?_)
      refine L_go rfl (X_p (p_move rfl rfl) ?_)
      refine L_go rfl (X_p (p_not rfl rfl) ?_)
      refine L_go rfl (X_p (p_move rfl rfl) ?_)
      refine L_cases (d := 32) rfl ?_ ?_
      · intro g2; have g2' := g2; try simp only [td] at g2'
        refine L_no rfl rfl rfl g2 ?_
        refine L_go rfl (X_p (p_pick_t rfl rfl g2 rfl) ?_)
        refine L_then (.cons (k := 0) rfl (.cons (k := 1) rfl (.cons (k := 4) rfl (.cons (k := 6) rfl (.cons (k := 7) rfl (.cons (k := 9) rfl (.cons (k := 10) rfl (.cons (k := 15) rfl (.cons (k := 34) rfl .nil))))))))) ?_
        refine V_cond_t rfl rfl ?_
        refine V_seq (V_region rfl ?_)
        refine L_go rfl (X_p (p_build (r := [_, _, _, _, _, _, _, _, _, _, _, _, _]) pl33 zr33 rfl rfl rfl) ?_)
        refine L_go rfl (X_wr (w_store (cs' := [_, _, _, _, _, _, _, _, _, _, _, _, _]) sz33 rfl rfl rfl rfl rfl (by repeat first | exact .head | apply SetAt.tail) (Nat.le_of_ble_eq_true rfl) rfl) ?_)
        rintro _ _ ⟨rfl, rfl⟩
        refine L_go rfl (X_p (p_assign rfl rfl) ?_)
        refine L_then (.cons (k := 4) rfl (.cons (k := 5) rfl .nil)) ?_
        refine V_ret (then_r (blk_r (then_r (then_r (blk_r (then_r ?_))))))
        refine Leave.nil (.cellA (us := [_, _, _, _, _, _, _, _, _, _, _, _, _]) rfl ag33 sz33 (by repeat first | exact mH | apply mT) rfl (.tmp rfl .nil)) ?_
        exact ⟨_, (by repeat first | exact mH | apply mT), by rw [boxT_1 (partT_some (fv_some hok1 g1') c1) (partT_none1 (fv_none hok2 g2'))]; rfl, _, _, rfl, hb2⟩
      · intro g2; have g2' := g2; try simp only [td] at g2'
        refine L_yes rfl rfl rfl g2 (X_wr (w_callP rfl rfl rfl (fun w hg => empty_c b7 _ _ 121 w (hg.own (b7, _) (by repeat first | exact mH | apply mT)))) ?_)
        rintro _ _ ⟨rfl, rfl⟩
        refine L_go rfl (X_p (p_pick_f rfl rfl g2 rfl) ?_)
        refine L_then (.cons (k := 0) rfl (.cons (k := 1) rfl (.cons (k := 4) rfl (.cons (k := 6) rfl (.cons (k := 7) rfl (.cons (k := 9) rfl (.cons (k := 10) rfl (.cons (k := 15) rfl (.cons (k := 34) rfl .nil))))))))) ?_
        refine V_cond rfl ?_ ?_
        · intro c2; try simp only [td] at c2
          refine V_seq (V_region rfl ?_)
          refine L_go rfl (X_p (p_build (r := [_, _, _, _, _, _, _, _, _, _, _, _, _]) pl33 zr33 rfl rfl rfl) ?_)
          refine L_go rfl (X_wr (w_store (cs' := [_, _, _, _, _, _, _, _, _, _, _, _, _]) sz33 rfl rfl rfl rfl rfl (by repeat first | exact .head | apply SetAt.tail) (Nat.le_of_ble_eq_true rfl) rfl) ?_)
          rintro _ _ ⟨rfl, rfl⟩
          refine L_go rfl (X_p (p_assign rfl rfl) ?_)
          refine L_then (.cons (k := 4) rfl (.cons (k := 5) rfl .nil)) ?_
          refine V_ret (then_r (blk_r (then_r (then_r (blk_r (then_r ?_))))))
          refine Leave.nil (.cellA (us := [_, _, _, _, _, _, _, _, _, _, _, _, _]) rfl ag33 sz33 (by repeat first | exact mH | apply mT) rfl (.tmp rfl .nil)) ?_
          exact ⟨_, (by repeat first | exact mH | apply mT), by rw [boxT_1 (partT_some (fv_some hok1 g1') c1) (partT_none2 c2)]; rfl, _, _, rfl, hb2⟩
        · intro c2; try simp only [td] at c2
          refine V_skip (then_n ?_)
          refine V_draw (.rd 0 (.rd 1 (.rd 2 (.rd 3 (.rd 4 (.rd 5 (.rd 6 (.rd 7 (.rd 8 (.rd 9 (.rd 10 (.rd 11 (.wr 12 [10, 9, 6, 5, 4, 3] (.rd 13 (.wr 14 [] .done))))))))))))))) mixed (by kernel_rfl) rfl ?_
          refine D_p rfl (.plain rfl) (p_move rfl rfl) ?_
          refine D_p rfl (.plain rfl) (p_idxao ar117 rfl rfl rfl (by omega) (by omega)) ?_
          refine D_rd rfl (.plain rfl) (r_load ag116 rfl rfl (by repeat first | exact mH | apply mT) rfl) ?_
          refine D_p rfl (.plain rfl) (p_move rfl rfl) ?_
          first | refine D_p rfl (.plain rfl) (p_add' rfl rfl rfl (by unfold InI; omega)) ?_ | refine D_p rfl (.plain rfl) (p_add rfl rfl rfl) ?_
          refine D_p rfl (.plain rfl) (p_idxao ar117 rfl rfl rfl (by omega) (by omega)) ?_
          refine D_rd rfl (.plain rfl) (r_load ag116 rfl rfl (by repeat first | exact mH | apply mT) rfl) ?_
          refine D_p rfl (.plain rfl) (p_fieldo fo121_0 rfl rfl) ?_
          refine D_rd rfl (.plain rfl) (r_loadA (vs := [_, _]) ag24 sz24 rfl rfl (by repeat first | exact mH | apply mT) rfl) ?_
          refine D_p rfl (.plain rfl) (p_fieldo fo121_0 rfl rfl) ?_
          refine D_rd rfl (.plain rfl) (r_loadA (vs := [_, _]) ag24 sz24 rfl rfl (by repeat first | exact mH | apply mT) rfl) ?_
          refine D_p rfl (.plain rfl) (p_nil rfl rfl) ?_
          refine D_wr (.go (E' := [(10, _), (6, _)]) rfl (.plain rfl) (w_store (cs' := [_, _, _, _, _, _, _, _, _, _, _, _, _]) sz24 rfl rfl rfl rfl rfl (by repeat first | exact .head | apply SetAt.tail) (Nat.le_of_ble_eq_true rfl) rfl) rfl ?_)
          rintro _ _ ⟨rfl, rfl⟩
          refine ⟨(.cons rfl (.plain rfl) (r_loadA (vs := [_, _]) ag24 sz24 rfl rfl (by repeat first | exact mH | apply mT) rfl) (.cons rfl (.plain rfl) (r_load ag116 rfl rfl (by repeat first | exact mH | apply mT) rfl) .nil)), ?_⟩
          refine D_p rfl (.plain rfl) (p_nil rfl rfl) ?_
          refine D_wr (.go (E' := []) rfl (.plain rfl) (w_store (cs' := [_, _, _, _, _, _, _, _, _, _, _, _, _]) sz24 rfl rfl rfl rfl rfl (by repeat first | exact .head | apply SetAt.tail) (Nat.le_of_ble_eq_true rfl) rfl) rfl ?_)
          rintro _ _ ⟨rfl, rfl⟩
          refine ⟨.nil, ?_⟩
          refine D_keep (.cons (k := 0) rfl (.cons (k := 1) rfl (.cons (k := 4) rfl (.cons (k := 6) rfl (.cons (k := 15) rfl .nil))))) (blk_n (then_n ?_))
          refine V_region rfl ?_
          first | refine L_go rfl (X_p (p_add' rfl rfl rfl (by unfold InI; omega)) ?_) | refine L_go rfl (X_p (p_add rfl rfl rfl) ?_)
          refine L_go rfl (X_p (p_move rfl rfl) ?_)
          refine L_keep (.cons (k := 0) rfl (.cons (k := 1) rfl (.cons (k := 4) rfl (.cons (k := 6) rfl (.cons (k := 15) rfl .nil))))) (then_n ?_)
          refine LU_step ?_
          refine V_seq (V_region rfl ?_)
          refine L_go rfl (X_p (p_lss rfl rfl rfl) ?_)
          refine L_then (.cons (k := 0) rfl (.cons (k := 1) rfl (.cons (k := 4) rfl (.cons (k := 6) rfl (.cons (k := 15) rfl (.cons (k := 16) rfl .nil)))))) ?_
          refine V_seq ?_
          refine V_cond_t rfl rfl ?_
          refine V_skip (then_n ?_)
          refine V_seq ?_
          refine V_block ?_
          refine V_seq (V_region rfl ?_)
          refine L_go rfl (X_p (p_move rfl rfl) ?_)
          refine L_go rfl (X_p (p_assign rfl rfl) ?_)
          refine L_then (.cons (k := 0) rfl (.cons (k := 1) rfl (.cons (k := 4) rfl (.cons (k := 6) rfl (.cons (k := 7) rfl (.cons (k := 15) rfl .nil)))))) ?_
          refine V_seq (V_region rfl ?_)
          refine L_go rfl (X_p (p_move rfl rfl) ?_)
          refine L_go rfl (X_p (p_move rfl rfl) ?_)
          refine L_go rfl (X_p (p_build (r := [_, _]) pl174 zr174 rfl rfl rfl) ?_)
          refine L_go rfl (X_wr (w_alloc zr174 rfl) ?_)
          rintro _ _ ⟨b9, hb9, rfl, rfl⟩
          refine L_go rfl (X_wr (w_store (cs' := [_, _]) sz174 rfl rfl rfl rfl rfl (by repeat first | exact .head | apply SetAt.tail) (Nat.le_of_ble_eq_true rfl) rfl) ?_)
          rintro _ _ ⟨rfl, rfl⟩
          refine L_then (.cons (k := 0) rfl (.cons (k := 1) rfl (.cons (k := 4) rfl (.cons (k := 6) rfl (.cons (k := 7) rfl (.cons (k := 8) rfl (.cons (k := 15) rfl .nil))))))) ?_
          refine V_seq (V_region rfl ?_)
          refine L_go rfl (X_p (p_move rfl rfl) ?_)
          refine L_go rfl (X_rd (r_loadA (vs := [_, _]) ag174 sz174 rfl rfl (by repeat first | exact mH | apply mT) rfl) ?_)
          refine L_go rfl (X_wr (w_callM rfl rfl rfl (fun o' => (by repeat first | exact .head | apply SetAt.tail)) (fun w hg => place_c bp bm eb2 cl2 t ps _ u (by decide) hu w (hP.good' hg) hb2 (hg.own (bm, _) (by repeat first | exact mH | apply mT)))) ?_)
          rintro _ _ ⟨_, rfl, rfl, ea3, ck3, rfl, ha3⟩
          refine L_go rfl (X_wr (w_alloc zr121 rfl) ?_)
          rintro _ _ ⟨b10, hb10, rfl, rfl⟩
          refine L_go rfl (X_wr (w_store (cs' := [_, _]) sz121 rfl rfl rfl rfl rfl (by repeat first | exact .head | apply SetAt.tail) (Nat.le_of_ble_eq_true rfl) rfl) ?_)
          rintro _ _ ⟨rfl, rfl⟩
          refine L_then (.cons (k := 0) rfl (.cons (k := 1) rfl (.cons (k := 4) rfl (.cons (k := 6) rfl (.cons (k := 7) rfl (.cons (k := 8) rfl (.cons (k := 9) rfl (.cons (k := 15) rfl .nil)))))))) ?_
          refine V_seq (V_region rfl ?_)
          refine L_go rfl (X_p (p_move rfl rfl) ?_)
          refine L_go rfl (X_rd (r_loadA (vs := [_, _]) ag174 sz174 rfl rfl (by repeat first | exact mH | apply mT) rfl) ?_)
          refine L_go rfl (X_wr (w_callM rfl rfl rfl (fun o' => (by repeat first | exact .head | apply SetAt.tail)) (fun w hg => fast_c bp bm ea3 ck3 t ps _ u (by decide) hu w (hP.good' hg) ha3 (hg.own (bm, _) (by repeat first | exact mH | apply mT)))) ?_)
          rintro _ _ ⟨_, rfl, ⟨lo3, hi3, ok3, rfl, hok3⟩, eb3, cl3, rfl, hb3⟩
          refine L_go rfl (X_p (p_move rfl rfl) ?_)
          refine L_go rfl (X_p (p_ext rfl rfl rfl) ?_)
          refine L_go rfl (X_p (p_ext rfl rfl rfl) ?_)
          refine L_go rfl (X_wr (w_alloc zr121 rfl) ?_)
          rintro _ _ ⟨b11, hb11, rfl, rfl⟩
          refine L_go rfl (X_wr (w_store (cs' := [_, _]) sz121 rfl rfl rfl rfl rfl (by repeat first | exact .head | apply SetAt.tail) (Nat.le_of_ble_eq_true rfl) rfl) ?_)
          rintro _ _ ⟨rfl, rfl⟩
          refine L_go rfl (X_p (p_assign rfl rfl) ?_)
          refine L_then (.cons (k := 0) rfl (.cons (k := 1) rfl (.cons (k := 4) rfl (.cons (k := 6) rfl (.cons (k := 7) rfl (.cons (k := 9) rfl (.cons (k := 10) rfl (.cons (k := 11) rfl (.cons (k := 15) rfl .nil))))))))) ?_
          refine V_seq ?_
          refine V_seq (V_region rfl ?_)
          refine L_go rfl (X_p (p_move rfl rfl) ?_)
          refine L_go rfl (X_p (p_not rfl rfl) ?_)
          refine L_go rfl (X_p (p_move rfl rfl) ?_)
          refine L_cases (d := 32) rfl ?_ ?_
          · intro g3; have g3' := g3; try simp only [td] at g3'
            refine L_no rfl rfl rfl g3 ?_
            refine L_go rfl (X_p (p_pick_t rfl rfl g3 rfl) ?_)
            refine L_then (.cons (k := 0) rfl (.cons (k := 1) rfl (.cons (k := 4) rfl (.cons (k := 6) rfl (.cons (k := 7) rfl (.cons (k := 9) rfl (.cons (k := 10) rfl (.cons (k := 15) rfl (.cons (k := 34) rfl .nil))))))))) ?_
            refine V_cond_t rfl rfl ?_
            refine V_seq (V_region rfl ?_)
            refine L_go rfl (X_p (p_build (r := [_, _, _, _, _, _, _, _, _, _, _, _, _]) pl33 zr33 rfl rfl rfl) ?_)
            refine L_go rfl (X_wr (w_store (cs' := [_, _, _, _, _, _, _, _, _, _, _, _, _]) sz33 rfl rfl rfl rfl rfl (by repeat first | exact .head | apply SetAt.tail) (Nat.le_of_ble_eq_true rfl) rfl) ?_)
            rintro _ _ ⟨rfl, rfl⟩
            refine L_go rfl (X_p (p_assign rfl rfl) ?_)
            refine L_then (.cons (k := 4) rfl (.cons (k := 5) rfl .nil)) ?_
            refine V_ret (then_r (blk_r (then_r (then_r (blk_r (then_r ?_))))))
            refine Leave.nil (.cellA (us := [_, _, _, _, _, _, _, _, _, _, _, _, _]) rfl ag33 sz33 (by repeat first | exact mH | apply mT) rfl (.tmp rfl .nil)) ?_
            exact ⟨_, (by repeat first | exact mH | apply mT), by rw [boxT_2 (partT_some (fv_some hok1 g1') c1) (partT_some (fv_some hok2 g2') c2) (partT_none1 (fv_none hok3 g3'))]; rfl, _, _, rfl, hb3⟩
          · intro g3; have g3' := g3; try simp only [td] at g3'
            refine L_yes rfl rfl rfl g3 (X_wr (w_callP rfl rfl rfl (fun w hg => empty_c b10 _ _ 121 w (hg.own (b10, _) (by repeat first | exact mH | apply mT)))) ?_)
            rintro _ _ ⟨rfl, rfl⟩
            refine L_go rfl (X_p (p_pick_f rfl rfl g3 rfl) ?_)
            refine L_then (.cons (k := 0) rfl (.cons (k := 1) rfl (.cons (k := 4) rfl (.cons (k := 6) rfl (.cons (k := 7) rfl (.cons (k := 9) rfl (.cons (k := 10) rfl (.cons (k := 15) rfl (.cons (k := 34) rfl .nil))))))))) ?_
            refine V_cond rfl ?_ ?_
            · intro c3; try simp only [td] at c3
              refine V_seq (V_region rfl ?_)
              refine L_go rfl (X_p (p_build (r := [_, _, _, _, _, _, _, _, _, _, _, _, _]) pl33 zr33 rfl rfl rfl) ?_)
              refine L_go rfl (X_wr (w_store (cs' := [_, _, _, _, _, _, _, _, _, _, _, _, _]) sz33 rfl rfl rfl rfl rfl (by repeat first | exact .head | apply SetAt.tail) (Nat.le_of_ble_eq_true rfl) rfl) ?_)
              rintro _ _ ⟨rfl, rfl⟩
              refine L_go rfl (X_p (p_assign rfl rfl) ?_)
              refine L_then (.cons (k := 4) rfl (.cons (k := 5) rfl .nil)) ?_
              refine V_ret (then_r (blk_r (then_r (then_r (blk_r (then_r ?_))))))
              refine Leave.nil (.cellA (us := [_, _, _, _, _, _, _, _, _, _, _, _, _]) rfl ag33 sz33 (by repeat first | exact mH | apply mT) rfl (.tmp rfl .nil)) ?_
              exact ⟨_, (by repeat first | exact mH | apply mT), by rw [boxT_2 (partT_some (fv_some hok1 g1') c1) (partT_some (fv_some hok2 g2') c2) (partT_none2 c3)]; rfl, _, _, rfl, hb3⟩
            · intro c3; try simp only [td] at c3
              refine V_skip (then_n ?_)
              refine V_draw (.rd 0 (.rd 1 (.rd 2 (.rd 3 (.rd 4 (.rd 5 (.rd 6 (.rd 7 (.rd 8 (.rd 9 (.rd 10 (.rd 11 (.wr 12 [10, 9, 6, 5, 4, 3] (.rd 13 (.wr 14 [] .done))))))))))))))) mixed (by kernel_rfl) rfl ?_
              refine D_p rfl (.plain rfl) (p_move rfl rfl) ?_
              refine D_p rfl (.plain rfl) (p_idxao ar117 rfl rfl rfl (by omega) (by omega)) ?_
              refine D_rd rfl (.plain rfl) (r_load ag116 rfl rfl (by repeat first | exact mH | apply mT) rfl) ?_
              refine D_p rfl (.plain rfl) (p_move rfl rfl) ?_
              first | refine D_p rfl (.plain rfl) (p_add' rfl rfl rfl (by unfold InI; omega)) ?_ | refine D_p rfl (.plain rfl) (p_add rfl rfl rfl) ?_
              refine D_p rfl (.plain rfl) (p_idxao ar117 rfl rfl rfl (by omega) (by omega)) ?_
              refine D_rd rfl (.plain rfl) (r_load ag116 rfl rfl (by repeat first | exact mH | apply mT) rfl) ?_
              refine D_p rfl (.plain rfl) (p_fieldo fo121_0 rfl rfl) ?_
              refine D_rd rfl (.plain rfl) (r_loadA (vs := [_, _]) ag24 sz24 rfl rfl (by repeat first | exact mH | apply mT) rfl) ?_
              refine D_p rfl (.plain rfl) (p_fieldo fo121_0 rfl rfl) ?_
              refine D_rd rfl (.plain rfl) (r_loadA (vs := [_, _]) ag24 sz24 rfl rfl (by repeat first | exact mH | apply mT) rfl) ?_
              refine D_p rfl (.plain rfl) (p_nil rfl rfl) ?_
              refine D_wr (.go (E' := [(10, _), (6, _)]) rfl (.plain rfl) (w_store (cs' := [_, _, _, _, _, _, _, _, _, _, _, _, _]) sz24 rfl rfl rfl rfl rfl (by repeat first | exact .head | apply SetAt.tail) (Nat.le_of_ble_eq_true rfl) rfl) rfl ?_)
              rintro _ _ ⟨rfl, rfl⟩
              refine ⟨(.cons rfl (.plain rfl) (r_loadA (vs := [_, _]) ag24 sz24 rfl rfl (by repeat first | exact mH | apply mT) rfl) (.cons rfl (.plain rfl) (r_load ag116 rfl rfl (by repeat first | exact mH | apply mT) rfl) .nil)), ?_⟩
              refine D_p rfl (.plain rfl) (p_nil rfl rfl) ?_
              refine D_wr (.go (E' := []) rfl (.plain rfl) (w_store (cs' := [_, _, _, _, _, _, _, _, _, _, _, _, _]) sz24 rfl rfl rfl rfl rfl (by repeat first | exact .head | apply SetAt.tail) (Nat.le_of_ble_eq_true rfl) rfl) rfl ?_)
              rintro _ _ ⟨rfl, rfl⟩
              refine ⟨.nil, ?_⟩
              refine D_keep (.cons (k := 0) rfl (.cons (k := 1) rfl (.cons (k := 4) rfl (.cons (k := 6) rfl (.cons (k := 15) rfl .nil))))) (blk_n (then_n ?_))
              refine V_region rfl ?_
              first | refine L_go rfl (X_p (p_add' rfl rfl rfl (by unfold InI; omega)) ?_) | refine L_go rfl (X_p (p_add rfl rfl rfl) ?_)
              refine L_go rfl (X_p (p_move rfl rfl) ?_)
              refine L_keep (.cons (k := 0) rfl (.cons (k := 1) rfl (.cons (k := 4) rfl (.cons (k := 6) rfl (.cons (k := 15) rfl .nil))))) (then_n ?_)
              refine LU_step ?_
              refine V_seq (V_region rfl ?_)
              refine L_go rfl (X_p (p_lss rfl rfl rfl) ?_)
              refine L_then (.cons (k := 0) rfl (.cons (k := 1) rfl (.cons (k := 4) rfl (.cons (k := 6) rfl (.cons (k := 15) rfl (.cons (k := 16) rfl .nil)))))) ?_
              refine V_seq ?_
              refine V_cond_f rfl rfl ?_
              refine V_exit (then_e (then_e (blk_e rfl (then_n ?_))))
              refine V_seq (V_region rfl ?_)
              refine L_go rfl (X_rd (r_loadA (vs := [_, _, _, _, _, _, _, _, _, _, _, _, _]) ag33 sz33 rfl rfl (by repeat first | exact mH | apply mT) rfl) ?_)
              refine L_go rfl (X_wr (w_store (cs' := [_, _, _, _, _, _, _, _, _, _, _, _, _]) sz33 rfl rfl rfl rfl rfl (by repeat first | exact .head | apply SetAt.tail) (Nat.le_of_ble_eq_true rfl) rfl) ?_)
              rintro _ _ ⟨rfl, rfl⟩
              refine L_go rfl (X_p (p_assign rfl rfl) ?_)
              refine L_then (.cons (k := 4) rfl (.cons (k := 5) rfl .nil)) ?_
              refine V_ret ?_
              refine Leave.nil (.cellA (us := [_, _, _, _, _, _, _, _, _, _, _, _, _]) rfl ag33 sz33 (by repeat first | exact mH | apply mT) rfl (.tmp rfl .nil)) ?_
              exact ⟨_, (by repeat first | exact mH | apply mT), by rw [boxT_3 (partT_some (fv_some hok1 g1') c1) (partT_some (fv_some hok2 g2') c2) (partT_some (fv_some hok3 g3') c3)]; rfl, _, _, rfl, hb3⟩

end Go.Proofs.YtlcccpeelombbaaDoor
