/- Ytclbbchehjapjab: TrackOn is proved: for any task, path, spread, tick and numbers (no condition) it returns true. -/
import Derived.Test.YtclbbchehjapjabRows
import Derived.Test.YtclbbchehjapjabT12
import Derived.Test.YtclbbchehjapjabT13
import Derived.Test.YtclbbchehjapjabT21
import Derived.Test.YtclbbchehjapjabT23
import Derived.Test.YtclbbchehjapjabPd
import Derived.Test.YtclbbchehjapjabSd
import Derived.Test.YtclbbchehjapjabS
import Derived.ProofKit
set_option linter.all false
namespace Go.Proofs.Ytclbbchehjapjab
open Go.Vc Go.Tk Go.ChangeShapes Go.WideShapes Go.ChangeAt Go.RowKit
set_option maxRecDepth 100000
def onB (t : Task) (p : PathM) (q : Nat → Int) (u : Int) : Box := (⟨u, ⟨(spotP t p 0 u) - q 0, (spotP t p 0 u) + q 6⟩, ⟨(spotP t p 1 u) - q 1, (spotP t p 1 u) + q 7⟩, ⟨(spotP t p 2 u) - q 2, (spotP t p 2 u) + q 8⟩, ⟨(spotV t p 0 u) - q 3, (spotV t p 0 u) + q 9⟩, ⟨(spotV t p 1 u) - q 4, (spotV t p 1 u) + q 10⟩, ⟨(spotV t p 2 u) - q 5, (spotV t p 2 u) + q 11⟩⟩ : Box)
theorem onB_has {t : Task} {p : PathM} {q : Nat → Int} {u : Int} (hq : ∀ i, i < 12 → 0 ≤ q i ∧ q i ≤ 65535) : HasB (onB t p q u) (fun k => spotP t p k u) (fun k => spotV t p k u) := by
  have h0 := hq 0 (by decide); have h1 := hq 1 (by decide); have h2 := hq 2 (by decide); have h3 := hq 3 (by decide); have h4 := hq 4 (by decide); have h5 := hq 5 (by decide)
  have h6 := hq 6 (by decide); have h7 := hq 7 (by decide); have h8 := hq 8 (by decide); have h9 := hq 9 (by decide); have h10 := hq 10 (by decide); have h11 := hq 11 (by decide)
  refine ⟨?_, ?_, ?_, ?_, ?_, ?_⟩ <;> (simp only [InI3, onB]; omega)
set_option maxHeartbeats 16000000 in
theorem trackOn_c (p : PathM) (pv : Value) (w : World) (hpr : PathR w pv p) (t : Task) (tv pv2 : Value) (ht : TaskR w (.agg #[.int .i64 t.frm, .int .i64 t.speed, .int .i64 t.accel, tv, pv2]) t) (q : Nat → Int) (hq : ∀ i, i < 12 → 0 ≤ q i ∧ q i ≤ 65535) (u n0 m0 : Int) (hn0 : 0 ≤ n0 ∧ n0 ≤ 255) (hm0 : 0 ≤ m0 ∧ m0 ≤ 255) : FnP Try.prog 6 [.agg #[.int .i64 t.frm, .int .i64 t.speed, .int .i64 t.accel, tv, pv2], pv, .agg #[.int .u16 (q 0), .int .u16 (q 1), .int .u16 (q 2), .int .u16 (q 3), .int .u16 (q 4), .int .u16 (q 5), .int .u16 (q 6), .int .u16 (q 7), .int .u16 (q 8), .int .u16 (q 9), .int .u16 (q 10), .int .u16 (q 11), .int .i64 u, .int .u8 n0, .int .u8 m0]] w (.bool true) := by
  obtain ⟨pp, pc, wa, wc, rfl, hps, hws, hpsl, hpwl⟩ := hpr.ex
  have hT := ht
  obtain ⟨_, _, _, htr, hpl⟩ := ht.lit
  obtain ⟨ta, tc, rfl, htc, hte⟩ := htr.ex
  obtain ⟨pa, pc2, rfl, hpc, hpe⟩ := hpl.ex
  have hlpl := ht.lpl
  simp only [List.length_map] at hT hpl hpc htc ⊢
  refine fn_pure Try.func6 rfl (by kernel_rfl) Try.ntmps6 Try.results6 rfl ?_
  refine V_seq (V_region rfl ?_)
  refine L_go rfl (X_wr (w_box rfl rfl) ?_)
  rintro _ _ ⟨b1, hb1, rfl, rfl⟩
  refine L_go rfl (X_wr (w_box rfl rfl) ?_)
  rintro _ _ ⟨b2, hb2, rfl, rfl⟩
  refine L_go rfl (X_wr (w_box rfl rfl) ?_)
  rintro _ _ ⟨b3, hb3, rfl, rfl⟩
  refine L_go rfl (X_p (p_assign rfl rfl) ?_)
  refine L_then (.cons (k := 3) rfl (.cons (k := 4) rfl (.cons (k := 5) rfl .nil))) ?_
  refine V_seq (V_region rfl ?_)
  refine L_go rfl (X_rd (r_loadA (vs := [_, _, _, _]) ag56 sz56 rfl rfl (by repeat first | exact mH | apply mT | apply List.mem_append_right) rfl) ?_)
  refine L_go rfl (X_rd (r_loadA (vs := [_, _, _, _, _]) ag25 sz25 rfl rfl (by repeat first | exact mH | apply mT | apply List.mem_append_right) rfl) ?_)
  refine L_go rfl (X_wr (w_callG (pre := [_, _, _]) rfl rfl rfl rfl (fun w hg => follow_c p _ w (hpr.good hg) t _ _ (hT.good hg) (-1))) ?_)
  rintro _ _ ⟨GR, GP, rfl, hfr1, ok1, pa1, ra1, pn1, pc1, rn1, rc1, rxs1, rfl, himp⟩
  try simp only [List.cons_append, List.nil_append, List.append_nil]
  refine L_go rfl (X_p (p_move rfl rfl) ?_)
  refine L_go rfl (X_p (p_ext rfl rfl rfl) ?_)
  refine L_go rfl (X_p (p_ext rfl rfl rfl) ?_)
  refine L_go rfl (X_p (p_ext rfl rfl rfl) ?_)
  refine L_go rfl (X_wr (w_alloc zr25 rfl) ?_)
  rintro _ _ ⟨b5, hb5, rfl, rfl⟩
  refine L_go rfl (X_wr (w_store (cs' := [_, _, _, _, _]) sz25 rfl rfl rfl rfl rfl (by repeat first | exact .head | apply SetAt.tail) (Nat.le_of_ble_eq_true rfl) rfl) ?_)
  rintro _ _ ⟨rfl, rfl⟩
  refine L_go rfl (X_p (p_assign rfl rfl) ?_)
  refine L_go rfl (X_p (p_assign rfl rfl) ?_)
  refine L_then (.cons (k := 5) rfl (.cons (k := 7) rfl (.cons (k := 8) rfl (.cons (k := 9) rfl .nil)))) ?_
  refine V_seq ?_
  refine V_seq (V_region rfl ?_)
  refine L_go rfl (X_p (p_move rfl rfl) ?_)
  refine L_go rfl (X_p (p_not rfl rfl) ?_)
  refine L_go rfl (X_p (p_move rfl rfl) ?_)
  refine L_cases (d := 32) rfl ?_ ?_
  · intro g1; have g1' := g1; try simp only [td] at g1'
    refine L_no rfl rfl rfl g1 ?_
    refine L_no rfl rfl rfl g1 ?_
    refine L_no rfl rfl rfl g1 ?_
    refine L_no rfl rfl rfl g1 ?_
    refine L_go rfl (X_p (p_pick_t rfl rfl g1 rfl) ?_)
    refine L_then (.cons (k := 5) rfl (.cons (k := 7) rfl (.cons (k := 8) rfl (.cons (k := 37) rfl .nil)))) ?_
    refine V_cond_t rfl rfl ?_
    refine V_seq (V_region rfl ?_)
    refine L_go rfl (X_wr (w_callP rfl rfl rfl (fun w hg => awake_c w)) ?_)
    rintro _ _ ⟨rfl, rfl⟩
    refine L_go rfl (X_p (p_assign rfl rfl) ?_)
    refine L_then (.cons (k := 6) rfl .nil) ?_
    refine V_ret (then_r ?_)
    refine Leave.nil (.tmp rfl .nil) ?_
    show Value.bool _ = _
    first | rfl | simp
  · intro g1; have g1' := g1; try simp only [td] at g1'
    have hk1 : ok1 = true := by revert g1; cases ok1 <;> simp
    obtain ⟨hG, hG', rfl, rfl, rfl, hsm, hsp, hgP, hgR⟩ := himp hk1
    obtain ⟨hf, hs, ha⟩ := hG.nums
    have hpl60 := hG.h2
    refine L_yes rfl rfl rfl g1 (X_p (p_fieldo fo59_2 rfl rfl) ?_)
    refine L_yes rfl rfl rfl g1 (X_rd (r_load ag3 rfl rfl (by repeat first | exact mH | apply mT | apply List.mem_append_right) rfl) ?_)
    refine L_yes rfl rfl rfl g1 (X_wr (w_callP rfl rfl rfl (fun w hg => ticks_c u 0 w)) ?_)
    rintro _ _ ⟨rfl, rfl⟩
    refine L_yes rfl rfl rfl g1 (X_p (p_not rfl rfl) ?_)
    refine L_go rfl (X_p (p_pick_f rfl rfl g1 rfl) ?_)
    refine L_then (.cons (k := 5) rfl (.cons (k := 7) rfl (.cons (k := 8) rfl (.cons (k := 37) rfl .nil)))) ?_
    refine V_cond rfl ?_ ?_
    · intro c1; have c1r := c1; try simp only [td] at c1
      refine V_seq (V_region rfl ?_)
      refine L_go rfl (X_wr (w_callP rfl rfl rfl (fun w hg => awake_c w)) ?_)
      rintro _ _ ⟨rfl, rfl⟩
      refine L_go rfl (X_p (p_assign rfl rfl) ?_)
      refine L_then (.cons (k := 6) rfl .nil) ?_
      refine V_ret (then_r ?_)
      refine Leave.nil (.tmp rfl .nil) ?_
      show Value.bool _ = _
      first | rfl | simp
    · intro c1; have c1r := c1; try simp only [td] at c1
      have htk : ticksB u 0 = true := by revert c1r; cases ticksB u 0 <;> simp
      have htk2 := ticks_ok htk
      refine V_skip (then_n ?_)
      refine V_seq (V_region rfl ?_)
      refine L_go rfl (X_rd (r_loadA (vs := [_, _, _, _, _]) ag25 sz25 rfl rfl (by repeat first | exact mH | apply mT | apply List.mem_append_right) rfl) ?_)
      refine L_go rfl (X_p (p_move rfl rfl) ?_)
      refine L_go rfl (X_p (p_fieldo fo59_2 rfl rfl) ?_)
      refine L_go rfl (X_rd (r_load ag3 rfl rfl (by repeat first | exact mH | apply mT | apply List.mem_append_right) rfl) ?_)
      refine L_go rfl (X_wr (w_callP rfl rfl rfl (fun w hg => spot_c t p _ _ _ _ ra1 rc1 u hf (by omega) hsm w (Grow.rows (els := rowsP t p 602) hgR rowsP_3 rowsP_len.symm (fun p hp => hg.own p (by repeat first | exact hp | exact List.mem_append_left _ hp | apply List.mem_append_right | apply mT))))) ?_)
      rintro _ _ ⟨rfl, rfl⟩
      refine L_go rfl (X_p (p_move rfl rfl) ?_)
      refine L_go rfl (X_p (p_ext rfl rfl rfl) ?_)
      refine L_go rfl (X_p (p_ext rfl rfl rfl) ?_)
      refine L_go rfl (X_p (p_ext rfl rfl rfl) ?_)
      refine L_go rfl (X_wr (w_alloc zr64 rfl) ?_)
      rintro _ _ ⟨b6, hb6, rfl, rfl⟩
      refine L_go rfl (X_wr (w_alloc zr64 rfl) ?_)
      rintro _ _ ⟨b7, hb7, rfl, rfl⟩
      refine L_go rfl (X_wr (w_store (cs' := [_, _, _]) sz64 rfl rfl rfl rfl rfl (by repeat first | exact .head | apply SetAt.tail) (Nat.le_of_ble_eq_true rfl) rfl) ?_)
      rintro _ _ ⟨rfl, rfl⟩
      refine L_go rfl (X_wr (w_store (cs' := [_, _, _]) sz64 rfl rfl rfl rfl rfl (by repeat first | exact .head | apply SetAt.tail) (Nat.le_of_ble_eq_true rfl) rfl) ?_)
      rintro _ _ ⟨rfl, rfl⟩
      refine L_go rfl (X_p (p_assign rfl rfl) ?_)
      refine L_then (.cons (k := 5) rfl (.cons (k := 7) rfl (.cons (k := 8) rfl (.cons (k := 9) rfl (.cons (k := 10) rfl (.cons (k := 11) rfl .nil)))))) ?_
      refine V_seq ?_
      refine V_seq (V_region rfl ?_)
      refine L_go rfl (X_p (p_move rfl rfl) ?_)
      refine L_go rfl (X_p (p_not rfl rfl) ?_)
      refine L_then (.cons (k := 5) rfl (.cons (k := 7) rfl (.cons (k := 8) rfl (.cons (k := 10) rfl (.cons (k := 11) rfl (.cons (k := 49) rfl .nil)))))) ?_
      refine V_cond rfl ?_ ?_
      · intro c2; have c2r := c2; try simp only [td] at c2
        refine V_seq (V_region rfl ?_)
        refine L_go rfl (X_wr (w_callP rfl rfl rfl (fun w hg => awake_c w)) ?_)
        rintro _ _ ⟨rfl, rfl⟩
        refine L_go rfl (X_p (p_assign rfl rfl) ?_)
        refine L_then (.cons (k := 6) rfl .nil) ?_
        refine V_ret (then_r ?_)
        refine Leave.nil (.tmp rfl .nil) ?_
        show Value.bool _ = _
        first | rfl | simp
      · intro c2; have c2r := c2; try simp only [td] at c2
        have hso : spotOk t u = true := by revert c2r; cases spotOk t u <;> simp
        refine V_skip (then_n ?_)
        refine V_seq (V_region rfl ?_)
        refine L_go rfl (X_wr (w_alloc zr67 rfl) ?_)
        rintro _ _ ⟨b8, hb8, rfl, rfl⟩
        refine L_then (.cons (k := 5) rfl (.cons (k := 7) rfl (.cons (k := 8) rfl (.cons (k := 10) rfl (.cons (k := 11) rfl (.cons (k := 12) rfl .nil)))))) ?_
        refine V_seq ?_
        refine V_seq (V_region rfl ?_)
        refine L_go rfl (X_p (p_assign rfl rfl) ?_)
        refine L_then (.cons (k := 5) rfl (.cons (k := 7) rfl (.cons (k := 8) rfl (.cons (k := 10) rfl (.cons (k := 11) rfl (.cons (k := 12) rfl (.cons (k := 13) rfl .nil))))))) ?_
        refine V_block ?_
        refine V_loopU ?_
        refine LU_step ?_
        refine V_seq ?_
        refine V_seq (V_region rfl ?_)
        refine L_go rfl (X_p (p_move rfl rfl) ?_)
        refine L_go rfl (X_p (p_lss rfl rfl rfl) ?_)
        refine L_then (.cons (k := 5) rfl (.cons (k := 7) rfl (.cons (k := 8) rfl (.cons (k := 10) rfl (.cons (k := 11) rfl (.cons (k := 12) rfl (.cons (k := 13) rfl (.cons (k := 52) rfl .nil)))))))) ?_
        refine V_cond_t rfl rfl ?_
        refine V_skip (then_n ?_)
        refine V_seq ?_
        refine V_block ?_
        refine V_seq (V_draw (.rd 0 (.rd 1 (.rd 2 (.rd 3 (.rd 4 (.rd 5 (.rd 6 (.rd 7 (.rd 8 (.rd 9 (.rd 10 (.rd 11 (.rd 12 (.rd 13 (.rd 14 (.rd 15 (.rd 16 (.rd 17 (.rd 18 (.wr 19 [17, 16, 15, 14, 13, 12, 11, 10, 8, 7, 6, 5, 4, 3, 2, 1, 0] (.rd 20 (.wr 21 [] .done)))))))))))))))))))))) mixed (by kernel_rfl) rfl ?_)
        refine D_p rfl (.plain rfl) (p_move rfl rfl) ?_
        refine D_p rfl (.plain rfl) (p_move rfl rfl) ?_
        refine D_p rfl (.plain rfl) (p_idxao ar64 rfl rfl rfl (by omega) (by omega)) ?_
        refine D_rd rfl (.plain rfl) (r_load ag3 rfl rfl (by repeat first | exact mH | apply mT | apply List.mem_append_right) rfl) ?_
        refine D_p rfl (.plain rfl) (p_move rfl rfl) ?_
        refine D_p rfl (.plain rfl) (p_fieldo fo59_0 rfl rfl) ?_
        refine D_p rfl (.plain rfl) (p_idxao ar57 rfl rfl rfl (by omega) (by omega)) ?_
        refine D_rd rfl (.plain rfl) (r_load ag42 rfl rfl (by repeat first | exact mH | apply mT | apply List.mem_append_right) rfl) ?_
        refine D_p rfl (.plain rfl) (p_convI un42 un3 rfl rfl (by have := hq 0 (by decide); unfold InI; omega)) ?_
        refine D_p rfl (.plain rfl) (p_sub' rfl rfl rfl (by show InI (spotP t p 0 u - q 0); have := hq 0 (by decide); have := spotP_bnd hsm (u := u) 0 (by decide); have := spotV_bnd (p := p) hG (u := u) 0; unfold InI; omega)) ?_
        refine D_p rfl (.plain rfl) (p_move rfl rfl) ?_
        refine D_p rfl (.plain rfl) (p_idxao ar64 rfl rfl rfl (by omega) (by omega)) ?_
        refine D_rd rfl (.plain rfl) (r_load ag3 rfl rfl (by repeat first | exact mH | apply mT | apply List.mem_append_right) rfl) ?_
        refine D_p rfl (.plain rfl) (p_move rfl rfl) ?_
        refine D_p rfl (.plain rfl) (p_fieldo fo59_1 rfl rfl) ?_
        refine D_p rfl (.plain rfl) (p_idxao ar57 rfl rfl rfl (by omega) (by omega)) ?_
        refine D_rd rfl (.plain rfl) (r_load ag42 rfl rfl (by repeat first | exact mH | apply mT | apply List.mem_append_right) rfl) ?_
        refine D_p rfl (.plain rfl) (p_convI un42 un3 rfl rfl (by have := hq 6 (by decide); unfold InI; omega)) ?_
        refine D_p rfl (.plain rfl) (p_add' rfl rfl rfl (by show InI (spotP t p 0 u + q 6); have := hq 6 (by decide); have := spotP_bnd hsm (u := u) 0 (by decide); have := spotV_bnd (p := p) hG (u := u) 0; unfold InI; omega)) ?_
        refine D_wr (.go (E' := [(16, _), (12, _), (7, _), (3, _)]) rfl (.plain rfl) (w_callP rfl rfl rfl (fun w hg => lspan_c _ _ w)) rfl ?_)
        rintro _ _ ⟨rfl, rfl⟩
        refine ⟨(.cons rfl (.plain rfl) (r_load ag42 rfl rfl (by repeat first | exact mH | apply mT | apply List.mem_append_right) rfl) (.cons rfl (.plain rfl) (r_load ag3 rfl rfl (by repeat first | exact mH | apply mT | apply List.mem_append_right) rfl) (.cons rfl (.plain rfl) (r_load ag42 rfl rfl (by repeat first | exact mH | apply mT | apply List.mem_append_right) rfl) (.cons rfl (.plain rfl) (r_load ag3 rfl rfl (by repeat first | exact mH | apply mT | apply List.mem_append_right) rfl) .nil)))), ?_⟩
        refine D_p rfl (.plain rfl) (p_idxao ar67 rfl rfl rfl (by omega) (by omega)) ?_
        refine D_wr (.go (E' := []) rfl (.plain rfl) (w_store (cs' := [_, _, _, _, _, _, _, _, _, _, _, _]) sz32 rfl rfl rfl rfl rfl (by repeat first | exact .head | apply SetAt.tail) (Nat.le_of_ble_eq_true rfl) rfl) rfl ?_)
        rintro _ _ ⟨rfl, rfl⟩
        refine ⟨.nil, ?_⟩
        refine D_then (.cons (k := 5) rfl (.cons (k := 7) rfl (.cons (k := 8) rfl (.cons (k := 10) rfl (.cons (k := 11) rfl (.cons (k := 12) rfl (.cons (k := 13) rfl .nil))))))) ?_
        refine V_draw (.rd 0 (.rd 1 (.rd 2 (.rd 3 (.rd 4 (.rd 5 (.rd 6 (.rd 7 (.rd 8 (.rd 9 (.rd 10 (.rd 11 (.rd 12 (.rd 13 (.rd 14 (.rd 15 (.rd 16 (.rd 17 (.rd 18 (.rd 19 (.rd 20 (.rd 21 (.wr 22 [20, 19, 18, 17, 16, 15, 14, 13, 12, 10, 9, 8, 7, 6, 5, 4, 3, 2, 1, 0] (.rd 23 (.wr 24 [] .done))))))))))))))))))))))))) mixed (by kernel_rfl) rfl ?_
        refine D_p rfl (.plain rfl) (p_move rfl rfl) ?_
        first | refine D_p rfl (.plain rfl) (p_add' rfl rfl rfl (by unfold InI; omega)) ?_ | refine D_p rfl (.plain rfl) (p_add rfl rfl rfl) ?_
        refine D_p rfl (.plain rfl) (p_move rfl rfl) ?_
        refine D_p rfl (.plain rfl) (p_idxao ar64 rfl rfl rfl (by omega) (by omega)) ?_
        refine D_rd rfl (.plain rfl) (r_load ag3 rfl rfl (by repeat first | exact mH | apply mT | apply List.mem_append_right) rfl) ?_
        refine D_p rfl (.plain rfl) (p_move rfl rfl) ?_
        first | refine D_p rfl (.plain rfl) (p_add' rfl rfl rfl (by unfold InI; omega)) ?_ | refine D_p rfl (.plain rfl) (p_add rfl rfl rfl) ?_
        refine D_p rfl (.plain rfl) (p_fieldo fo59_0 rfl rfl) ?_
        refine D_p rfl (.plain rfl) (p_idxao ar57 rfl rfl rfl (by omega) (by omega)) ?_
        refine D_rd rfl (.plain rfl) (r_load ag42 rfl rfl (by repeat first | exact mH | apply mT | apply List.mem_append_right) rfl) ?_
        refine D_p rfl (.plain rfl) (p_convI un42 un3 rfl rfl (by have := hq 3 (by decide); unfold InI; omega)) ?_
        refine D_p rfl (.plain rfl) (p_sub' rfl rfl rfl (by show InI (spotV t p 0 u - q 3); have := hq 3 (by decide); have := spotP_bnd hsm (u := u) 0 (by decide); have := spotV_bnd (p := p) hG (u := u) 0; unfold InI; omega)) ?_
        refine D_p rfl (.plain rfl) (p_move rfl rfl) ?_
        refine D_p rfl (.plain rfl) (p_idxao ar64 rfl rfl rfl (by omega) (by omega)) ?_
        refine D_rd rfl (.plain rfl) (r_load ag3 rfl rfl (by repeat first | exact mH | apply mT | apply List.mem_append_right) rfl) ?_
        refine D_p rfl (.plain rfl) (p_move rfl rfl) ?_
        first | refine D_p rfl (.plain rfl) (p_add' rfl rfl rfl (by unfold InI; omega)) ?_ | refine D_p rfl (.plain rfl) (p_add rfl rfl rfl) ?_
        refine D_p rfl (.plain rfl) (p_fieldo fo59_1 rfl rfl) ?_
        refine D_p rfl (.plain rfl) (p_idxao ar57 rfl rfl rfl (by omega) (by omega)) ?_
        refine D_rd rfl (.plain rfl) (r_load ag42 rfl rfl (by repeat first | exact mH | apply mT | apply List.mem_append_right) rfl) ?_
        refine D_p rfl (.plain rfl) (p_convI un42 un3 rfl rfl (by have := hq 9 (by decide); unfold InI; omega)) ?_
        refine D_p rfl (.plain rfl) (p_add' rfl rfl rfl (by show InI (spotV t p 0 u + q 9); have := hq 9 (by decide); have := spotP_bnd hsm (u := u) 0 (by decide); have := spotV_bnd (p := p) hG (u := u) 0; unfold InI; omega)) ?_
        refine D_wr (.go (E' := [(19, _), (14, _), (9, _), (4, _)]) rfl (.plain rfl) (w_callP rfl rfl rfl (fun w hg => lspan_c _ _ w)) rfl ?_)
        rintro _ _ ⟨rfl, rfl⟩
        refine ⟨(.cons rfl (.plain rfl) (r_load ag42 rfl rfl (by repeat first | exact mH | apply mT | apply List.mem_append_right) rfl) (.cons rfl (.plain rfl) (r_load ag3 rfl rfl (by repeat first | exact mH | apply mT | apply List.mem_append_right) rfl) (.cons rfl (.plain rfl) (r_load ag42 rfl rfl (by repeat first | exact mH | apply mT | apply List.mem_append_right) rfl) (.cons rfl (.plain rfl) (r_load ag3 rfl rfl (by repeat first | exact mH | apply mT | apply List.mem_append_right) rfl) .nil)))), ?_⟩
        refine D_p rfl (.plain rfl) (p_idxao ar67 rfl rfl rfl (by omega) (by omega)) ?_
        refine D_wr (.go (E' := []) rfl (.plain rfl) (w_store (cs' := [_, _, _, _, _, _, _, _, _, _, _, _]) sz32 rfl rfl rfl rfl rfl (by repeat first | exact .head | apply SetAt.tail) (Nat.le_of_ble_eq_true rfl) rfl) rfl ?_)
        rintro _ _ ⟨rfl, rfl⟩
        refine ⟨.nil, ?_⟩
        refine D_keep (.cons (k := 5) rfl (.cons (k := 7) rfl (.cons (k := 8) rfl (.cons (k := 10) rfl (.cons (k := 11) rfl (.cons (k := 12) rfl (.cons (k := 13) rfl .nil))))))) (blk_n (then_n ?_))
        refine V_region rfl ?_
        refine L_go rfl (X_p (p_move rfl rfl) ?_)
        first | refine L_go rfl (X_p (p_add' rfl rfl rfl (by unfold InI; omega)) ?_) | refine L_go rfl (X_p (p_add rfl rfl rfl) ?_)
        refine L_go rfl (X_p (p_assign rfl rfl) ?_)
        refine L_keep (.cons (k := 5) rfl (.cons (k := 7) rfl (.cons (k := 8) rfl (.cons (k := 10) rfl (.cons (k := 11) rfl (.cons (k := 12) rfl (.cons (k := 13) rfl .nil))))))) (then_n ?_)
        refine LU_step ?_
        refine V_seq ?_
        refine V_seq (V_region rfl ?_)
        refine L_go rfl (X_p (p_move rfl rfl) ?_)
        refine L_go rfl (X_p (p_lss rfl rfl rfl) ?_)
        refine L_then (.cons (k := 5) rfl (.cons (k := 7) rfl (.cons (k := 8) rfl (.cons (k := 10) rfl (.cons (k := 11) rfl (.cons (k := 12) rfl (.cons (k := 13) rfl (.cons (k := 52) rfl .nil)))))))) ?_
        refine V_cond_t rfl rfl ?_
        refine V_skip (then_n ?_)
        refine V_seq ?_
        refine V_block ?_
        refine V_seq (V_draw (.rd 0 (.rd 1 (.rd 2 (.rd 3 (.rd 4 (.rd 5 (.rd 6 (.rd 7 (.rd 8 (.rd 9 (.rd 10 (.rd 11 (.rd 12 (.rd 13 (.rd 14 (.rd 15 (.rd 16 (.rd 17 (.rd 18 (.wr 19 [17, 16, 15, 14, 13, 12, 11, 10, 8, 7, 6, 5, 4, 3, 2, 1, 0] (.rd 20 (.wr 21 [] .done)))))))))))))))))))))) mixed (by kernel_rfl) rfl ?_)
        refine D_p rfl (.plain rfl) (p_move rfl rfl) ?_
        refine D_p rfl (.plain rfl) (p_move rfl rfl) ?_
        refine D_p rfl (.plain rfl) (p_idxao ar64 rfl rfl rfl (by omega) (by omega)) ?_
        refine D_rd rfl (.plain rfl) (r_load ag3 rfl rfl (by repeat first | exact mH | apply mT | apply List.mem_append_right) rfl) ?_
        refine D_p rfl (.plain rfl) (p_move rfl rfl) ?_
        refine D_p rfl (.plain rfl) (p_fieldo fo59_0 rfl rfl) ?_
        refine D_p rfl (.plain rfl) (p_idxao ar57 rfl rfl rfl (by omega) (by omega)) ?_
        refine D_rd rfl (.plain rfl) (r_load ag42 rfl rfl (by repeat first | exact mH | apply mT | apply List.mem_append_right) rfl) ?_
        refine D_p rfl (.plain rfl) (p_convI un42 un3 rfl rfl (by have := hq 1 (by decide); unfold InI; omega)) ?_
        refine D_p rfl (.plain rfl) (p_sub' rfl rfl rfl (by show InI (spotP t p 1 u - q 1); have := hq 1 (by decide); have := spotP_bnd hsm (u := u) 1 (by decide); have := spotV_bnd (p := p) hG (u := u) 1; unfold InI; omega)) ?_
        refine D_p rfl (.plain rfl) (p_move rfl rfl) ?_
        refine D_p rfl (.plain rfl) (p_idxao ar64 rfl rfl rfl (by omega) (by omega)) ?_
        refine D_rd rfl (.plain rfl) (r_load ag3 rfl rfl (by repeat first | exact mH | apply mT | apply List.mem_append_right) rfl) ?_
        refine D_p rfl (.plain rfl) (p_move rfl rfl) ?_
        refine D_p rfl (.plain rfl) (p_fieldo fo59_1 rfl rfl) ?_
        refine D_p rfl (.plain rfl) (p_idxao ar57 rfl rfl rfl (by omega) (by omega)) ?_
        refine D_rd rfl (.plain rfl) (r_load ag42 rfl rfl (by repeat first | exact mH | apply mT | apply List.mem_append_right) rfl) ?_
        refine D_p rfl (.plain rfl) (p_convI un42 un3 rfl rfl (by have := hq 7 (by decide); unfold InI; omega)) ?_
        refine D_p rfl (.plain rfl) (p_add' rfl rfl rfl (by show InI (spotP t p 1 u + q 7); have := hq 7 (by decide); have := spotP_bnd hsm (u := u) 1 (by decide); have := spotV_bnd (p := p) hG (u := u) 1; unfold InI; omega)) ?_
        refine D_wr (.go (E' := [(16, _), (12, _), (7, _), (3, _)]) rfl (.plain rfl) (w_callP rfl rfl rfl (fun w hg => lspan_c _ _ w)) rfl ?_)
        rintro _ _ ⟨rfl, rfl⟩
        refine ⟨(.cons rfl (.plain rfl) (r_load ag42 rfl rfl (by repeat first | exact mH | apply mT | apply List.mem_append_right) rfl) (.cons rfl (.plain rfl) (r_load ag3 rfl rfl (by repeat first | exact mH | apply mT | apply List.mem_append_right) rfl) (.cons rfl (.plain rfl) (r_load ag42 rfl rfl (by repeat first | exact mH | apply mT | apply List.mem_append_right) rfl) (.cons rfl (.plain rfl) (r_load ag3 rfl rfl (by repeat first | exact mH | apply mT | apply List.mem_append_right) rfl) .nil)))), ?_⟩
        refine D_p rfl (.plain rfl) (p_idxao ar67 rfl rfl rfl (by omega) (by omega)) ?_
        refine D_wr (.go (E' := []) rfl (.plain rfl) (w_store (cs' := [_, _, _, _, _, _, _, _, _, _, _, _]) sz32 rfl rfl rfl rfl rfl (by repeat first | exact .head | apply SetAt.tail) (Nat.le_of_ble_eq_true rfl) rfl) rfl ?_)
        rintro _ _ ⟨rfl, rfl⟩
        refine ⟨.nil, ?_⟩
        refine D_then (.cons (k := 5) rfl (.cons (k := 7) rfl (.cons (k := 8) rfl (.cons (k := 10) rfl (.cons (k := 11) rfl (.cons (k := 12) rfl (.cons (k := 13) rfl .nil))))))) ?_
        refine V_draw (.rd 0 (.rd 1 (.rd 2 (.rd 3 (.rd 4 (.rd 5 (.rd 6 (.rd 7 (.rd 8 (.rd 9 (.rd 10 (.rd 11 (.rd 12 (.rd 13 (.rd 14 (.rd 15 (.rd 16 (.rd 17 (.rd 18 (.rd 19 (.rd 20 (.rd 21 (.wr 22 [20, 19, 18, 17, 16, 15, 14, 13, 12, 10, 9, 8, 7, 6, 5, 4, 3, 2, 1, 0] (.rd 23 (.wr 24 [] .done))))))))))))))))))))))))) mixed (by kernel_rfl) rfl ?_
        refine D_p rfl (.plain rfl) (p_move rfl rfl) ?_
        first | refine D_p rfl (.plain rfl) (p_add' rfl rfl rfl (by unfold InI; omega)) ?_ | refine D_p rfl (.plain rfl) (p_add rfl rfl rfl) ?_
        refine D_p rfl (.plain rfl) (p_move rfl rfl) ?_
        refine D_p rfl (.plain rfl) (p_idxao ar64 rfl rfl rfl (by omega) (by omega)) ?_
        refine D_rd rfl (.plain rfl) (r_load ag3 rfl rfl (by repeat first | exact mH | apply mT | apply List.mem_append_right) rfl) ?_
        refine D_p rfl (.plain rfl) (p_move rfl rfl) ?_
        first | refine D_p rfl (.plain rfl) (p_add' rfl rfl rfl (by unfold InI; omega)) ?_ | refine D_p rfl (.plain rfl) (p_add rfl rfl rfl) ?_
        refine D_p rfl (.plain rfl) (p_fieldo fo59_0 rfl rfl) ?_
        refine D_p rfl (.plain rfl) (p_idxao ar57 rfl rfl rfl (by omega) (by omega)) ?_
        refine D_rd rfl (.plain rfl) (r_load ag42 rfl rfl (by repeat first | exact mH | apply mT | apply List.mem_append_right) rfl) ?_
        refine D_p rfl (.plain rfl) (p_convI un42 un3 rfl rfl (by have := hq 4 (by decide); unfold InI; omega)) ?_
        refine D_p rfl (.plain rfl) (p_sub' rfl rfl rfl (by show InI (spotV t p 1 u - q 4); have := hq 4 (by decide); have := spotP_bnd hsm (u := u) 1 (by decide); have := spotV_bnd (p := p) hG (u := u) 1; unfold InI; omega)) ?_
        refine D_p rfl (.plain rfl) (p_move rfl rfl) ?_
        refine D_p rfl (.plain rfl) (p_idxao ar64 rfl rfl rfl (by omega) (by omega)) ?_
        refine D_rd rfl (.plain rfl) (r_load ag3 rfl rfl (by repeat first | exact mH | apply mT | apply List.mem_append_right) rfl) ?_
        refine D_p rfl (.plain rfl) (p_move rfl rfl) ?_
        first | refine D_p rfl (.plain rfl) (p_add' rfl rfl rfl (by unfold InI; omega)) ?_ | refine D_p rfl (.plain rfl) (p_add rfl rfl rfl) ?_
        refine D_p rfl (.plain rfl) (p_fieldo fo59_1 rfl rfl) ?_
        refine D_p rfl (.plain rfl) (p_idxao ar57 rfl rfl rfl (by omega) (by omega)) ?_
        refine D_rd rfl (.plain rfl) (r_load ag42 rfl rfl (by repeat first | exact mH | apply mT | apply List.mem_append_right) rfl) ?_
        refine D_p rfl (.plain rfl) (p_convI un42 un3 rfl rfl (by have := hq 10 (by decide); unfold InI; omega)) ?_
        refine D_p rfl (.plain rfl) (p_add' rfl rfl rfl (by show InI (spotV t p 1 u + q 10); have := hq 10 (by decide); have := spotP_bnd hsm (u := u) 1 (by decide); have := spotV_bnd (p := p) hG (u := u) 1; unfold InI; omega)) ?_
        refine D_wr (.go (E' := [(19, _), (14, _), (9, _), (4, _)]) rfl (.plain rfl) (w_callP rfl rfl rfl (fun w hg => lspan_c _ _ w)) rfl ?_)
        rintro _ _ ⟨rfl, rfl⟩
        refine ⟨(.cons rfl (.plain rfl) (r_load ag42 rfl rfl (by repeat first | exact mH | apply mT | apply List.mem_append_right) rfl) (.cons rfl (.plain rfl) (r_load ag3 rfl rfl (by repeat first | exact mH | apply mT | apply List.mem_append_right) rfl) (.cons rfl (.plain rfl) (r_load ag42 rfl rfl (by repeat first | exact mH | apply mT | apply List.mem_append_right) rfl) (.cons rfl (.plain rfl) (r_load ag3 rfl rfl (by repeat first | exact mH | apply mT | apply List.mem_append_right) rfl) .nil)))), ?_⟩
        refine D_p rfl (.plain rfl) (p_idxao ar67 rfl rfl rfl (by omega) (by omega)) ?_
        refine D_wr (.go (E' := []) rfl (.plain rfl) (w_store (cs' := [_, _, _, _, _, _, _, _, _, _, _, _]) sz32 rfl rfl rfl rfl rfl (by repeat first | exact .head | apply SetAt.tail) (Nat.le_of_ble_eq_true rfl) rfl) rfl ?_)
        rintro _ _ ⟨rfl, rfl⟩
        refine ⟨.nil, ?_⟩
        refine D_keep (.cons (k := 5) rfl (.cons (k := 7) rfl (.cons (k := 8) rfl (.cons (k := 10) rfl (.cons (k := 11) rfl (.cons (k := 12) rfl (.cons (k := 13) rfl .nil))))))) (blk_n (then_n ?_))
        refine V_region rfl ?_
        refine L_go rfl (X_p (p_move rfl rfl) ?_)
        first | refine L_go rfl (X_p (p_add' rfl rfl rfl (by unfold InI; omega)) ?_) | refine L_go rfl (X_p (p_add rfl rfl rfl) ?_)
        refine L_go rfl (X_p (p_assign rfl rfl) ?_)
        refine L_keep (.cons (k := 5) rfl (.cons (k := 7) rfl (.cons (k := 8) rfl (.cons (k := 10) rfl (.cons (k := 11) rfl (.cons (k := 12) rfl (.cons (k := 13) rfl .nil))))))) (then_n ?_)
        refine LU_step ?_
        refine V_seq ?_
        refine V_seq (V_region rfl ?_)
        refine L_go rfl (X_p (p_move rfl rfl) ?_)
        refine L_go rfl (X_p (p_lss rfl rfl rfl) ?_)
        refine L_then (.cons (k := 5) rfl (.cons (k := 7) rfl (.cons (k := 8) rfl (.cons (k := 10) rfl (.cons (k := 11) rfl (.cons (k := 12) rfl (.cons (k := 13) rfl (.cons (k := 52) rfl .nil)))))))) ?_
        refine V_cond_t rfl rfl ?_
        refine V_skip (then_n ?_)
        refine V_seq ?_
        refine V_block ?_
        refine V_seq (V_draw (.rd 0 (.rd 1 (.rd 2 (.rd 3 (.rd 4 (.rd 5 (.rd 6 (.rd 7 (.rd 8 (.rd 9 (.rd 10 (.rd 11 (.rd 12 (.rd 13 (.rd 14 (.rd 15 (.rd 16 (.rd 17 (.rd 18 (.wr 19 [17, 16, 15, 14, 13, 12, 11, 10, 8, 7, 6, 5, 4, 3, 2, 1, 0] (.rd 20 (.wr 21 [] .done)))))))))))))))))))))) mixed (by kernel_rfl) rfl ?_)
        refine D_p rfl (.plain rfl) (p_move rfl rfl) ?_
        refine D_p rfl (.plain rfl) (p_move rfl rfl) ?_
        refine D_p rfl (.plain rfl) (p_idxao ar64 rfl rfl rfl (by omega) (by omega)) ?_
        refine D_rd rfl (.plain rfl) (r_load ag3 rfl rfl (by repeat first | exact mH | apply mT | apply List.mem_append_right) rfl) ?_
        refine D_p rfl (.plain rfl) (p_move rfl rfl) ?_
        refine D_p rfl (.plain rfl) (p_fieldo fo59_0 rfl rfl) ?_
        refine D_p rfl (.plain rfl) (p_idxao ar57 rfl rfl rfl (by omega) (by omega)) ?_
        refine D_rd rfl (.plain rfl) (r_load ag42 rfl rfl (by repeat first | exact mH | apply mT | apply List.mem_append_right) rfl) ?_
        refine D_p rfl (.plain rfl) (p_convI un42 un3 rfl rfl (by have := hq 2 (by decide); unfold InI; omega)) ?_
        refine D_p rfl (.plain rfl) (p_sub' rfl rfl rfl (by show InI (spotP t p 2 u - q 2); have := hq 2 (by decide); have := spotP_bnd hsm (u := u) 2 (by decide); have := spotV_bnd (p := p) hG (u := u) 2; unfold InI; omega)) ?_
        refine D_p rfl (.plain rfl) (p_move rfl rfl) ?_
        refine D_p rfl (.plain rfl) (p_idxao ar64 rfl rfl rfl (by omega) (by omega)) ?_
        refine D_rd rfl (.plain rfl) (r_load ag3 rfl rfl (by repeat first | exact mH | apply mT | apply List.mem_append_right) rfl) ?_
        refine D_p rfl (.plain rfl) (p_move rfl rfl) ?_
        refine D_p rfl (.plain rfl) (p_fieldo fo59_1 rfl rfl) ?_
        refine D_p rfl (.plain rfl) (p_idxao ar57 rfl rfl rfl (by omega) (by omega)) ?_
        refine D_rd rfl (.plain rfl) (r_load ag42 rfl rfl (by repeat first | exact mH | apply mT | apply List.mem_append_right) rfl) ?_
        refine D_p rfl (.plain rfl) (p_convI un42 un3 rfl rfl (by have := hq 8 (by decide); unfold InI; omega)) ?_
        refine D_p rfl (.plain rfl) (p_add' rfl rfl rfl (by show InI (spotP t p 2 u + q 8); have := hq 8 (by decide); have := spotP_bnd hsm (u := u) 2 (by decide); have := spotV_bnd (p := p) hG (u := u) 2; unfold InI; omega)) ?_
        refine D_wr (.go (E' := [(16, _), (12, _), (7, _), (3, _)]) rfl (.plain rfl) (w_callP rfl rfl rfl (fun w hg => lspan_c _ _ w)) rfl ?_)
        rintro _ _ ⟨rfl, rfl⟩
        refine ⟨(.cons rfl (.plain rfl) (r_load ag42 rfl rfl (by repeat first | exact mH | apply mT | apply List.mem_append_right) rfl) (.cons rfl (.plain rfl) (r_load ag3 rfl rfl (by repeat first | exact mH | apply mT | apply List.mem_append_right) rfl) (.cons rfl (.plain rfl) (r_load ag42 rfl rfl (by repeat first | exact mH | apply mT | apply List.mem_append_right) rfl) (.cons rfl (.plain rfl) (r_load ag3 rfl rfl (by repeat first | exact mH | apply mT | apply List.mem_append_right) rfl) .nil)))), ?_⟩
        refine D_p rfl (.plain rfl) (p_idxao ar67 rfl rfl rfl (by omega) (by omega)) ?_
        refine D_wr (.go (E' := []) rfl (.plain rfl) (w_store (cs' := [_, _, _, _, _, _, _, _, _, _, _, _]) sz32 rfl rfl rfl rfl rfl (by repeat first | exact .head | apply SetAt.tail) (Nat.le_of_ble_eq_true rfl) rfl) rfl ?_)
        rintro _ _ ⟨rfl, rfl⟩
        refine ⟨.nil, ?_⟩
        refine D_then (.cons (k := 5) rfl (.cons (k := 7) rfl (.cons (k := 8) rfl (.cons (k := 10) rfl (.cons (k := 11) rfl (.cons (k := 12) rfl (.cons (k := 13) rfl .nil))))))) ?_
        refine V_draw (.rd 0 (.rd 1 (.rd 2 (.rd 3 (.rd 4 (.rd 5 (.rd 6 (.rd 7 (.rd 8 (.rd 9 (.rd 10 (.rd 11 (.rd 12 (.rd 13 (.rd 14 (.rd 15 (.rd 16 (.rd 17 (.rd 18 (.rd 19 (.rd 20 (.rd 21 (.wr 22 [20, 19, 18, 17, 16, 15, 14, 13, 12, 10, 9, 8, 7, 6, 5, 4, 3, 2, 1, 0] (.rd 23 (.wr 24 [] .done))))))))))))))))))))))))) mixed (by kernel_rfl) rfl ?_
        refine D_p rfl (.plain rfl) (p_move rfl rfl) ?_
        first | refine D_p rfl (.plain rfl) (p_add' rfl rfl rfl (by unfold InI; omega)) ?_ | refine D_p rfl (.plain rfl) (p_add rfl rfl rfl) ?_
        refine D_p rfl (.plain rfl) (p_move rfl rfl) ?_
        refine D_p rfl (.plain rfl) (p_idxao ar64 rfl rfl rfl (by omega) (by omega)) ?_
        refine D_rd rfl (.plain rfl) (r_load ag3 rfl rfl (by repeat first | exact mH | apply mT | apply List.mem_append_right) rfl) ?_
        refine D_p rfl (.plain rfl) (p_move rfl rfl) ?_
        first | refine D_p rfl (.plain rfl) (p_add' rfl rfl rfl (by unfold InI; omega)) ?_ | refine D_p rfl (.plain rfl) (p_add rfl rfl rfl) ?_
        refine D_p rfl (.plain rfl) (p_fieldo fo59_0 rfl rfl) ?_
        refine D_p rfl (.plain rfl) (p_idxao ar57 rfl rfl rfl (by omega) (by omega)) ?_
        refine D_rd rfl (.plain rfl) (r_load ag42 rfl rfl (by repeat first | exact mH | apply mT | apply List.mem_append_right) rfl) ?_
        refine D_p rfl (.plain rfl) (p_convI un42 un3 rfl rfl (by have := hq 5 (by decide); unfold InI; omega)) ?_
        refine D_p rfl (.plain rfl) (p_sub' rfl rfl rfl (by show InI (spotV t p 2 u - q 5); have := hq 5 (by decide); have := spotP_bnd hsm (u := u) 2 (by decide); have := spotV_bnd (p := p) hG (u := u) 2; unfold InI; omega)) ?_
        refine D_p rfl (.plain rfl) (p_move rfl rfl) ?_
        refine D_p rfl (.plain rfl) (p_idxao ar64 rfl rfl rfl (by omega) (by omega)) ?_
        refine D_rd rfl (.plain rfl) (r_load ag3 rfl rfl (by repeat first | exact mH | apply mT | apply List.mem_append_right) rfl) ?_
        refine D_p rfl (.plain rfl) (p_move rfl rfl) ?_
        first | refine D_p rfl (.plain rfl) (p_add' rfl rfl rfl (by unfold InI; omega)) ?_ | refine D_p rfl (.plain rfl) (p_add rfl rfl rfl) ?_
        refine D_p rfl (.plain rfl) (p_fieldo fo59_1 rfl rfl) ?_
        refine D_p rfl (.plain rfl) (p_idxao ar57 rfl rfl rfl (by omega) (by omega)) ?_
        refine D_rd rfl (.plain rfl) (r_load ag42 rfl rfl (by repeat first | exact mH | apply mT | apply List.mem_append_right) rfl) ?_
        refine D_p rfl (.plain rfl) (p_convI un42 un3 rfl rfl (by have := hq 11 (by decide); unfold InI; omega)) ?_
        refine D_p rfl (.plain rfl) (p_add' rfl rfl rfl (by show InI (spotV t p 2 u + q 11); have := hq 11 (by decide); have := spotP_bnd hsm (u := u) 2 (by decide); have := spotV_bnd (p := p) hG (u := u) 2; unfold InI; omega)) ?_
        refine D_wr (.go (E' := [(19, _), (14, _), (9, _), (4, _)]) rfl (.plain rfl) (w_callP rfl rfl rfl (fun w hg => lspan_c _ _ w)) rfl ?_)
        rintro _ _ ⟨rfl, rfl⟩
        refine ⟨(.cons rfl (.plain rfl) (r_load ag42 rfl rfl (by repeat first | exact mH | apply mT | apply List.mem_append_right) rfl) (.cons rfl (.plain rfl) (r_load ag3 rfl rfl (by repeat first | exact mH | apply mT | apply List.mem_append_right) rfl) (.cons rfl (.plain rfl) (r_load ag42 rfl rfl (by repeat first | exact mH | apply mT | apply List.mem_append_right) rfl) (.cons rfl (.plain rfl) (r_load ag3 rfl rfl (by repeat first | exact mH | apply mT | apply List.mem_append_right) rfl) .nil)))), ?_⟩
        refine D_p rfl (.plain rfl) (p_idxao ar67 rfl rfl rfl (by omega) (by omega)) ?_
        refine D_wr (.go (E' := []) rfl (.plain rfl) (w_store (cs' := [_, _, _, _, _, _, _, _, _, _, _, _]) sz32 rfl rfl rfl rfl rfl (by repeat first | exact .head | apply SetAt.tail) (Nat.le_of_ble_eq_true rfl) rfl) rfl ?_)
        rintro _ _ ⟨rfl, rfl⟩
        refine ⟨.nil, ?_⟩
        refine D_keep (.cons (k := 5) rfl (.cons (k := 7) rfl (.cons (k := 8) rfl (.cons (k := 10) rfl (.cons (k := 11) rfl (.cons (k := 12) rfl (.cons (k := 13) rfl .nil))))))) (blk_n (then_n ?_))
        refine V_region rfl ?_
        refine L_go rfl (X_p (p_move rfl rfl) ?_)
        first | refine L_go rfl (X_p (p_add' rfl rfl rfl (by unfold InI; omega)) ?_) | refine L_go rfl (X_p (p_add rfl rfl rfl) ?_)
        refine L_go rfl (X_p (p_assign rfl rfl) ?_)
        refine L_keep (.cons (k := 5) rfl (.cons (k := 7) rfl (.cons (k := 8) rfl (.cons (k := 10) rfl (.cons (k := 11) rfl (.cons (k := 12) rfl (.cons (k := 13) rfl .nil))))))) (then_n ?_)
        refine LU_step ?_
        refine V_seq ?_
        refine V_seq (V_region rfl ?_)
        refine L_go rfl (X_p (p_move rfl rfl) ?_)
        refine L_go rfl (X_p (p_lss rfl rfl rfl) ?_)
        refine L_then (.cons (k := 5) rfl (.cons (k := 7) rfl (.cons (k := 8) rfl (.cons (k := 10) rfl (.cons (k := 11) rfl (.cons (k := 12) rfl (.cons (k := 13) rfl (.cons (k := 52) rfl .nil)))))))) ?_
        refine V_cond_f rfl rfl ?_
        refine V_exit (then_e (then_e (blk_e rfl (then_n ?_))))
        refine V_seq (V_region rfl ?_)
        refine L_go rfl (X_p (p_fieldo fo59_2 rfl rfl) ?_)
        refine L_go rfl (X_rd (r_load ag3 rfl rfl (by repeat first | exact mH | apply mT | apply List.mem_append_right) rfl) ?_)
        refine L_go rfl (X_p (p_idxao ar67 rfl rfl rfl (by omega) (by omega)) ?_)
        refine L_go rfl (X_rd (r_loadA (vs := [_, _]) ag32 sz32 rfl rfl (by repeat first | exact mH | apply mT | apply List.mem_append_right) rfl) ?_)
        refine L_go rfl (X_p (p_idxao ar67 rfl rfl rfl (by omega) (by omega)) ?_)
        refine L_go rfl (X_rd (r_loadA (vs := [_, _]) ag32 sz32 rfl rfl (by repeat first | exact mH | apply mT | apply List.mem_append_right) rfl) ?_)
        refine L_go rfl (X_p (p_idxao ar67 rfl rfl rfl (by omega) (by omega)) ?_)
        refine L_go rfl (X_rd (r_loadA (vs := [_, _]) ag32 sz32 rfl rfl (by repeat first | exact mH | apply mT | apply List.mem_append_right) rfl) ?_)
        refine L_go rfl (X_p (p_idxao ar67 rfl rfl rfl (by omega) (by omega)) ?_)
        refine L_go rfl (X_rd (r_loadA (vs := [_, _]) ag32 sz32 rfl rfl (by repeat first | exact mH | apply mT | apply List.mem_append_right) rfl) ?_)
        refine L_go rfl (X_p (p_idxao ar67 rfl rfl rfl (by omega) (by omega)) ?_)
        refine L_go rfl (X_rd (r_loadA (vs := [_, _]) ag32 sz32 rfl rfl (by repeat first | exact mH | apply mT | apply List.mem_append_right) rfl) ?_)
        refine L_go rfl (X_p (p_idxao ar67 rfl rfl rfl (by omega) (by omega)) ?_)
        refine L_go rfl (X_rd (r_loadA (vs := [_, _]) ag32 sz32 rfl rfl (by repeat first | exact mH | apply mT | apply List.mem_append_right) rfl) ?_)
        refine L_go rfl (X_p (p_build (r := [_, _, _, _, _, _, _, _, _, _, _, _, _]) pl34 zr34 rfl rfl rfl) ?_)
        refine L_go rfl (X_wr (w_alloc zr34 rfl) ?_)
        rintro _ _ ⟨b9, hb9, rfl, rfl⟩
        refine L_go rfl (X_wr (w_store (cs' := [_, _, _, _, _, _, _, _, _, _, _, _, _]) sz34 rfl rfl rfl rfl rfl (by repeat first | exact .head | apply SetAt.tail) (Nat.le_of_ble_eq_true rfl) rfl) ?_)
        rintro _ _ ⟨rfl, rfl⟩
        refine L_then (.cons (k := 5) rfl (.cons (k := 7) rfl (.cons (k := 8) rfl (.cons (k := 10) rfl (.cons (k := 11) rfl (.cons (k := 14) rfl .nil)))))) ?_
        refine V_seq ?_
        refine V_seq (V_region rfl ?_)
        refine L_go rfl (X_rd (r_loadA (vs := [_, _, _, _, _, _, _, _, _, _, _, _, _]) ag34 sz34 rfl rfl (by repeat first | exact mH | apply mT | apply List.mem_append_right) rfl) ?_)
        refine L_go rfl (X_wr (w_callP rfl rfl rfl (fun w hg => checkbox_c (onB t p q u) w)) ?_)
        rintro _ _ ⟨rfl, rfl⟩
        refine L_go rfl (X_p (p_neq rfl rfl rfl) ?_)
        refine L_then (.cons (k := 5) rfl (.cons (k := 7) rfl (.cons (k := 8) rfl (.cons (k := 10) rfl (.cons (k := 11) rfl (.cons (k := 14) rfl (.cons (k := 117) rfl .nil))))))) ?_
        refine V_cond rfl ?_ ?_
        · intro c3; have c3r := c3; try simp only [td] at c3
          refine V_seq (V_region rfl ?_)
          refine L_go rfl (X_wr (w_callP rfl rfl rfl (fun w hg => awake_c w)) ?_)
          rintro _ _ ⟨rfl, rfl⟩
          refine L_go rfl (X_p (p_assign rfl rfl) ?_)
          refine L_then (.cons (k := 6) rfl .nil) ?_
          refine V_ret (then_r ?_)
          refine Leave.nil (.tmp rfl .nil) ?_
          show Value.bool _ = _
          first | rfl | simp
        · intro c3; have c3r := c3; try simp only [td] at c3
          have hbo : BoxOk (onB t p q u) := boxE_ok c3
          have hN : 0 ≤ (n0.tmod 100) ∧ (n0.tmod 100) ≤ 99 := tmod100 hn0
          have hM : 0 ≤ (m0.tmod 100) ∧ (m0.tmod 100) ≤ 99 := tmod100 hm0
          refine V_skip (then_n ?_)
          refine V_seq (V_draw (.rd 0 (.rd 1 (.rd 2 (.rd 3 (.rd 4 (.rd 5 (.rd 6 (.rd 7 (.rd 8 (.rd 9 .done)))))))))) mixed (by kernel_rfl) rfl ?_)
          refine D_p rfl (.plain rfl) (p_fieldo fo59_3 rfl rfl) ?_
          refine D_rd rfl (.plain rfl) (r_load ag5 rfl rfl (by repeat first | exact mH | apply mT | apply List.mem_append_right) rfl) ?_
          refine D_p rfl (.plain rfl) (p_convI un5 un3 rfl rfl (by unfold InI; omega)) ?_
          refine D_p rfl (.plain rfl) (p_rem rfl rfl rfl (by first | decide | omega)) ?_
          refine D_p rfl (.plain rfl) (p_fieldo fo59_4 rfl rfl) ?_
          refine D_rd rfl (.plain rfl) (r_load ag5 rfl rfl (by repeat first | exact mH | apply mT | apply List.mem_append_right) rfl) ?_
          refine D_p rfl (.plain rfl) (p_convI un5 un3 rfl rfl (by unfold InI; omega)) ?_
          refine D_p rfl (.plain rfl) (p_rem rfl rfl rfl (by first | decide | omega)) ?_
          refine D_p rfl (.plain rfl) (p_assign rfl rfl) ?_
          refine D_p rfl (.plain rfl) (p_assign rfl rfl) ?_
          refine D_then (.cons (k := 5) rfl (.cons (k := 7) rfl (.cons (k := 8) rfl (.cons (k := 10) rfl (.cons (k := 11) rfl (.cons (k := 14) rfl (.cons (k := 15) rfl (.cons (k := 16) rfl .nil)))))))) ?_
          refine V_seq (V_region rfl ?_)
          refine L_go rfl (X_rd (r_loadA (vs := [_, _, _, _, _]) ag25 sz25 rfl rfl (by repeat first | exact mH | apply mT | apply List.mem_append_right) rfl) ?_)
          refine L_go rfl (X_p (p_move rfl rfl) ?_)
          refine L_go rfl (X_p (p_fieldo fo59_2 rfl rfl) ?_)
          refine L_go rfl (X_rd (r_load ag3 rfl rfl (by repeat first | exact mH | apply mT | apply List.mem_append_right) rfl) ?_)
          refine L_go rfl (X_p (p_move rfl rfl) ?_)
          first | refine L_go rfl (X_p (p_add' rfl rfl rfl (by unfold InI; omega)) ?_) | refine L_go rfl (X_p (p_add rfl rfl rfl) ?_)
          refine L_go rfl (X_wr (w_callP rfl rfl rfl (fun w hg => spot_c t p _ _ _ _ ra1 rc1 (u + (n0.tmod 100)) hf (by omega) hsm w (Grow.rows (els := rowsP t p 602) hgR rowsP_3 rowsP_len.symm (fun p hp => hg.own p (by repeat first | exact hp | exact List.mem_append_left _ hp | apply List.mem_append_right | apply mT))))) ?_)
          rintro _ _ ⟨rfl, rfl⟩
          refine L_go rfl (X_p (p_move rfl rfl) ?_)
          refine L_go rfl (X_p (p_ext rfl rfl rfl) ?_)
          refine L_go rfl (X_p (p_ext rfl rfl rfl) ?_)
          refine L_go rfl (X_p (p_ext rfl rfl rfl) ?_)
          refine L_go rfl (X_wr (w_store (cs' := [_, _, _]) sz64 rfl rfl rfl rfl rfl (by repeat first | exact .head | apply SetAt.tail) (Nat.le_of_ble_eq_true rfl) rfl) ?_)
          rintro _ _ ⟨rfl, rfl⟩
          refine L_go rfl (X_wr (w_store (cs' := [_, _, _]) sz64 rfl rfl rfl rfl rfl (by repeat first | exact .head | apply SetAt.tail) (Nat.le_of_ble_eq_true rfl) rfl) ?_)
          rintro _ _ ⟨rfl, rfl⟩
          refine L_go rfl (X_p (p_assign rfl rfl) ?_)
          refine L_then (.cons (k := 5) rfl (.cons (k := 7) rfl (.cons (k := 9) rfl (.cons (k := 10) rfl (.cons (k := 11) rfl (.cons (k := 14) rfl (.cons (k := 15) rfl (.cons (k := 16) rfl .nil)))))))) ?_
          refine V_seq (V_region rfl ?_)
          refine L_go rfl (X_rd (r_loadA (vs := [_, _, _, _, _]) ag25 sz25 rfl rfl (by repeat first | exact mH | apply mT | apply List.mem_append_right) rfl) ?_)
          refine L_go rfl (X_rd (r_loadA (vs := [_, _, _, _, _, _, _, _, _, _, _, _, _]) ag34 sz34 rfl rfl (by repeat first | exact mH | apply mT | apply List.mem_append_right) rfl) ?_)
          refine L_go rfl (X_p (p_move rfl rfl) ?_)
          refine L_go rfl (X_wr (w_callP rfl rfl rfl (fun w hg => ahead_c (onB t p q u) (tellT t p (-1)) _ _ (n0.tmod 100) w (TaskR.withPlots (t := t) (hT.good hg) (Grow.rows (els := (tellT t p (-1)).plots.map Plot.cells) hgP pl_len (by rw [List.length_map]; exact (tellL_len _).symm) (fun p hp => hg.own p (by repeat first | exact hp | exact List.mem_append_left _ hp | apply List.mem_append_right | apply mT))) (by show ((tellL t p (-1) t.plots.length).length : Int) ≤ _; rw [tellL_len]; omega)))) ?_)
          rintro _ _ ⟨rfl, rfl⟩
          refine L_go rfl (X_p (p_move rfl rfl) ?_)
          refine L_go rfl (X_p (p_ext rfl rfl rfl) ?_)
          refine L_go rfl (X_p (p_ext rfl rfl rfl) ?_)
          refine L_go rfl (X_wr (w_alloc zr34 rfl) ?_)
          rintro _ _ ⟨b10, hb10, rfl, rfl⟩
          refine L_go rfl (X_wr (w_store (cs' := [_, _, _, _, _, _, _, _, _, _, _, _, _]) sz34 rfl rfl rfl rfl rfl (by repeat first | exact .head | apply SetAt.tail) (Nat.le_of_ble_eq_true rfl) rfl) ?_)
          rintro _ _ ⟨rfl, rfl⟩
          refine L_go rfl (X_p (p_assign rfl rfl) ?_)
          refine L_then (.cons (k := 5) rfl (.cons (k := 7) rfl (.cons (k := 9) rfl (.cons (k := 10) rfl (.cons (k := 11) rfl (.cons (k := 14) rfl (.cons (k := 15) rfl (.cons (k := 16) rfl (.cons (k := 17) rfl (.cons (k := 18) rfl .nil)))))))))) ?_
          refine V_seq ?_
          refine V_seq (V_region rfl ?_)
          refine L_go rfl (X_p (p_fieldo fo59_2 rfl rfl) ?_)
          refine L_go rfl (X_rd (r_load ag3 rfl rfl (by repeat first | exact mH | apply mT | apply List.mem_append_right) rfl) ?_)
          refine L_go rfl (X_p (p_move rfl rfl) ?_)
          first | refine L_go rfl (X_p (p_add' rfl rfl rfl (by unfold InI; omega)) ?_) | refine L_go rfl (X_p (p_add rfl rfl rfl) ?_)
          refine L_go rfl (X_p (p_move rfl rfl) ?_)
          first | refine L_go rfl (X_p (p_add' rfl rfl rfl (by unfold InI; omega)) ?_) | refine L_go rfl (X_p (p_add rfl rfl rfl) ?_)
          refine L_go rfl (X_p (p_gtr rfl rfl rfl) ?_)
          refine L_then (.cons (k := 5) rfl (.cons (k := 7) rfl (.cons (k := 9) rfl (.cons (k := 10) rfl (.cons (k := 11) rfl (.cons (k := 14) rfl (.cons (k := 15) rfl (.cons (k := 16) rfl (.cons (k := 17) rfl (.cons (k := 18) rfl (.cons (k := 151) rfl .nil))))))))))) ?_
          refine V_cond rfl ?_ ?_
          · intro c4; have c4r := c4; try simp only [td] at c4
            refine V_seq (V_region rfl ?_)
            refine L_go rfl (X_wr (w_callP rfl rfl rfl (fun w hg => awake_c w)) ?_)
            rintro _ _ ⟨rfl, rfl⟩
            refine L_go rfl (X_p (p_assign rfl rfl) ?_)
            refine L_then (.cons (k := 6) rfl .nil) ?_
            refine V_ret (then_r ?_)
            refine Leave.nil (.tmp rfl .nil) ?_
            show Value.bool _ = _
            first | rfl | simp
          · intro c4; have c4r := c4; try simp only [td] at c4
            have hlaw := on_law (n := (n0.tmod 100)) (m := (m0.tmod 100)) hG hG' hpr.ok hsm hbo (by omega) (by omega) (by show u + (n0.tmod 100) + (m0.tmod 100) ≤ 100000; omega) hso (onB_has hq)
            refine V_skip (then_n ?_)
            refine V_seq ?_
            refine V_seq (V_region rfl ?_)
            refine L_go rfl (X_p (p_move rfl rfl) ?_)
            refine L_go rfl (X_p (p_move rfl rfl) ?_)
            refine L_cases (d := 154) rfl ?_ ?_
            · intro g2; have g2' := g2; try simp only [td] at g2'
              refine L_yes rfl rfl rfl g2 (X_p (p_move rfl rfl) ?_)
              refine L_yes rfl rfl rfl g2 (X_p (p_neq rfl rfl rfl) ?_)
              refine L_yes rfl rfl rfl g2 (X_p (p_move rfl rfl) ?_)
              refine L_yes rfl rfl rfl (by rw [(hlaw.1 g2').1]; rfl) (X_p (p_fieldo fo34_0 rfl rfl) ?_)
              refine L_yes rfl rfl rfl (by rw [(hlaw.1 g2').1]; rfl) (X_rd (r_load ag3 rfl rfl (by repeat first | exact mH | apply mT | apply List.mem_append_right) rfl) ?_)
              refine L_yes rfl rfl rfl (by rw [(hlaw.1 g2').1]; rfl) (X_p (p_fieldo fo59_2 rfl rfl) ?_)
              refine L_yes rfl rfl rfl (by rw [(hlaw.1 g2').1]; rfl) (X_rd (r_load ag3 rfl rfl (by repeat first | exact mH | apply mT | apply List.mem_append_right) rfl) ?_)
              refine L_yes rfl rfl rfl (by rw [(hlaw.1 g2').1]; rfl) (X_p (p_move rfl rfl) ?_)
              first | refine L_yes rfl rfl rfl (by rw [(hlaw.1 g2').1]; rfl) (X_p (p_add' rfl rfl rfl (by unfold InI; omega)) ?_) | refine L_yes rfl rfl rfl (by rw [(hlaw.1 g2').1]; rfl) (X_p (p_add rfl rfl rfl) ?_)
              refine L_yes rfl rfl rfl (by rw [(hlaw.1 g2').1]; rfl) (X_p (p_neq rfl rfl rfl) ?_)
              refine L_yes rfl rfl rfl g2 (X_p (p_pick_f rfl rfl (by rw [(hlaw.1 g2').1]; rfl) rfl) ?_)
              refine L_yes rfl rfl rfl g2 (X_p (p_move rfl rfl) ?_)
              refine L_yes rfl rfl rfl (decide_eq_false (fun hh => hh (hlaw.1 g2').2.1)) (X_rd (r_loadA (vs := [_, _, _, _, _, _, _, _, _, _, _, _, _]) ag34 sz34 rfl rfl (by repeat first | exact mH | apply mT | apply List.mem_append_right) rfl) ?_)
              refine L_yes rfl rfl rfl (decide_eq_false (fun hh => hh (hlaw.1 g2').2.1)) (X_rd (r_loadA (vs := [_, _, _]) ag64 sz64 rfl rfl (by repeat first | exact mH | apply mT | apply List.mem_append_right) rfl) ?_)
              refine L_yes rfl rfl rfl (decide_eq_false (fun hh => hh (hlaw.1 g2').2.1)) (X_rd (r_loadA (vs := [_, _, _]) ag64 sz64 rfl rfl (by repeat first | exact mH | apply mT | apply List.mem_append_right) rfl) ?_)
              refine L_yes rfl rfl rfl (decide_eq_false (fun hh => hh (hlaw.1 g2').2.1)) (X_wr (w_callP rfl rfl rfl (fun w hg => has_c (aheadP (tellT t p (-1)) (onB t p q u) (n0.tmod 100)).1 (fun k => spotP t p k (u + (n0.tmod 100))) (fun k => spotV t p k (u + (n0.tmod 100))) (hlaw.1 g2').2.2 w)) ?_)
              rintro _ _ ⟨rfl, rfl⟩
              refine L_yes rfl rfl rfl (decide_eq_false (fun hh => hh (hlaw.1 g2').2.1)) (X_p (p_not rfl rfl) ?_)
              refine L_yes rfl rfl rfl g2 (X_p (p_pick_f rfl rfl (decide_eq_false (fun hh => hh (hlaw.1 g2').2.1)) rfl) ?_)
              refine L_go rfl (X_p (p_pick_t rfl rfl g2 rfl) ?_)
              refine L_then (.cons (k := 7) rfl (.cons (k := 14) rfl (.cons (k := 15) rfl (.cons (k := 16) rfl (.cons (k := 17) rfl (.cons (k := 18) rfl (.cons (k := 173) rfl .nil))))))) ?_
              refine V_cond_f rfl rfl ?_
              refine V_skip (then_n ?_)
              refine V_seq ?_
              refine V_seq (V_region rfl ?_)
              refine L_go rfl (X_p (p_move rfl rfl) ?_)
              refine L_go rfl (X_p (p_neq rfl rfl rfl) ?_)
              refine L_then (.cons (k := 7) rfl (.cons (k := 14) rfl (.cons (k := 15) rfl (.cons (k := 16) rfl (.cons (k := 17) rfl (.cons (k := 175) rfl .nil)))))) ?_
              refine V_cond rfl ?_ ?_
              · intro c5; have c5r := c5; try simp only [td] at c5
                refine V_seq (V_region rfl ?_)
                refine L_go rfl (X_wr (w_callP rfl rfl rfl (fun w hg => awake_c w)) ?_)
                rintro _ _ ⟨rfl, rfl⟩
                refine L_go rfl (X_p (p_assign rfl rfl) ?_)
                refine L_then (.cons (k := 6) rfl .nil) ?_
                refine V_ret (then_r ?_)
                refine Leave.nil (.tmp rfl .nil) ?_
                show Value.bool _ = _
                first | rfl | simp
              · intro c5; have c5r := c5; try simp only [td] at c5
                have hcomp := hlaw.2 c5
                refine V_skip (then_n ?_)
                refine V_seq (V_region rfl ?_)
                refine L_go rfl (X_rd (r_loadA (vs := [_, _, _, _, _]) ag25 sz25 rfl rfl (by repeat first | exact mH | apply mT | apply List.mem_append_right) rfl) ?_)
                refine L_go rfl (X_rd (r_loadA (vs := [_, _, _, _, _, _, _, _, _, _, _, _, _]) ag34 sz34 rfl rfl (by repeat first | exact mH | apply mT | apply List.mem_append_right) rfl) ?_)
                refine L_go rfl (X_p (p_move rfl rfl) ?_)
                refine L_go rfl (X_wr (w_callP rfl rfl rfl (fun w hg => ahead_c ((aheadP (tellT t p (-1)) (onB t p q u) (n0.tmod 100)).1) (tellT t p (-1)) _ _ (m0.tmod 100) w (TaskR.withPlots (t := t) (hT.good hg) (Grow.rows (els := (tellT t p (-1)).plots.map Plot.cells) hgP pl_len (by rw [List.length_map]; exact (tellL_len _).symm) (fun p hp => hg.own p (by repeat first | exact hp | exact List.mem_append_left _ hp | apply List.mem_append_right | apply mT))) (by show ((tellL t p (-1) t.plots.length).length : Int) ≤ _; rw [tellL_len]; omega)))) ?_)
                rintro _ _ ⟨rfl, rfl⟩
                refine L_go rfl (X_p (p_move rfl rfl) ?_)
                refine L_go rfl (X_p (p_ext rfl rfl rfl) ?_)
                refine L_go rfl (X_p (p_ext rfl rfl rfl) ?_)
                refine L_go rfl (X_wr (w_alloc zr34 rfl) ?_)
                rintro _ _ ⟨b11, hb11, rfl, rfl⟩
                refine L_go rfl (X_wr (w_store (cs' := [_, _, _, _, _, _, _, _, _, _, _, _, _]) sz34 rfl rfl rfl rfl rfl (by repeat first | exact .head | apply SetAt.tail) (Nat.le_of_ble_eq_true rfl) rfl) ?_)
                rintro _ _ ⟨rfl, rfl⟩
                refine L_go rfl (X_p (p_assign rfl rfl) ?_)
                refine L_then (.cons (k := 7) rfl (.cons (k := 14) rfl (.cons (k := 15) rfl (.cons (k := 16) rfl (.cons (k := 19) rfl (.cons (k := 20) rfl .nil)))))) ?_
                refine V_seq (V_region rfl ?_)
                refine L_go rfl (X_rd (r_loadA (vs := [_, _, _, _, _]) ag25 sz25 rfl rfl (by repeat first | exact mH | apply mT | apply List.mem_append_right) rfl) ?_)
                refine L_go rfl (X_rd (r_loadA (vs := [_, _, _, _, _, _, _, _, _, _, _, _, _]) ag34 sz34 rfl rfl (by repeat first | exact mH | apply mT | apply List.mem_append_right) rfl) ?_)
                refine L_go rfl (X_p (p_move rfl rfl) ?_)
                refine L_go rfl (X_p (p_move rfl rfl) ?_)
                first | refine L_go rfl (X_p (p_add' rfl rfl rfl (by unfold InI; omega)) ?_) | refine L_go rfl (X_p (p_add rfl rfl rfl) ?_)
                refine L_go rfl (X_wr (w_callP rfl rfl rfl (fun w hg => ahead_c (onB t p q u) (tellT t p (-1)) _ _ ((n0.tmod 100) + (m0.tmod 100)) w (TaskR.withPlots (t := t) (hT.good hg) (Grow.rows (els := (tellT t p (-1)).plots.map Plot.cells) hgP pl_len (by rw [List.length_map]; exact (tellL_len _).symm) (fun p hp => hg.own p (by repeat first | exact hp | exact List.mem_append_left _ hp | apply List.mem_append_right | apply mT))) (by show ((tellL t p (-1) t.plots.length).length : Int) ≤ _; rw [tellL_len]; omega)))) ?_)
                rintro _ _ ⟨rfl, rfl⟩
                refine L_go rfl (X_p (p_move rfl rfl) ?_)
                refine L_go rfl (X_p (p_ext rfl rfl rfl) ?_)
                refine L_go rfl (X_p (p_ext rfl rfl rfl) ?_)
                refine L_go rfl (X_wr (w_alloc zr34 rfl) ?_)
                rintro _ _ ⟨b12, hb12, rfl, rfl⟩
                refine L_go rfl (X_wr (w_store (cs' := [_, _, _, _, _, _, _, _, _, _, _, _, _]) sz34 rfl rfl rfl rfl rfl (by repeat first | exact .head | apply SetAt.tail) (Nat.le_of_ble_eq_true rfl) rfl) ?_)
                rintro _ _ ⟨rfl, rfl⟩
                refine L_go rfl (X_p (p_assign rfl rfl) ?_)
                refine L_then (.cons (k := 19) rfl (.cons (k := 20) rfl (.cons (k := 21) rfl (.cons (k := 22) rfl .nil)))) ?_
                refine V_seq (V_region rfl ?_)
                refine L_go rfl (X_p (p_move rfl rfl) ?_)
                refine L_go rfl (X_p (p_move rfl rfl) ?_)
                refine L_go rfl (X_p (p_eql rfl rfl rfl) ?_)
                refine L_go rfl (X_p (p_move rfl rfl) ?_)
                refine L_yes rfl rfl rfl (by rw [hcomp]; simp) (X_rd (r_loadA (vs := [_, _, _, _, _, _, _, _, _, _, _, _, _]) ag34 sz34 rfl rfl (by repeat first | exact mH | apply mT | apply List.mem_append_right) rfl) ?_)
                refine L_yes rfl rfl rfl (by rw [hcomp]; simp) (X_rd (r_loadA (vs := [_, _, _, _, _, _, _, _, _, _, _, _, _]) ag34 sz34 rfl rfl (by repeat first | exact mH | apply mT | apply List.mem_append_right) rfl) ?_)
                refine L_yes rfl rfl rfl (by rw [hcomp]; simp) (X_p (p_eqS lv34 ag34 eg34 rfl rfl rfl rfl rfl) ?_)
                refine L_go rfl (X_p (p_pick_t rfl rfl (by rw [hcomp]; simp) rfl) ?_)
                refine L_go rfl (X_p (p_move rfl rfl) ?_)
                refine L_yes rfl rfl rfl (by rw [hcomp]; simp [eqL, eqv, Box.cells]) (X_wr (w_callP rfl rfl rfl (fun w hg => awake_c w)) ?_)
                rintro _ _ ⟨rfl, rfl⟩
                refine L_go rfl (X_p (p_pick_t rfl rfl (by rw [hcomp]; simp [eqL, eqv, Box.cells]) rfl) ?_)
                refine L_go rfl (X_p (p_assign rfl rfl) ?_)
                refine L_then (.cons (k := 6) rfl .nil) ?_
                refine V_ret ?_
                refine Leave.nil (.tmp rfl .nil) ?_
                show Value.bool _ = _
                first | rfl | simp
            · intro g2; have g2' := g2; try simp only [td] at g2'
              refine L_no rfl rfl rfl g2 ?_
              refine L_no rfl rfl rfl g2 ?_
              refine L_no rfl rfl rfl g2 ?_
              refine L_nou rfl rfl rfl ?_
              refine L_nou rfl rfl rfl ?_
              refine L_nou rfl rfl rfl ?_
              refine L_nou rfl rfl rfl ?_
              refine L_nou rfl rfl rfl ?_
              refine L_nou rfl rfl rfl ?_
              refine L_nou rfl rfl rfl ?_
              refine L_no rfl rfl rfl g2 ?_
              refine L_no rfl rfl rfl g2 ?_
              refine L_nou rfl rfl rfl ?_
              refine L_nou rfl rfl rfl ?_
              refine L_nou rfl rfl rfl ?_
              refine L_nou rfl rfl rfl ?_
              refine L_nou rfl rfl rfl ?_
              refine L_no rfl rfl rfl g2 ?_
              refine L_go rfl (X_p (p_pick_f rfl rfl g2 rfl) ?_)
              refine L_then (.cons (k := 7) rfl (.cons (k := 14) rfl (.cons (k := 15) rfl (.cons (k := 16) rfl (.cons (k := 17) rfl (.cons (k := 18) rfl (.cons (k := 173) rfl .nil))))))) ?_
              refine V_cond_f rfl rfl ?_
              refine V_skip (then_n ?_)
              refine V_seq ?_
              refine V_seq (V_region rfl ?_)
              refine L_go rfl (X_p (p_move rfl rfl) ?_)
              refine L_go rfl (X_p (p_neq rfl rfl rfl) ?_)
              refine L_then (.cons (k := 7) rfl (.cons (k := 14) rfl (.cons (k := 15) rfl (.cons (k := 16) rfl (.cons (k := 17) rfl (.cons (k := 175) rfl .nil)))))) ?_
              refine V_cond rfl ?_ ?_
              · intro c6; have c6r := c6; try simp only [td] at c6
                refine V_seq (V_region rfl ?_)
                refine L_go rfl (X_wr (w_callP rfl rfl rfl (fun w hg => awake_c w)) ?_)
                rintro _ _ ⟨rfl, rfl⟩
                refine L_go rfl (X_p (p_assign rfl rfl) ?_)
                refine L_then (.cons (k := 6) rfl .nil) ?_
                refine V_ret (then_r ?_)
                refine Leave.nil (.tmp rfl .nil) ?_
                show Value.bool _ = _
                first | rfl | simp
              · intro c6; have c6r := c6; try simp only [td] at c6
                have hcomp := hlaw.2 c6
                refine V_skip (then_n ?_)
                refine V_seq (V_region rfl ?_)
                refine L_go rfl (X_rd (r_loadA (vs := [_, _, _, _, _]) ag25 sz25 rfl rfl (by repeat first | exact mH | apply mT | apply List.mem_append_right) rfl) ?_)
                refine L_go rfl (X_rd (r_loadA (vs := [_, _, _, _, _, _, _, _, _, _, _, _, _]) ag34 sz34 rfl rfl (by repeat first | exact mH | apply mT | apply List.mem_append_right) rfl) ?_)
                refine L_go rfl (X_p (p_move rfl rfl) ?_)
                refine L_go rfl (X_wr (w_callP rfl rfl rfl (fun w hg => ahead_c ((aheadP (tellT t p (-1)) (onB t p q u) (n0.tmod 100)).1) (tellT t p (-1)) _ _ (m0.tmod 100) w (TaskR.withPlots (t := t) (hT.good hg) (Grow.rows (els := (tellT t p (-1)).plots.map Plot.cells) hgP pl_len (by rw [List.length_map]; exact (tellL_len _).symm) (fun p hp => hg.own p (by repeat first | exact hp | exact List.mem_append_left _ hp | apply List.mem_append_right | apply mT))) (by show ((tellL t p (-1) t.plots.length).length : Int) ≤ _; rw [tellL_len]; omega)))) ?_)
                rintro _ _ ⟨rfl, rfl⟩
                refine L_go rfl (X_p (p_move rfl rfl) ?_)
                refine L_go rfl (X_p (p_ext rfl rfl rfl) ?_)
                refine L_go rfl (X_p (p_ext rfl rfl rfl) ?_)
                refine L_go rfl (X_wr (w_alloc zr34 rfl) ?_)
                rintro _ _ ⟨b11, hb11, rfl, rfl⟩
                refine L_go rfl (X_wr (w_store (cs' := [_, _, _, _, _, _, _, _, _, _, _, _, _]) sz34 rfl rfl rfl rfl rfl (by repeat first | exact .head | apply SetAt.tail) (Nat.le_of_ble_eq_true rfl) rfl) ?_)
                rintro _ _ ⟨rfl, rfl⟩
                refine L_go rfl (X_p (p_assign rfl rfl) ?_)
                refine L_then (.cons (k := 7) rfl (.cons (k := 14) rfl (.cons (k := 15) rfl (.cons (k := 16) rfl (.cons (k := 19) rfl (.cons (k := 20) rfl .nil)))))) ?_
                refine V_seq (V_region rfl ?_)
                refine L_go rfl (X_rd (r_loadA (vs := [_, _, _, _, _]) ag25 sz25 rfl rfl (by repeat first | exact mH | apply mT | apply List.mem_append_right) rfl) ?_)
                refine L_go rfl (X_rd (r_loadA (vs := [_, _, _, _, _, _, _, _, _, _, _, _, _]) ag34 sz34 rfl rfl (by repeat first | exact mH | apply mT | apply List.mem_append_right) rfl) ?_)
                refine L_go rfl (X_p (p_move rfl rfl) ?_)
                refine L_go rfl (X_p (p_move rfl rfl) ?_)
                first | refine L_go rfl (X_p (p_add' rfl rfl rfl (by unfold InI; omega)) ?_) | refine L_go rfl (X_p (p_add rfl rfl rfl) ?_)
                refine L_go rfl (X_wr (w_callP rfl rfl rfl (fun w hg => ahead_c (onB t p q u) (tellT t p (-1)) _ _ ((n0.tmod 100) + (m0.tmod 100)) w (TaskR.withPlots (t := t) (hT.good hg) (Grow.rows (els := (tellT t p (-1)).plots.map Plot.cells) hgP pl_len (by rw [List.length_map]; exact (tellL_len _).symm) (fun p hp => hg.own p (by repeat first | exact hp | exact List.mem_append_left _ hp | apply List.mem_append_right | apply mT))) (by show ((tellL t p (-1) t.plots.length).length : Int) ≤ _; rw [tellL_len]; omega)))) ?_)
                rintro _ _ ⟨rfl, rfl⟩
                refine L_go rfl (X_p (p_move rfl rfl) ?_)
                refine L_go rfl (X_p (p_ext rfl rfl rfl) ?_)
                refine L_go rfl (X_p (p_ext rfl rfl rfl) ?_)
                refine L_go rfl (X_wr (w_alloc zr34 rfl) ?_)
                rintro _ _ ⟨b12, hb12, rfl, rfl⟩
                refine L_go rfl (X_wr (w_store (cs' := [_, _, _, _, _, _, _, _, _, _, _, _, _]) sz34 rfl rfl rfl rfl rfl (by repeat first | exact .head | apply SetAt.tail) (Nat.le_of_ble_eq_true rfl) rfl) ?_)
                rintro _ _ ⟨rfl, rfl⟩
                refine L_go rfl (X_p (p_assign rfl rfl) ?_)
                refine L_then (.cons (k := 19) rfl (.cons (k := 20) rfl (.cons (k := 21) rfl (.cons (k := 22) rfl .nil)))) ?_
                refine V_seq (V_region rfl ?_)
                refine L_go rfl (X_p (p_move rfl rfl) ?_)
                refine L_go rfl (X_p (p_move rfl rfl) ?_)
                refine L_go rfl (X_p (p_eql rfl rfl rfl) ?_)
                refine L_go rfl (X_p (p_move rfl rfl) ?_)
                refine L_yes rfl rfl rfl (by rw [hcomp]; simp) (X_rd (r_loadA (vs := [_, _, _, _, _, _, _, _, _, _, _, _, _]) ag34 sz34 rfl rfl (by repeat first | exact mH | apply mT | apply List.mem_append_right) rfl) ?_)
                refine L_yes rfl rfl rfl (by rw [hcomp]; simp) (X_rd (r_loadA (vs := [_, _, _, _, _, _, _, _, _, _, _, _, _]) ag34 sz34 rfl rfl (by repeat first | exact mH | apply mT | apply List.mem_append_right) rfl) ?_)
                refine L_yes rfl rfl rfl (by rw [hcomp]; simp) (X_p (p_eqS lv34 ag34 eg34 rfl rfl rfl rfl rfl) ?_)
                refine L_go rfl (X_p (p_pick_t rfl rfl (by rw [hcomp]; simp) rfl) ?_)
                refine L_go rfl (X_p (p_move rfl rfl) ?_)
                refine L_yes rfl rfl rfl (by rw [hcomp]; simp [eqL, eqv, Box.cells]) (X_wr (w_callP rfl rfl rfl (fun w hg => awake_c w)) ?_)
                rintro _ _ ⟨rfl, rfl⟩
                refine L_go rfl (X_p (p_pick_t rfl rfl (by rw [hcomp]; simp [eqL, eqv, Box.cells]) rfl) ?_)
                refine L_go rfl (X_p (p_assign rfl rfl) ?_)
                refine L_then (.cons (k := 6) rfl .nil) ?_
                refine V_ret ?_
                refine Leave.nil (.tmp rfl .nil) ?_
                show Value.bool _ = _
                first | rfl | simp

theorem own_ : ownKnob Try.prog.godebug = none := by kernel_rfl

theorem trackOn_lifted (os : Os) (started : os.Started) (H : Type) (enc : TypeId × Value → H) :
    ReturnsInHanded {} Try.checked os 6 .any (Rows.trackOnSpec.pre6 enc Try.prog Try.f6 Rows.trackOnRow.domain false) (Rows.trackOnSpec.post enc Try.prog Try.f6 false true false false) := by
  refine returnsInHanded_of_change (C := Try.checked) own_ started (by kernel_rfl) Try.func6
    (ChangeSpec.witness6 (enc := enc) (C := Try.checked) false ⟨#[], #[.agg #[.int .i64 0, .int .i64 0, .int .i64 0, .slice none 0 0, .slice none 0 0], .agg #[.slice none 0 0, .slice none 0 0, .slice none 0 0, .slice none 0 0], .agg #[.int .u16 0, .int .u16 0, .int .u16 0, .int .u16 0, .int .u16 0, .int .u16 0, .int .u16 0, .int .u16 0, .int .u16 0, .int .u16 0, .int .u16 0, .int .u16 0, .int .i64 0, .int .u8 0, .int .u8 0]], []⟩ 8 (by kernel_rfl) (by kernel_rfl) (by kernel_rfl) (by kernel_rfl)) ?_
  intro W base args ds gs before hval0 hW hcnd _
  have hval : ∀ (j : Nat) t v, Try.f6.params[j]? = some t → args[j]? = some v → Value.okWide Try.prog W .any base t v := hval0
  have hW' := hW
  obtain ⟨pA, pB, hA0, hV, rfl, _, _⟩ := hW
  have hA : DataW.TrodAll enc Try.prog W 0 (fun _ => true) true Try.f6.params.toList args.toList ds pA := hA0
  clear hA0 hval0
  rw [Try.params6] at hA hval
  obtain ⟨rfl, rfl⟩ := trodVars_none hV
  obtain ⟨v0, vs0, d0, ds0, p0, q0, ea0, rfl, rfl, h0, hA0⟩ := trodAll_cons hA
  obtain ⟨v1, vs1, d1, ds1, p1, q1, ea1, rfl, rfl, h1, hA1⟩ := trodAll_cons hA0
  obtain ⟨v2, vs2, d2, ds2, p2, q2, ea2, rfl, rfl, h2, hA2⟩ := trodAll_cons hA1
  obtain ⟨rfl, rfl, rfl⟩ := trodAll_nil hA2
  subst ea2
  subst ea1
  have ea : args = #[v0, v1, v2] := Array.toList_inj.1 ea0
  subst ea
  have k0 := hval 0 _ v0 rfl rfl
  have k1 := hval 1 _ v1 rfl rfl
  have k2 := hval 2 _ v2 rfl rfl
  obtain ⟨T, tv, pv, rfl, hT⟩ := open_task (P := Try.prog) (by kernel_rfl) k0 h0
  obtain ⟨p, hpr⟩ := open_path (P := Try.prog) (by kernel_rfl) k1 h1
  obtain ⟨q, u, n0, m0, rfl, hq, hn0, hm0, _⟩ := open_spread (P := Try.prog) (by kernel_rfl) k2 h2
  refine (calls_of (trackOn_c p _ W hpr T tv pv hT q hq u n0 m0 hn0 hm0)).mono ?_
  rintro _ W' ⟨_, rfl, rfl, hE⟩
  exact ⟨_, rfl, post_true hW' rfl hE (by kernel_rfl) (by kernel_rfl) rfl rfl rfl (by kernel_rfl) Try.underlying4⟩

theorem trackOn_holds : Rows.TrackOnSaid :=
  OpenClaim.holds_of_wide 6 Try.f6 rfl rfl rfl rfl rfl rfl rfl ⟨rfl, rfl, rfl, rfl, rfl⟩ rfl rfl rfl rfl rfl (by kernel_rfl) Try.func6 (by kernel_rfl)
    (of_decide_eq_true (by kernel_rfl)) (by unfold Func.isWrapper; first | (rw [if_pos (by decide +kernel)]; kernel_rfl) | (rw [if_neg (by decide +kernel)]; exact ⟨rfl, rfl⟩))
    (fun os started H enc _ => trackOn_lifted os started H enc)
#print axioms trackOn_holds

end Go.Proofs.Ytclbbchehjapjab
