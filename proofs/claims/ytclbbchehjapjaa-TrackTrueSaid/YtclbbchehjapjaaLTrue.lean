/- Ytclbbchehjapjaa: TrackTrue is proved: for any task, path, tick, and tick of what is known (no condition) it returns true. -/
import Derived.Test.YtclbbchehjapjaaRows
import Derived.Test.YtclbbchehjapjaaT12
import Derived.Test.YtclbbchehjapjaaT14
import Derived.Test.YtclbbchehjapjaaT23
import Derived.Test.YtclbbchehjapjaaPc
import Derived.Test.YtclbbchehjapjaaSd
import Derived.Test.YtclbbchehjapjaaS
import Derived.ProofKit
set_option linter.all false
namespace Go.Proofs.Ytclbbchehjapjaa
open Go.Vc Go.Tk Go.ChangeShapes Go.WideShapes Go.ChangeAt Go.RowKit
set_option maxRecDepth 100000
set_option maxHeartbeats 16000000 in
theorem trackTrue_c (p : PathM) (pv : Value) (w : World) (hpr : PathR w pv p) (t : Task) (tv pv2 : Value) (ht : TaskR w (.agg #[.int .i64 t.frm, .int .i64 t.speed, .int .i64 t.accel, tv, pv2]) t) (x0 x1 : Int) : FnP Try.prog 10 [.agg #[.int .i64 t.frm, .int .i64 t.speed, .int .i64 t.accel, tv, pv2], pv, .agg #[.int .i64 x0, .int .i64 x1]] w (.bool true) := by
  obtain ⟨pp, pc, wa, wc, rfl, hps, hws, hpsl, hpwl⟩ := hpr.ex
  have hT := ht
  obtain ⟨_, _, _, htr, hpl⟩ := ht.lit
  obtain ⟨ta, tc, rfl, htc, hte⟩ := htr.ex
  obtain ⟨pa, pc2, rfl, hpc, hpe⟩ := hpl.ex
  have hlpl := ht.lpl
  simp only [List.length_map] at hT hpl hpc htc ⊢
  refine fn_pure Try.func10 rfl (by kernel_rfl) Try.ntmps10 Try.results10 rfl ?_
  refine V_seq (V_region rfl ?_)
  refine L_go rfl (X_wr (w_box rfl rfl) ?_)
  rintro _ _ ⟨b1, hb1, rfl, rfl⟩
  refine L_go rfl (X_wr (w_box rfl rfl) ?_)
  rintro _ _ ⟨b2, hb2, rfl, rfl⟩
  refine L_go rfl (X_wr (w_box rfl rfl) ?_)
  rintro _ _ ⟨b3, hb3, rfl, rfl⟩
  refine L_go rfl (X_p (p_assign rfl rfl) ?_)
  refine L_then (.cons (k := 3) rfl (.cons (k := 4) rfl (.cons (k := 5) rfl .nil))) ?_
  refine V_seq (V_region rfl ?_)
  refine L_go rfl (X_rd (r_loadA (vs := [_, _, _, _]) ag49 sz49 rfl rfl (by repeat first | exact mH | apply mT | apply List.mem_append_right) rfl) ?_)
  refine L_go rfl (X_rd (r_loadA (vs := [_, _, _, _, _]) ag25 sz25 rfl rfl (by repeat first | exact mH | apply mT | apply List.mem_append_right) rfl) ?_)
  refine L_go rfl (X_wr (w_callG (pre := [_, _, _]) rfl rfl rfl rfl (fun w hg => follow_c p _ w (hpr.good hg) t _ _ (hT.good hg) (-1))) ?_)
  rintro _ _ ⟨GR, GP, rfl, hfr1, ok1, pa1, ra1, pn1, pc1, rn1, rc1, rxs1, rfl, himp⟩
  try simp only [List.cons_append, List.nil_append, List.append_nil]
  refine L_go rfl (X_p (p_move rfl rfl) ?_)
  refine L_go rfl (X_p (p_ext rfl rfl rfl) ?_)
  refine L_go rfl (X_p (p_ext rfl rfl rfl) ?_)
  refine L_go rfl (X_p (p_ext rfl rfl rfl) ?_)
  refine L_go rfl (X_wr (w_alloc zr25 rfl) ?_)
  rintro _ _ ⟨b5, hb5, rfl, rfl⟩
  refine L_go rfl (X_wr (w_store (cs' := [_, _, _, _, _]) sz25 rfl rfl rfl rfl rfl (by repeat first | exact .head | apply SetAt.tail) (Nat.le_of_ble_eq_true rfl) rfl) ?_)
  rintro _ _ ⟨rfl, rfl⟩
  refine L_go rfl (X_p (p_assign rfl rfl) ?_)
  refine L_go rfl (X_p (p_assign rfl rfl) ?_)
  refine L_then (.cons (k := 5) rfl (.cons (k := 7) rfl (.cons (k := 8) rfl (.cons (k := 9) rfl .nil)))) ?_
  refine V_seq ?_
  refine V_seq (V_region rfl ?_)
  refine L_go rfl (X_p (p_move rfl rfl) ?_)
  refine L_go rfl (X_p (p_not rfl rfl) ?_)
  refine L_go rfl (X_p (p_move rfl rfl) ?_)
  refine L_cases (d := 26) rfl ?_ ?_
  · intro g1; have g1' := g1; try simp only [td] at g1'
    refine L_no rfl rfl rfl g1 ?_
    refine L_no rfl rfl rfl g1 ?_
    refine L_no rfl rfl rfl g1 ?_
    refine L_no rfl rfl rfl g1 ?_
    refine L_no rfl rfl rfl g1 ?_
    refine L_no rfl rfl rfl g1 ?_
    refine L_go rfl (X_p (p_pick_t rfl rfl g1 rfl) ?_)
    refine L_then (.cons (k := 5) rfl (.cons (k := 7) rfl (.cons (k := 8) rfl (.cons (k := 33) rfl .nil)))) ?_
    refine V_cond_t rfl rfl ?_
    refine V_seq (V_region rfl ?_)
    refine L_go rfl (X_wr (w_callP rfl rfl rfl (fun w hg => awake_c w)) ?_)
    rintro _ _ ⟨rfl, rfl⟩
    refine L_go rfl (X_p (p_assign rfl rfl) ?_)
    refine L_then (.cons (k := 6) rfl .nil) ?_
    refine V_ret (then_r ?_)
    refine Leave.nil (.tmp rfl .nil) ?_
    show Value.bool _ = _
    first | rfl | simp
  · intro g1; have g1' := g1; try simp only [td] at g1'
    have hk1 : ok1 = true := by revert g1; cases ok1 <;> simp
    obtain ⟨hG, hG', rfl, rfl, rfl, hsm, hsp, hgP, hgR⟩ := himp hk1
    obtain ⟨hf, hs, ha⟩ := hG.nums
    have hpl60 := hG.h2
    refine L_yes rfl rfl rfl g1 (X_p (p_idxao ar31 rfl rfl rfl (by omega) (by omega)) ?_)
    refine L_yes rfl rfl rfl g1 (X_rd (r_load ag3 rfl rfl (by repeat first | exact mH | apply mT | apply List.mem_append_right) rfl) ?_)
    refine L_yes rfl rfl rfl g1 (X_p (p_idxao ar31 rfl rfl rfl (by omega) (by omega)) ?_)
    refine L_yes rfl rfl rfl g1 (X_rd (r_load ag3 rfl rfl (by repeat first | exact mH | apply mT | apply List.mem_append_right) rfl) ?_)
    refine L_yes rfl rfl rfl g1 (X_wr (w_callP rfl rfl rfl (fun w hg => ticks_c x0 x1 w)) ?_)
    rintro _ _ ⟨rfl, rfl⟩
    refine L_yes rfl rfl rfl g1 (X_p (p_not rfl rfl) ?_)
    refine L_go rfl (X_p (p_pick_f rfl rfl g1 rfl) ?_)
    refine L_then (.cons (k := 5) rfl (.cons (k := 7) rfl (.cons (k := 8) rfl (.cons (k := 33) rfl .nil)))) ?_
    refine V_cond rfl ?_ ?_
    · intro c1; have c1r := c1; try simp only [td] at c1
      refine V_seq (V_region rfl ?_)
      refine L_go rfl (X_wr (w_callP rfl rfl rfl (fun w hg => awake_c w)) ?_)
      rintro _ _ ⟨rfl, rfl⟩
      refine L_go rfl (X_p (p_assign rfl rfl) ?_)
      refine L_then (.cons (k := 6) rfl .nil) ?_
      refine V_ret (then_r ?_)
      refine Leave.nil (.tmp rfl .nil) ?_
      show Value.bool _ = _
      first | rfl | simp
    · intro c1; have c1r := c1; try simp only [td] at c1
      have htk : ticksB x0 x1 = true := by revert c1r; cases ticksB x0 x1 <;> simp
      have htk2 := ticks_ok htk
      refine V_skip (then_n ?_)
      refine V_seq (V_region rfl ?_)
      refine L_go rfl (X_rd (r_loadA (vs := [_, _, _, _, _]) ag25 sz25 rfl rfl (by repeat first | exact mH | apply mT | apply List.mem_append_right) rfl) ?_)
      refine L_go rfl (X_p (p_move rfl rfl) ?_)
      refine L_go rfl (X_p (p_idxao ar31 rfl rfl rfl (by omega) (by omega)) ?_)
      refine L_go rfl (X_rd (r_load ag3 rfl rfl (by repeat first | exact mH | apply mT | apply List.mem_append_right) rfl) ?_)
      refine L_go rfl (X_wr (w_callP rfl rfl rfl (fun w hg => spot_c t p _ _ _ _ ra1 rc1 x0 hf (by omega) hsm w (Grow.rows (els := rowsP t p 602) hgR rowsP_3 rowsP_len.symm (fun p hp => hg.own p (by repeat first | exact hp | exact List.mem_append_left _ hp | apply List.mem_append_right | apply mT))))) ?_)
      rintro _ _ ⟨rfl, rfl⟩
      refine L_go rfl (X_p (p_move rfl rfl) ?_)
      refine L_go rfl (X_p (p_ext rfl rfl rfl) ?_)
      refine L_go rfl (X_p (p_ext rfl rfl rfl) ?_)
      refine L_go rfl (X_p (p_ext rfl rfl rfl) ?_)
      refine L_go rfl (X_wr (w_alloc zr55 rfl) ?_)
      rintro _ _ ⟨b6, hb6, rfl, rfl⟩
      refine L_go rfl (X_wr (w_alloc zr55 rfl) ?_)
      rintro _ _ ⟨b7, hb7, rfl, rfl⟩
      refine L_go rfl (X_wr (w_store (cs' := [_, _, _]) sz55 rfl rfl rfl rfl rfl (by repeat first | exact .head | apply SetAt.tail) (Nat.le_of_ble_eq_true rfl) rfl) ?_)
      rintro _ _ ⟨rfl, rfl⟩
      refine L_go rfl (X_wr (w_store (cs' := [_, _, _]) sz55 rfl rfl rfl rfl rfl (by repeat first | exact .head | apply SetAt.tail) (Nat.le_of_ble_eq_true rfl) rfl) ?_)
      rintro _ _ ⟨rfl, rfl⟩
      refine L_go rfl (X_p (p_assign rfl rfl) ?_)
      refine L_then (.cons (k := 5) rfl (.cons (k := 7) rfl (.cons (k := 9) rfl (.cons (k := 10) rfl (.cons (k := 11) rfl .nil))))) ?_
      refine V_seq ?_
      refine V_seq (V_region rfl ?_)
      refine L_go rfl (X_p (p_move rfl rfl) ?_)
      refine L_go rfl (X_p (p_not rfl rfl) ?_)
      refine L_then (.cons (k := 5) rfl (.cons (k := 7) rfl (.cons (k := 10) rfl (.cons (k := 11) rfl (.cons (k := 45) rfl .nil))))) ?_
      refine V_cond rfl ?_ ?_
      · intro c2; have c2r := c2; try simp only [td] at c2
        refine V_seq (V_region rfl ?_)
        refine L_go rfl (X_wr (w_callP rfl rfl rfl (fun w hg => awake_c w)) ?_)
        rintro _ _ ⟨rfl, rfl⟩
        refine L_go rfl (X_p (p_assign rfl rfl) ?_)
        refine L_then (.cons (k := 6) rfl .nil) ?_
        refine V_ret (then_r ?_)
        refine Leave.nil (.tmp rfl .nil) ?_
        show Value.bool _ = _
        first | rfl | simp
      · intro c2; have c2r := c2; try simp only [td] at c2
        have hso : spotOk t x0 = true := by revert c2r; cases spotOk t x0 <;> simp
        obtain ⟨bw, hbw, hat, hhas, hfb, hask⟩ := true_law hG hG' hpr.ok hsm hsp htk hso
        have hw0 : (whereP (tellT t p (-1)) x0 x1).2 = 0 := by rw [hbw]
        have hw1 : (whereP (tellT t p (-1)) x0 x1).1 = bw := by rw [hbw]
        rw [← hw1] at hat hhas
        refine V_skip (then_n ?_)
        refine V_seq (V_region rfl ?_)
        refine L_go rfl (X_rd (r_loadA (vs := [_, _, _, _, _]) ag25 sz25 rfl rfl (by repeat first | exact mH | apply mT | apply List.mem_append_right) rfl) ?_)
        refine L_go rfl (X_p (p_idxao ar31 rfl rfl rfl (by omega) (by omega)) ?_)
        refine L_go rfl (X_rd (r_load ag3 rfl rfl (by repeat first | exact mH | apply mT | apply List.mem_append_right) rfl) ?_)
        refine L_go rfl (X_p (p_idxao ar31 rfl rfl rfl (by omega) (by omega)) ?_)
        refine L_go rfl (X_rd (r_load ag3 rfl rfl (by repeat first | exact mH | apply mT | apply List.mem_append_right) rfl) ?_)
        refine L_go rfl (X_wr (w_callP rfl rfl rfl (fun w hg => (show FnP _ _ _ w (.tuple #[.agg (Box.cells (whereP (tellT t p (-1)) x0 x1).1).toArray, .int .i64 (whereP (tellT t p (-1)) x0 x1).2]) from whereT_eq (tellT t p (-1)) x0 x1 ▸ where_c (tellT t p (-1)) _ _ x0 x1 w (TaskR.withPlots (t := t) (hT.good hg) (Grow.rows (els := (tellT t p (-1)).plots.map Plot.cells) hgP pl_len (by rw [List.length_map]; exact (tellL_len _).symm) (fun p hp => hg.own p (by repeat first | exact hp | exact List.mem_append_left _ hp | apply List.mem_append_right | apply mT))) (by show ((tellL t p (-1) t.plots.length).length : Int) ≤ _; rw [tellL_len]; omega))))) ?_)
        rintro _ _ ⟨rfl, rfl⟩
        refine L_go rfl (X_p (p_move rfl rfl) ?_)
        refine L_go rfl (X_p (p_ext rfl rfl rfl) ?_)
        refine L_go rfl (X_p (p_ext rfl rfl rfl) ?_)
        refine L_go rfl (X_wr (w_alloc zr35 rfl) ?_)
        rintro _ _ ⟨b8, hb8, rfl, rfl⟩
        refine L_go rfl (X_wr (w_store (cs' := [_, _, _, _, _, _, _, _, _, _, _, _, _]) sz35 rfl rfl rfl rfl rfl (by repeat first | exact .head | apply SetAt.tail) (Nat.le_of_ble_eq_true rfl) rfl) ?_)
        rintro _ _ ⟨rfl, rfl⟩
        refine L_go rfl (X_p (p_assign rfl rfl) ?_)
        refine L_then (.cons (k := 5) rfl (.cons (k := 7) rfl (.cons (k := 10) rfl (.cons (k := 11) rfl (.cons (k := 12) rfl (.cons (k := 13) rfl .nil)))))) ?_
        refine V_seq (V_region rfl ?_)
        refine L_go rfl (X_rd (r_loadA (vs := [_, _, _, _, _]) ag25 sz25 rfl rfl (by repeat first | exact mH | apply mT | apply List.mem_append_right) rfl) ?_)
        refine L_go rfl (X_p (p_idxao ar31 rfl rfl rfl (by omega) (by omega)) ?_)
        refine L_go rfl (X_rd (r_load ag3 rfl rfl (by repeat first | exact mH | apply mT | apply List.mem_append_right) rfl) ?_)
        refine L_go rfl (X_p (p_idxao ar31 rfl rfl rfl (by omega) (by omega)) ?_)
        refine L_go rfl (X_rd (r_load ag3 rfl rfl (by repeat first | exact mH | apply mT | apply List.mem_append_right) rfl) ?_)
        refine L_go rfl (X_wr (w_callG (pre := []) rfl rfl rfl rfl (fun w hg => fails_c (tellT t p (-1)) _ _ x0 x1 w (TaskR.withPlots (t := t) (hT.good hg) (Grow.rows (els := (tellT t p (-1)).plots.map Plot.cells) hgP pl_len (by rw [List.length_map]; exact (tellL_len _).symm) (fun p hp => hg.own p (by repeat first | exact hp | exact List.mem_append_left _ hp | apply List.mem_append_right | apply mT))) (by show ((tellL t p (-1) t.plots.length).length : Int) ≤ _; rw [tellL_len]; omega)))) ?_)
        rintro _ _ ⟨_, GF, rfl, hfr9, sv9, rfl, rfl, hgr9⟩
        obtain ⟨sa9, sc9, rfl⟩ := Grow.form hgr9
        try simp only [List.cons_append, List.nil_append, List.append_nil]
        refine L_go rfl (X_p (p_move rfl rfl) ?_)
        refine L_go rfl (X_p (p_ext rfl rfl rfl) ?_)
        refine L_go rfl (X_p (p_ext rfl rfl rfl) ?_)
        refine L_go rfl (X_p (p_ext rfl rfl rfl) ?_)
        refine L_go rfl (X_p (p_assign rfl rfl) ?_)
        refine L_go rfl (X_p (p_assign rfl rfl) ?_)
        refine L_go rfl (X_p (p_assign rfl rfl) ?_)
        refine L_then (.cons (k := 5) rfl (.cons (k := 10) rfl (.cons (k := 11) rfl (.cons (k := 12) rfl (.cons (k := 13) rfl (.cons (k := 15) rfl (.cons (k := 16) rfl .nil))))))) ?_
        refine V_seq (V_region rfl ?_)
        refine L_go rfl (X_p (p_move rfl rfl) ?_)
        refine L_go rfl (X_p (p_eql rfl rfl rfl) ?_)
        refine L_go rfl (X_p (p_move rfl rfl) ?_)
        refine L_yes rfl rfl rfl (by rw [hw0]; rfl) (X_p (p_move rfl rfl) ?_)
        refine L_yes rfl rfl rfl (by rw [hw0]; rfl) (X_p (p_eql rfl rfl rfl) ?_)
        refine L_go rfl (X_p (p_pick_t rfl rfl (by rw [hw0]; rfl) rfl) ?_)
        refine L_go rfl (X_p (p_move rfl rfl) ?_)
        refine L_yes rfl rfl rfl (by rw [hask]; rfl) (X_p (p_move rfl rfl) ?_)
        refine L_go rfl (X_p (p_pick_t rfl rfl (by rw [hask]; rfl) rfl) ?_)
        refine L_go rfl (X_p (p_move rfl rfl) ?_)
        refine L_yes rfl rfl rfl hfb (X_p (p_fieldo fo35_0 rfl rfl) ?_)
        refine L_yes rfl rfl rfl hfb (X_rd (r_load ag3 rfl rfl (by repeat first | exact mH | apply mT | apply List.mem_append_right) rfl) ?_)
        refine L_yes rfl rfl rfl hfb (X_p (p_idxao ar31 rfl rfl rfl (by omega) (by omega)) ?_)
        refine L_yes rfl rfl rfl hfb (X_rd (r_load ag3 rfl rfl (by repeat first | exact mH | apply mT | apply List.mem_append_right) rfl) ?_)
        refine L_yes rfl rfl rfl hfb (X_p (p_eql rfl rfl rfl) ?_)
        refine L_go rfl (X_p (p_pick_t rfl rfl hfb rfl) ?_)
        refine L_go rfl (X_p (p_move rfl rfl) ?_)
        refine L_yes rfl rfl rfl (decide_eq_true hat) (X_rd (r_loadA (vs := [_, _, _, _, _, _, _, _, _, _, _, _, _]) ag35 sz35 rfl rfl (by repeat first | exact mH | apply mT | apply List.mem_append_right) rfl) ?_)
        refine L_yes rfl rfl rfl (decide_eq_true hat) (X_rd (r_loadA (vs := [_, _, _]) ag55 sz55 rfl rfl (by repeat first | exact mH | apply mT | apply List.mem_append_right) rfl) ?_)
        refine L_yes rfl rfl rfl (decide_eq_true hat) (X_rd (r_loadA (vs := [_, _, _]) ag55 sz55 rfl rfl (by repeat first | exact mH | apply mT | apply List.mem_append_right) rfl) ?_)
        refine L_yes rfl rfl rfl (decide_eq_true hat) (X_wr (w_callP rfl rfl rfl (fun w hg => has_c (whereP (tellT t p (-1)) x0 x1).1 (fun k => spotP t p k x0) (fun k => spotV t p k x0) hhas w)) ?_)
        rintro _ _ ⟨rfl, rfl⟩
        refine L_go rfl (X_p (p_pick_t rfl rfl (decide_eq_true hat) rfl) ?_)
        refine L_go rfl (X_p (p_move rfl rfl) ?_)
        refine L_yes rfl rfl rfl rfl (X_wr (w_callP rfl rfl rfl (fun w hg => awake_c w)) ?_)
        rintro _ _ ⟨rfl, rfl⟩
        refine L_go rfl (X_p (p_pick_t rfl rfl rfl rfl) ?_)
        refine L_go rfl (X_p (p_assign rfl rfl) ?_)
        refine L_then (.cons (k := 6) rfl .nil) ?_
        refine V_ret ?_
        refine Leave.nil (.tmp rfl .nil) ?_
        show Value.bool _ = _
        first | rfl | simp

theorem own_ : ownKnob Try.prog.godebug = none := by kernel_rfl

theorem trackTrue_lifted (os : Os) (started : os.Started) (H : Type) (enc : TypeId × Value → H) :
    ReturnsInHanded {} Try.checked os 10 .any (Rows.trackTrueSpec.pre6 enc Try.prog Try.f10 Rows.trackTrueRow.domain false) (Rows.trackTrueSpec.post enc Try.prog Try.f10 false true false false) := by
  refine returnsInHanded_of_change (C := Try.checked) own_ started (by kernel_rfl) Try.func10
    (ChangeSpec.witness6 (enc := enc) (C := Try.checked) false ⟨#[], #[.agg #[.int .i64 0, .int .i64 0, .int .i64 0, .slice none 0 0, .slice none 0 0], .agg #[.slice none 0 0, .slice none 0 0, .slice none 0 0, .slice none 0 0], .agg #[.int .i64 0, .int .i64 0]], []⟩ 8 (by kernel_rfl) (by kernel_rfl) (by kernel_rfl) (by kernel_rfl)) ?_
  intro W base args ds gs before hval0 hW hcnd _
  have hval : ∀ (j : Nat) t v, Try.f10.params[j]? = some t → args[j]? = some v → Value.okWide Try.prog W .any base t v := hval0
  have hW' := hW
  obtain ⟨pA, pB, hA0, hV, rfl, _, _⟩ := hW
  have hA : DataW.TrodAll enc Try.prog W 0 (fun _ => true) true Try.f10.params.toList args.toList ds pA := hA0
  clear hA0 hval0
  rw [Try.params10] at hA hval
  obtain ⟨rfl, rfl⟩ := trodVars_none hV
  obtain ⟨v0, vs0, d0, ds0, p0, q0, ea0, rfl, rfl, h0, hA0⟩ := trodAll_cons hA
  obtain ⟨v1, vs1, d1, ds1, p1, q1, ea1, rfl, rfl, h1, hA1⟩ := trodAll_cons hA0
  obtain ⟨v2, vs2, d2, ds2, p2, q2, ea2, rfl, rfl, h2, hA2⟩ := trodAll_cons hA1
  obtain ⟨rfl, rfl, rfl⟩ := trodAll_nil hA2
  subst ea2
  subst ea1
  have ea : args = #[v0, v1, v2] := Array.toList_inj.1 ea0
  subst ea
  have k0 := hval 0 _ v0 rfl rfl
  have k1 := hval 1 _ v1 rfl rfl
  have k2 := hval 2 _ v2 rfl rfl
  obtain ⟨T, tv, pv, rfl, hT⟩ := open_task (P := Try.prog) (by kernel_rfl) k0 h0
  obtain ⟨p, hpr⟩ := open_path (P := Try.prog) (by kernel_rfl) k1 h1
  obtain ⟨x0, x1, rfl⟩ := open_ints2 (P := Try.prog) (by kernel_rfl) k2 h2
  refine (calls_of (trackTrue_c p _ W hpr T tv pv hT x0 x1)).mono ?_
  rintro _ W' ⟨_, rfl, rfl, hE⟩
  exact ⟨_, rfl, post_true hW' rfl hE (by kernel_rfl) (by kernel_rfl) rfl rfl rfl (by kernel_rfl) Try.underlying4⟩

theorem trackTrue_holds : Rows.TrackTrueSaid :=
  OpenClaim.holds_of_wide 10 Try.f10 rfl rfl rfl rfl rfl rfl rfl ⟨rfl, rfl, rfl, rfl, rfl⟩ rfl rfl rfl rfl rfl (by kernel_rfl) Try.func10 (by kernel_rfl)
    (of_decide_eq_true (by kernel_rfl)) (by unfold Func.isWrapper; first | (rw [if_pos (by decide +kernel)]; kernel_rfl) | (rw [if_neg (by decide +kernel)]; exact ⟨rfl, rfl⟩))
    (fun os started H enc _ => trackTrue_lifted os started H enc)
#print axioms trackTrue_holds

end Go.Proofs.Ytclbbchehjapjaa
