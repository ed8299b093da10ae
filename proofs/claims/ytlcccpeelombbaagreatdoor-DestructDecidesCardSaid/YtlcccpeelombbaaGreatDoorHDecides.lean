/- YtlcccpeelombbaaGreatDoor: DestructDecides is proved: for any plan, task and ticks (no condition but what the card ties) it returns true. -/
import Derived.Test.YtlcccpeelombbaaGreatDoorRows
import Derived.Test.YtlcccpeelombbaaGreatDoorCards
import Derived.Test.YtlcccpeelombbaaGreatDoorTie
import Derived.Test.YtlcccpeelombbaaGreatDoorZam
import Derived.Test.YtlcccpeelombbaaGreatDoorZal
import Derived.Test.YtlcccpeelombbaaGreatDoorZah
import Derived.ProofKit
import Derived.LaidMore
import Derived.Stop.Joined
import Derived.Stop.LaidTwo
import Derived.SevenTiedAt
set_option linter.all false
namespace Go.Proofs.YtlcccpeelombbaaGreatDoor
open Go.Vc Go.Tk Go.De Go.ChangeShapes Go.WideShapes Go.ChangeAt Go.RowKit
set_option maxRecDepth 100000
theorem destructDecides_c (x0 x1 : Int) (p : De.Plan) (pv : Value) (aF aL : Addr) (w : World) (hE : ErrR w 0 1 194 aF aL)  (hp : PlanR w pv p) (t : Task) (tv qv : Value) (ht : TaskR w (.agg #[.int .i64 t.frm, .int .i64 t.speed, .int .i64 t.accel, tv, qv]) t) : FnP Tryz.prog 4 [pv, .agg #[.int .i64 t.frm, .int .i64 t.speed, .int .i64 t.accel, tv, qv], .agg #[.int .i64 x0, .int .i64 x1]] w (.bool true) := by
 have hP := hp
 obtain ⟨lv, rfl, hls⟩ := hp.ex
 have hlen := hp.len
 have hT := ht
 refine fn_pure Tryz.func4 rfl (by kernel_rfl) Tryz.ntmps4 Tryz.results4 rfl ?_
 refine Vs rfl ?_
 refine Lw rfl (w_box rfl rfl) ?_
 rintro _ _ ⟨b1, hb1, rfl, rfl⟩
 refine Lw rfl (w_box rfl rfl) ?_
 rintro _ _ ⟨b2, hb2, rfl, rfl⟩
 refine Lw rfl (w_box rfl rfl) ?_
 rintro _ _ ⟨b3, hb3, rfl, rfl⟩
 refine La rfl rfl rfl ?_
 refine L_then (kp [3, 4, 5] rfl) ?_
 refine Vs rfl ?_
 refine Lr rfl (rlA (vs := [_, _, _, _, _]) ag26 sz26 rfl rfl rfl) ?_
 refine Lr rfl (rlA (vs := [_, _, _, _, _]) ag39 sz39 rfl rfl rfl) ?_
 refine Lp rfl (p_idxao ar40 rfl rfl rfl (by omega) (by omega)) ?_
 refine Lr rfl (rl ag3 rfl rfl rfl) ?_
 refine Lp rfl (p_idxao ar40 rfl rfl rfl (by omega) (by omega)) ?_
 refine Lr rfl (rl ag3 rfl rfl rfl) ?_
 refine Lc rfl rfl rfl rfl (fun w hg => dDecide_c x0 x1 p _ aF aL w (hE.good hg) (hP.good hg) t _ _ (hT.good hg)) ?_
 refine Lm rfl rfl rfl ?_
 iterate 2 refine Lp rfl (p_ext rfl rfl rfl) ?_
 refine Lw rfl (w_alloc zr42 rfl) ?_
 rintro _ _ ⟨b4, hb4, rfl, rfl⟩
 refine Ls (cs' := [_, _, _]) rfl sz42 rfl rfl rfl rfl rfl rfl rfl ?_
 refine La rfl rfl rfl ?_
 refine L_then (kp [3, 4, 5, 7, 8] rfl) ?_
 refine Vs rfl ?_
 refine Lr rfl (rlA (vs := [_, _, _, _, _]) ag26 sz26 rfl rfl rfl) ?_
 refine Lr rfl (rlA (vs := [_, _, _, _, _]) ag39 sz39 rfl rfl rfl) ?_
 refine Lp rfl (p_idxao ar40 rfl rfl rfl (by omega) (by omega)) ?_
 refine Lr rfl (rl ag3 rfl rfl rfl) ?_
 refine Lp rfl (p_idxao ar40 rfl rfl rfl (by omega) (by omega)) ?_
 refine Lr rfl (rl ag3 rfl rfl rfl) ?_
 refine Lc rfl rfl rfl rfl (fun w hg => drDecide_c x0 x1 p _ w (hP.good hg) t _ _ (hT.good hg)) ?_
 refine Lm rfl rfl rfl ?_
 iterate 2 refine Lp rfl (p_ext rfl rfl rfl) ?_
 refine Lw rfl (w_alloc zr42 rfl) ?_
 rintro _ _ ⟨b5, hb5, rfl, rfl⟩
 refine Ls (cs' := [_, _, _]) rfl sz42 rfl rfl rfl rfl rfl rfl rfl ?_
 refine La rfl rfl rfl ?_
 refine L_then (kp [7, 8, 9, 10] rfl) ?_
 refine Vs rfl ?_
 iterate 2 refine Lr rfl (rlA (vs := [_, _, _]) ag42 sz42 rfl rfl rfl) ?_
 refine Lp rfl (p_eqS lv42 ag42 eg42 rfl rfl rfl rfl rfl) ?_
 refine Lm rfl rfl rfl ?_
 refine L_yes rfl rfl rfl (by first | rfl | (simp; done) | (simp [eqL, eqv, Box.cells]; done) | decide) (X_p (p_move rfl rfl) ?_)
 refine L_yes rfl rfl rfl (by first | rfl | (simp; done) | (simp [eqL, eqv, Box.cells]; done) | decide) (X_p (p_move rfl rfl) ?_)
 refine L_yes rfl rfl rfl (by first | rfl | (simp; done) | (simp [eqL, eqv, Box.cells]; done) | decide) (X_p (p_eql rfl rfl rfl) ?_)
 refine Lp rfl (p_pick_t rfl rfl (by first | rfl | (simp; done) | (simp [eqL, eqv, Box.cells]; done) | decide) rfl) ?_
 refine Lm rfl rfl rfl ?_
 refine L_yes rfl rfl rfl (by first | rfl | simp | decide) (X_wr (w_callP rfl rfl rfl (fun w hg => dawake_c aF aL w (hE.good hg))) ?_)
 rintro _ _ ⟨rfl, rfl⟩
 refine Lp rfl (p_pick_t rfl rfl (by first | rfl | simp | decide) rfl) ?_
 refine La rfl rfl rfl ?_
 refine L_then (kp [6] rfl) ?_
 refine V_ret ?_
 refine Leave.nil (.tmp rfl .nil) ?_
 rfl

theorem own_ : ownKnob Tryz.prog.godebug = none := by kernel_rfl
def laidE : List (String × DataW Unit) := [("hangfire/destruct.errFar", Rows.laid_hangfire_destruct_errFar), ("hangfire/destruct.errLong", Rows.laid_hangfire_destruct_errLong)]
theorem gFar : Tryz.prog.globalNamed "hangfire/destruct.errFar" = some 0 := by kernel_rfl
theorem gLong : Tryz.prog.globalNamed "hangfire/destruct.errLong" = some 1 := by kernel_rfl
theorem tFar : (Tryz.prog.globals[0]?).map (·.type) = some 72 := by kernel_rfl
theorem tLong : (Tryz.prog.globals[1]?).map (·.type) = some 72 := by kernel_rfl
theorem door_met (os : Os) (args : Array Value) : laidMetH Tryz.prog laidE ((World.doorLaid Tryz.prog 400 os).forCall (fun _ _ => 0) ⟨#[], args, []⟩).memory :=
 laidMetH_of_parts3 (fuel := 8) (laidMet_of_run' 8 (by kernel_rfl) (by kernel_rfl)) (by kernel_rfl) (by kernel_rfl)
theorem of_laid {W : World} (h : laidMetH Tryz.prog laidE W) : ∃ aF aL, ErrR W 0 1 194 aF aL := by
 rw [MakeChecks.laidMetH_plain _ _ _ (by kernel_rfl)] at h
 have hr : ∀ u, Tryz.prog.typeName? 3 u = some "*errors.errorString" → u = 194 := fun u hu =>
  typeName_ptr_named (nm := "errors.errorString") (by kernel_rfl) (by kernel_rfl) (by decide) u hu
 obtain ⟨a0, a1, s0, s1, c0, c1, t0, t1, hv0, hv1, _, _, _, _, _, _, hne, hb0, hb1⟩ := laid_sentinels2 h gFar tFar gLong tLong Tryz.underlying72 hr Tryz.underlying194 Tryz.underlying220 rfl rfl Tryz.underlying9 (by kernel_rfl) (by kernel_rfl)
 exact ⟨a0, a1, by simpa using World.var?_cell gFar hv0 0, by simpa using World.var?_cell gLong hv1 0, hne, ⟨c0, t0, hb0⟩, ⟨c1, t1, hb1⟩⟩

theorem destructDecides_lifted (os : Os) (started : os.Started) (H : Type) (enc : TypeId × Value → H) :
  ReturnsInHanded {} Tryz.checked os 4 .any (fun w args => (Rows.destructDecidesSpec.pre enc Tryz.prog Tryz.f4 Rows.destructDecidesRow.domain false w args ∧ laidMetH Tryz.prog laidE w) ∧ sizedMet enc Tryz.prog Tryz.f4 (OpenSpec.ofChange Rows.destructDecidesSpec) false w args)
   (Rows.destructDecidesSpec.post enc Tryz.prog Tryz.f4 false true false false) := by
 refine returnsInHanded_of_change_and (C := Tryz.checked) (X := fun w _ => laidMetH Tryz.prog laidE w) (fun _ _ _ hh h => h.of_heap hh) own_ started (by kernel_rfl) Tryz.func4
  (ChangeSpec.witness_shaped (enc := enc) (C := Tryz.checked) (os := os) (X := fun w _ => laidMetH Tryz.prog laidE w) false (World.doorLaid Tryz.prog 400 os) #[.agg #[.slice none 0 0, .int .i64 0, .int .i64 0, .int .i64 0, .int .i64 0], .agg #[.int .i64 0, .int .i64 0, .int .i64 0, .slice none 0 0, .slice none 0 0], .agg #[.int .i64 0, .int .i64 0]] 8 rfl (World.shaped_of_RefB (by kernel_rfl) (by kernel_rfl)) (by kernel_rfl) (by kernel_rfl) (by kernel_rfl) (door_met os _)) ?_
 intro W base args ds gs before hval0 hW _ _ hL _
 have hval : ∀ (j : Nat) t v, Tryz.f4.params[j]? = some t → args[j]? = some v → Value.okWide Tryz.prog W .any base t v := hval0
 have hW' := hW
 obtain ⟨pA, pB, hA0, hV, rfl, _, _⟩ := hW
 have hA : DataW.TrodAll enc Tryz.prog W 0 (fun _ => true) true Tryz.f4.params.toList args.toList ds pA := hA0
 clear hA0 hval0
 rw [Tryz.params4] at hA hval
 obtain ⟨rfl, rfl⟩ := trodVars_none hV
 obtain ⟨v0, vs0, d0, ds0, p0, q0, ea0, rfl, rfl, h0, hA0⟩ := trodAll_cons hA
 obtain ⟨v1, vs1, d1, ds1, p1, q1, ea1, rfl, rfl, h1, hA1⟩ := trodAll_cons hA0
 obtain ⟨v2, vs2, d2, ds2, p2, q2, ea2, rfl, rfl, h2, hA2⟩ := trodAll_cons hA1
 obtain ⟨rfl, rfl, rfl⟩ := trodAll_nil hA2
 subst ea2
 subst ea1
 have ea : args = #[v0, v1, v2] := Array.toList_inj.1 ea0
 subst ea
 have k0 := hval 0 _ v0 rfl rfl
 have k1 := hval 1 _ v1 rfl rfl
 have k2 := hval 2 _ v2 rfl rfl
 obtain ⟨aF, aL, hE⟩ := of_laid hL
 obtain ⟨p, hP⟩ := open_plan (P := Tryz.prog) (by kernel_rfl) k0 h0
 obtain ⟨t, tv, qv, rfl, hT⟩ := open_task (P := Tryz.prog) (by kernel_rfl) k1 h1
 obtain ⟨x0, x1, rfl⟩ := open_ints2 (P := Tryz.prog) (by kernel_rfl) k2 h2
 refine (calls_of (destructDecides_c x0 x1 p _ aF aL W hE hP t _ _ hT)).mono ?_
 rintro _ W' ⟨_, rfl, rfl, hX⟩
 exact ⟨_, rfl, post_true hW' rfl hX (by kernel_rfl) (by kernel_rfl) rfl rfl rfl (by kernel_rfl) Tryz.underlying4⟩

theorem destructDecides_row : Rows.DestructDecidesSaid :=
 OpenClaim.holds_of_wide 4 Tryz.f4 rfl rfl rfl rfl rfl rfl rfl ⟨rfl, rfl, rfl, rfl, rfl⟩ rfl rfl rfl rfl rfl (by kernel_rfl) Tryz.func4 (by kernel_rfl)
  (of_decide_eq_true (by kernel_rfl)) (by unfold Func.isWrapper; first | (rw [if_pos (by decide +kernel)]; kernel_rfl) | (rw [if_neg (by decide +kernel)]; exact ⟨rfl, rfl⟩))
  (fun os started H enc _ => destructDecides_lifted os started H enc)

theorem destructDecides_holds : Rows.DestructDecidesCardSaid :=
 Claim7.holds_tied_plain_at .later [] [.sentinel, .sentinel] true (true, "45daf5a72e1417c27e7b53707ddfea4b3edd868a729209c8431d788981e9d69c") true
  destructDecides_row (fun _ h => by cases h) (by kernel_rfl) (fun _ h => by cases h) destructDecides_row_tie rfl ⟨rfl, rfl⟩ (by kernel_rfl) rfl
  (fun f fn hf hfn => by
   obtain rfl : f = 4 := Option.some.inj ((show Tryz.prog.funcNamed "hangfire/hangfirelaw06.DestructDecides" = some 4 by kernel_rfl).symm.trans hf) |>.symm
   obtain rfl : fn = Tryz.f4 := (Option.some.inj (Tryz.func4.symm.trans hfn)).symm
   exact ⟨by kernel_rfl, fun j t ht => by
    rw [Tryz.params4] at ht
    have hm : t ∈ [26, 39, 40] := by simpa using Array.mem_of_getElem? ht
    have hall : ([26, 39, 40].all fun u => !Tryz.prog.wantsStandIn u) = true := by kernel_rfl
    exact (show Tryz.prog.wantsStandIn t = false by simpa using List.all_eq_true.1 hall t hm)⟩)
  (by kernel_rfl)
#print axioms destructDecides_holds

end Go.Proofs.YtlcccpeelombbaaGreatDoor
