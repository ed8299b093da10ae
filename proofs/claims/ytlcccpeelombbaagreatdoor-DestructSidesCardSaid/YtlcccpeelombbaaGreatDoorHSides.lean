/- YtlcccpeelombbaaGreatDoor: DestructSides is proved: for any plan and area (no condition but what the card ties) it returns true. -/
import Derived.Test.YtlcccpeelombbaaGreatDoorRows
import Derived.Test.YtlcccpeelombbaaGreatDoorCards
import Derived.Test.YtlcccpeelombbaaGreatDoorTie
import Derived.Test.YtlcccpeelombbaaGreatDoorZam
import Derived.Test.YtlcccpeelombbaaGreatDoorZal
import Derived.Test.YtlcccpeelombbaaGreatDoorZad
import Derived.Test.YtlcccpeelombbaaGreatDoorZah
import Derived.ProofKit
import Derived.LaidMore
import Derived.Stop.Joined
import Derived.Stop.LaidTwo
import Derived.SevenTiedAt
set_option linter.all false
namespace Go.Proofs.YtlcccpeelombbaaGreatDoor
open Go.Vc Go.Tk Go.De Go.ChangeShapes Go.WideShapes Go.ChangeAt Go.RowKit
set_option maxRecDepth 100000
theorem lints_c (a b : List Int) (va vb : Value) (w : World) (ha : SliceR w 1 va (a.map fun n => [Value.int .i64 n])) (hb : SliceR w 1 vb (b.map fun n => [Value.int .i64 n])) (hl : (a.length : Int) ≤ 9223372036854775806) (hl2 : (b.length : Int) ≤ 9223372036854775806) : FnP Tryz.prog 19 [va, vb] w (.bool (decide (a = b))) := by
 obtain ⟨aa, ca, rfl, hca, hae⟩ := ha.ex
 obtain ⟨ab, cb, rfl, hcb, hbe⟩ := hb.ex
 simp only [List.length_map] at hca hcb ⊢
 refine fn_pure Tryz.func19 rfl (by kernel_rfl) Tryz.ntmps19 Tryz.results19 rfl ?_
 refine Vs rfl ?_
 refine La rfl rfl rfl ?_
 refine L_then (kp [0, 1] rfl) ?_
 refine V_seq ?_
 refine Vs rfl ?_
 refine Lm rfl rfl rfl ?_
 refine Lp rfl (p_len isl53 rfl rfl) ?_
 refine Lm rfl rfl rfl ?_
 refine Lp rfl (p_len isl53 rfl rfl) ?_
 refine Lp rfl (p_neq rfl rfl rfl) ?_
 refine L_then (kp [0, 1, 10] rfl) ?_
 refine V_cond rfl ?_ ?_
 ·intro c1; try simp only [td] at c1
  refine Vs rfl ?_
  refine La rfl rfl rfl ?_
  refine L_then (kp [4] rfl) ?_
  refine V_ret (then_r ?_)
  refine Leave.nil (.tmp rfl .nil) ?_
  have e : decide (a = b) = false := decide_eq_false (by rintro rfl; omega)
  rw [e]; rfl
 intro c1; try simp only [td] at c1
 refine V_skip (then_n ?_)
 refine V_seq ?_
 refine Vs rfl ?_
 refine La rfl rfl rfl ?_
 refine L_then (kp [0, 1, 5] rfl) ?_
 refine V_block ?_
 refine V_loop0 (γ := Int) (kp [0, 1] rfl) (fun k => [(5, .int .i64 k)]) (fun k => 0 ≤ k ∧ k ≤ a.length ∧ ∀ j : Nat, (j : Int) < k → a.getD j 0 = b.getD j 0) (fun k => (a.length - k).toNat) (0) (.cons rfl (.nil _)) (⟨by omega, by omega, fun j hj => by omega⟩) ?_
 rintro k hi
 obtain ⟨hk0, hk1, hkp⟩ := hi
 refine V_seq ?_
 refine Vs rfl ?_
 iterate 2 refine Lm rfl rfl rfl ?_
 refine Lp rfl (p_len isl53 rfl rfl) ?_
 refine Lp rfl (p_lss rfl rfl rfl) ?_
 refine L_then (kp [0, 1, 5, 14] rfl) ?_
 refine V_cond rfl ?_ ?_
 ·intro c2; try simp only [td] at c2
  obtain ⟨xa, rfl, hxa⟩ := hae k.toNat _ (getD_cells (f := fun n : Int => [Value.int .i64 n]) (d := 0) (by omega))
  obtain ⟨xb, rfl, hxb⟩ := hbe k.toNat _ (getD_cells (f := fun n : Int => [Value.int .i64 n]) (d := 0) (by omega))
  refine V_skip (then_n ?_)
  refine V_seq ?_
  refine V_block ?_
  refine V_seq (V_draw (.rd 0 (.rd 1 (.rd 2 (.rd 3 (.rd 4 (.rd 5 (.rd 6 (.rd 7 (.rd 8 .done))))))))) mixed (by kernel_rfl) rfl ?_)
  iterate 2 refine Dm rfl rfl rfl rfl ?_
  refine Dp rfl rfl (p_idx es53 rfl rfl rfl (by omega) (by omega)) ?_
  refine Dr rfl rfl (r_loadB ag3 rfl rfl (hxa.zero) List.not_mem_nil) ?_
  iterate 2 refine Dm rfl rfl rfl rfl ?_
  refine Dp rfl rfl (p_idx es53 rfl rfl rfl (by omega) (by omega)) ?_
  refine Dr rfl rfl (r_loadB ag3 rfl rfl (hxb.zero) List.not_mem_nil) ?_
  refine Dp rfl rfl (p_neq rfl rfl rfl) ?_
  refine D_then (kp [0, 1, 5, 25] rfl) ?_
  refine V_cond rfl ?_ ?_
  ·intro c3; try simp only [td] at c3
   refine Vs rfl ?_
   refine La rfl rfl rfl ?_
   refine L_then (kp [4] rfl) ?_
   refine V_ret (blk_r (then_r (then_r (blk_r (then_r ?_)))))
   refine Leave.nil (.tmp rfl .nil) ?_
   rw [ints_ne c3]; rfl
  intro c3; try simp only [td] at c3
  refine V_skip (blk_n (then_n ?_))
  refine V_region rfl ?_
  refine Lm rfl rfl rfl ?_
  first | refine Lp rfl (p_add' rfl rfl rfl (by unfold InI; omega)) ?_ | refine Lp rfl (p_add rfl rfl rfl) ?_
  refine La rfl rfl rfl ?_
  refine L_keep (kp [0, 1, 5] rfl) (then_n ?_)
  refine ⟨k + 1, ?_, ?_, (.cons rfl (.cons rfl (.cons rfl (.nil _)))), (by repeat (first | exact List.Sublist.refl _ | apply List.Sublist.cons_cons | apply List.Sublist.cons | apply List.sublist_append_of_sublist_right)), rfl⟩
  ·refine ⟨by omega, by omega, fun j hj => ?_⟩; by_cases e : (j : Int) < k
   ·exact hkp j e
   have ej : j = k.toNat := by omega
   rw [ej]; exact c3
  omega
 intro c2; try simp only [td] at c2
 refine V_exit (then_e (then_e (blk_e rfl (then_n ?_))))
 refine Vs rfl ?_
 refine La rfl rfl rfl ?_
 refine L_then (kp [4] rfl) ?_
 refine V_ret ?_
 refine Leave.nil (.tmp rfl .nil) ?_
 have e : a = b := ints_eq (by omega) (fun j hj => hkp j (by omega))
 rw [decide_eq_true e]; rfl
theorem lints_same (a : List Int) (va vb : Value) (w : World) (ha : SliceR w 1 va (a.map fun n => [Value.int .i64 n])) (hb : SliceR w 1 vb (a.map fun n => [Value.int .i64 n])) (hl : (a.length : Int) ≤ 9223372036854775806) : FnP Tryz.prog 19 [va, vb] w (.bool true) := by
 have h := lints_c a a va vb w ha hb hl hl
 rwa [decide_eq_true rfl] at h
theorem sideL_len {p : De.Plan} {x y : Span} (h : (p.lines.length : Int) ≤ 9223372036854775807) : ((sideL p x y).length : Int) ≤ 9223372036854775806 := by
 unfold sideL
 split
 ·simp
 rename_i h1
 have h2 := (area_zero (p := p) (x := x) (y := y) (by omega)).1.nums.1
 simp only [List.length_map]; omega
theorem destructSides_c (x0 x1 x2 x3 : Int) (p : De.Plan) (pv : Value) (aF aL : Addr) (w : World) (hE : ErrR w 0 1 194 aF aL)  (hp : PlanR w pv p) : FnP Tryz.prog 6 [pv, .agg #[.int .i64 x0, .int .i64 x1, .int .i64 x2, .int .i64 x3]] w (.bool true) := by
 have hP := hp
 obtain ⟨lv, rfl, hls⟩ := hp.ex
 have hlen := hp.len
 refine fn_pure Tryz.func6 rfl (by kernel_rfl) Tryz.ntmps6 Tryz.results6 rfl ?_
 refine Vs rfl ?_
 refine Lw rfl (w_box rfl rfl) ?_
 rintro _ _ ⟨b1, hb1, rfl, rfl⟩
 refine Lw rfl (w_box rfl rfl) ?_
 rintro _ _ ⟨b2, hb2, rfl, rfl⟩
 refine La rfl rfl rfl ?_
 refine L_then (kp [2, 3] rfl) ?_
 refine Vs rfl ?_
 refine Lr rfl (rlA (vs := [_, _, _, _, _]) ag26 sz26 rfl rfl rfl) ?_
 refine Lr rfl (rlA (vs := [_, _, _, _]) ag30 sz30 rfl rfl rfl) ?_
 refine Lw rfl (w_callG (pre := [_, _]) rfl rfl rfl rfl (fun w hg => dside_c ⟨x0, x1⟩ ⟨x2, x3⟩ p _ w (hP.good hg))) ?_
 rintro _ _ ⟨_, G1, rfl, hfr1, sv1, rfl, rfl, hgr1⟩
 try simp only [List.cons_append, List.nil_append, List.append_nil]
 refine Lm rfl rfl rfl ?_
 iterate 2 refine Lp rfl (p_ext rfl rfl rfl) ?_
 iterate 2 refine La rfl rfl rfl ?_
 refine L_then (kp [2, 3, 5, 6] rfl) ?_
 refine Vs rfl ?_
 refine Lr rfl (rlA (vs := [_, _, _, _, _]) ag26 sz26 rfl rfl rfl) ?_
 refine Lr rfl (rlA (vs := [_, _, _, _]) ag30 sz30 rfl rfl rfl) ?_
 refine Lw rfl (w_callG (pre := [_, _]) rfl rfl rfl rfl (fun w hg => drside_c ⟨x0, x1⟩ ⟨x2, x3⟩ p _ w (hP.good hg))) ?_
 rintro _ _ ⟨_, G2, rfl, hfr2, sv2, rfl, rfl, hgr2⟩
 try simp only [List.cons_append, List.nil_append, List.append_nil]
 refine Lm rfl rfl rfl ?_
 iterate 2 refine Lp rfl (p_ext rfl rfl rfl) ?_
 iterate 2 refine La rfl rfl rfl ?_
 refine L_then (kp [2, 3, 5, 6, 7, 8] rfl) ?_
 refine V_seq ?_
 refine Vs rfl ?_
 iterate 2 refine Lm rfl rfl rfl ?_
 refine Lc rfl rfl rfl rfl (fun w hg => lints_same (sideL p ⟨x0, x1⟩ ⟨x2, x3⟩) _ _ w (Grow.slice hgr1 (fun p hp => hg.own p (by repeat first | exact hp | exact List.mem_append_left _ hp | apply List.mem_append_right | apply mT))) (Grow.slice hgr2 (fun p hp => hg.own p (by repeat first | exact hp | exact List.mem_append_left _ hp | apply List.mem_append_right | apply mT))) (sideL_len hlen)) ?_
 refine Lp rfl (p_not rfl rfl) ?_
 refine Lm rfl rfl rfl ?_
 refine L_yes rfl rfl rfl rfl (X_p (p_move rfl rfl) ?_)
 refine L_yes rfl rfl rfl rfl (X_p (p_move rfl rfl) ?_)
 refine L_yes rfl rfl rfl rfl (X_p (p_neq rfl rfl rfl) ?_)
 refine Lp rfl (p_pick_f rfl rfl rfl rfl) ?_
 refine L_then (kp [2, 3, 33] rfl) ?_
 refine V_cond_f rfl (by first | rfl | simp | decide) ?_
 refine V_skip (then_n ?_)
 refine Vs rfl ?_
 refine Lr rfl (rlA (vs := [_, _, _, _, _]) ag26 sz26 rfl rfl rfl) ?_
 refine Lr rfl (rlA (vs := [_, _, _, _]) ag30 sz30 rfl rfl rfl) ?_
 refine Lc rfl rfl rfl rfl (fun w hg => dkeeps_c ⟨x0, x1⟩ ⟨x2, x3⟩ p _ w (hP.good hg)) ?_
 refine Lm rfl rfl rfl ?_
 iterate 2 refine Lp rfl (p_ext rfl rfl rfl) ?_
 iterate 2 refine La rfl rfl rfl ?_
 refine L_then (kp [2, 3, 6, 9] rfl) ?_
 refine Vs rfl ?_
 refine Lr rfl (rlA (vs := [_, _, _, _, _]) ag26 sz26 rfl rfl rfl) ?_
 refine Lr rfl (rlA (vs := [_, _, _, _]) ag30 sz30 rfl rfl rfl) ?_
 refine Lc rfl rfl rfl rfl (fun w hg => drkeeps_c ⟨x0, x1⟩ ⟨x2, x3⟩ p _ w (hP.good hg)) ?_
 refine Lm rfl rfl rfl ?_
 iterate 2 refine Lp rfl (p_ext rfl rfl rfl) ?_
 iterate 2 refine La rfl rfl rfl ?_
 refine L_then (kp [2, 3, 6, 8, 9, 10] rfl) ?_
 refine V_seq ?_
 refine Vs rfl ?_
 iterate 2 refine Lm rfl rfl rfl ?_
 refine Lp rfl (p_neqb un4 rfl rfl rfl) ?_
 refine Lm rfl rfl rfl ?_
 refine L_yes rfl rfl rfl (by first | rfl | simp | decide) (X_p (p_move rfl rfl) ?_)
 refine L_yes rfl rfl rfl (by first | rfl | simp | decide) (X_p (p_move rfl rfl) ?_)
 refine L_yes rfl rfl rfl (by first | rfl | simp | decide) (X_p (p_neq rfl rfl rfl) ?_)
 refine Lp rfl (p_pick_f rfl rfl (by first | rfl | simp | decide) rfl) ?_
 refine L_then (kp [2, 3, 53] rfl) ?_
 refine V_cond_f rfl (by first | rfl | simp | decide) ?_
 refine V_skip (then_n ?_)
 refine Vs rfl ?_
 refine Lr rfl (rlA (vs := [_, _, _, _, _]) ag26 sz26 rfl rfl rfl) ?_
 refine Lr rfl (rlA (vs := [_, _, _, _]) ag30 sz30 rfl rfl rfl) ?_
 refine Lc rfl rfl rfl rfl (fun w hg => dsure_c ⟨x0, x1⟩ ⟨x2, x3⟩ p _ w (hP.good hg)) ?_
 refine Lm rfl rfl rfl ?_
 iterate 3 refine Lp rfl (p_ext rfl rfl rfl) ?_
 iterate 3 refine La rfl rfl rfl ?_
 refine L_then (kp [2, 3, 6, 9, 11] rfl) ?_
 refine Vs rfl ?_
 refine Lr rfl (rlA (vs := [_, _, _, _, _]) ag26 sz26 rfl rfl rfl) ?_
 refine Lr rfl (rlA (vs := [_, _, _, _]) ag30 sz30 rfl rfl rfl) ?_
 refine Lc rfl rfl rfl rfl (fun w hg => drsure_c ⟨x0, x1⟩ ⟨x2, x3⟩ p _ w (hP.good hg)) ?_
 refine Lm rfl rfl rfl ?_
 iterate 3 refine Lp rfl (p_ext rfl rfl rfl) ?_
 iterate 3 refine La rfl rfl rfl ?_
 refine L_then (kp [6, 8, 9, 10, 11, 12] rfl) ?_
 refine Vs rfl ?_
 iterate 2 refine Lm rfl rfl rfl ?_
 refine Lp rfl (p_eqlb un4 rfl rfl rfl) ?_
 refine Lm rfl rfl rfl ?_
 refine L_yes rfl rfl rfl (by first | rfl | simp | decide) (X_p (p_move rfl rfl) ?_)
 refine L_yes rfl rfl rfl (by first | rfl | simp | decide) (X_p (p_move rfl rfl) ?_)
 refine L_yes rfl rfl rfl (by first | rfl | simp | decide) (X_p (p_eql rfl rfl rfl) ?_)
 refine Lp rfl (p_pick_t rfl rfl (by first | rfl | simp | decide) rfl) ?_
 refine Lm rfl rfl rfl ?_
 refine L_yes rfl rfl rfl (by first | rfl | simp | decide) (X_p (p_move rfl rfl) ?_)
 refine L_yes rfl rfl rfl (by first | rfl | simp | decide) (X_p (p_move rfl rfl) ?_)
 refine L_yes rfl rfl rfl (by first | rfl | simp | decide) (X_p (p_eql rfl rfl rfl) ?_)
 refine Lp rfl (p_pick_t rfl rfl (by first | rfl | simp | decide) rfl) ?_
 refine Lm rfl rfl rfl ?_
 refine L_yes rfl rfl rfl (by first | rfl | simp | decide) (X_wr (w_callP rfl rfl rfl (fun w hg => dawake_c aF aL w (hE.good hg))) ?_)
 rintro _ _ ⟨rfl, rfl⟩
 refine Lp rfl (p_pick_t rfl rfl (by first | rfl | simp | decide) rfl) ?_
 refine La rfl rfl rfl ?_
 refine L_then (kp [4] rfl) ?_
 refine V_ret ?_
 refine Leave.nil (.tmp rfl .nil) ?_
 rfl

theorem own_ : ownKnob Tryz.prog.godebug = none := by kernel_rfl
def laidE : List (String × DataW Unit) := [("hangfire/destruct.errFar", Rows.laid_hangfire_destruct_errFar), ("hangfire/destruct.errLong", Rows.laid_hangfire_destruct_errLong)]
theorem gFar : Tryz.prog.globalNamed "hangfire/destruct.errFar" = some 0 := by kernel_rfl
theorem gLong : Tryz.prog.globalNamed "hangfire/destruct.errLong" = some 1 := by kernel_rfl
theorem tFar : (Tryz.prog.globals[0]?).map (·.type) = some 72 := by kernel_rfl
theorem tLong : (Tryz.prog.globals[1]?).map (·.type) = some 72 := by kernel_rfl
theorem door_met (os : Os) (args : Array Value) : laidMetH Tryz.prog laidE ((World.doorLaid Tryz.prog 400 os).forCall (fun _ _ => 0) ⟨#[], args, []⟩).memory :=
 laidMetH_of_parts3 (fuel := 8) (laidMet_of_run' 8 (by kernel_rfl) (by kernel_rfl)) (by kernel_rfl) (by kernel_rfl)
theorem of_laid {W : World} (h : laidMetH Tryz.prog laidE W) : ∃ aF aL, ErrR W 0 1 194 aF aL := by
 rw [MakeChecks.laidMetH_plain _ _ _ (by kernel_rfl)] at h
 have hr : ∀ u, Tryz.prog.typeName? 3 u = some "*errors.errorString" → u = 194 := fun u hu =>
  typeName_ptr_named (nm := "errors.errorString") (by kernel_rfl) (by kernel_rfl) (by decide) u hu
 obtain ⟨a0, a1, s0, s1, c0, c1, t0, t1, hv0, hv1, _, _, _, _, _, _, hne, hb0, hb1⟩ := laid_sentinels2 h gFar tFar gLong tLong Tryz.underlying72 hr Tryz.underlying194 Tryz.underlying220 rfl rfl Tryz.underlying9 (by kernel_rfl) (by kernel_rfl)
 exact ⟨a0, a1, by simpa using World.var?_cell gFar hv0 0, by simpa using World.var?_cell gLong hv1 0, hne, ⟨c0, t0, hb0⟩, ⟨c1, t1, hb1⟩⟩

theorem destructSides_lifted (os : Os) (started : os.Started) (H : Type) (enc : TypeId × Value → H) :
  ReturnsInHanded {} Tryz.checked os 6 .any (fun w args => (Rows.destructSidesSpec.pre enc Tryz.prog Tryz.f6 Rows.destructSidesRow.domain false w args ∧ laidMetH Tryz.prog laidE w) ∧ sizedMet enc Tryz.prog Tryz.f6 (OpenSpec.ofChange Rows.destructSidesSpec) false w args)
   (Rows.destructSidesSpec.post enc Tryz.prog Tryz.f6 false true false false) := by
 refine returnsInHanded_of_change_and (C := Tryz.checked) (X := fun w _ => laidMetH Tryz.prog laidE w) (fun _ _ _ hh h => h.of_heap hh) own_ started (by kernel_rfl) Tryz.func6
  (ChangeSpec.witness_shaped (enc := enc) (C := Tryz.checked) (os := os) (X := fun w _ => laidMetH Tryz.prog laidE w) false (World.doorLaid Tryz.prog 400 os) #[.agg #[.slice none 0 0, .int .i64 0, .int .i64 0, .int .i64 0, .int .i64 0], .agg #[.int .i64 0, .int .i64 0, .int .i64 0, .int .i64 0]] 8 rfl (World.shaped_of_RefB (by kernel_rfl) (by kernel_rfl)) (by kernel_rfl) (by kernel_rfl) (by kernel_rfl) (door_met os _)) ?_
 intro W base args ds gs before hval0 hW _ _ hL _
 have hval : ∀ (j : Nat) t v, Tryz.f6.params[j]? = some t → args[j]? = some v → Value.okWide Tryz.prog W .any base t v := hval0
 have hW' := hW
 obtain ⟨pA, pB, hA0, hV, rfl, _, _⟩ := hW
 have hA : DataW.TrodAll enc Tryz.prog W 0 (fun _ => true) true Tryz.f6.params.toList args.toList ds pA := hA0
 clear hA0 hval0
 rw [Tryz.params6] at hA hval
 obtain ⟨rfl, rfl⟩ := trodVars_none hV
 obtain ⟨v0, vs0, d0, ds0, p0, q0, ea0, rfl, rfl, h0, hA0⟩ := trodAll_cons hA
 obtain ⟨v1, vs1, d1, ds1, p1, q1, ea1, rfl, rfl, h1, hA1⟩ := trodAll_cons hA0
 obtain ⟨rfl, rfl, rfl⟩ := trodAll_nil hA1
 subst ea1
 have ea : args = #[v0, v1] := Array.toList_inj.1 ea0
 subst ea
 have k0 := hval 0 _ v0 rfl rfl
 have k1 := hval 1 _ v1 rfl rfl
 obtain ⟨aF, aL, hE⟩ := of_laid hL
 obtain ⟨p, hP⟩ := open_plan (P := Tryz.prog) (by kernel_rfl) k0 h0
 obtain ⟨x0, x1, x2, x3, rfl, _, _, _, _⟩ := open_ints4 (P := Tryz.prog) (by kernel_rfl) k1 h1
 refine (calls_of (destructSides_c x0 x1 x2 x3 p _ aF aL W hE hP)).mono ?_
 rintro _ W' ⟨_, rfl, rfl, hX⟩
 exact ⟨_, rfl, post_true hW' rfl hX (by kernel_rfl) (by kernel_rfl) rfl rfl rfl (by kernel_rfl) Tryz.underlying4⟩

theorem destructSides_row : Rows.DestructSidesSaid :=
 OpenClaim.holds_of_wide 6 Tryz.f6 rfl rfl rfl rfl rfl rfl rfl ⟨rfl, rfl, rfl, rfl, rfl⟩ rfl rfl rfl rfl rfl (by kernel_rfl) Tryz.func6 (by kernel_rfl)
  (of_decide_eq_true (by kernel_rfl)) (by unfold Func.isWrapper; first | (rw [if_pos (by decide +kernel)]; kernel_rfl) | (rw [if_neg (by decide +kernel)]; exact ⟨rfl, rfl⟩))
  (fun os started H enc _ => destructSides_lifted os started H enc)

theorem destructSides_holds : Rows.DestructSidesCardSaid :=
 Claim7.holds_tied_plain_at .later [] [.sentinel, .sentinel] true (true, "45daf5a72e1417c27e7b53707ddfea4b3edd868a729209c8431d788981e9d69c") true
  destructSides_row (fun _ h => by cases h) (by kernel_rfl) (fun _ h => by cases h) destructSides_row_tie rfl ⟨rfl, rfl⟩ (by kernel_rfl) rfl
  (fun f fn hf hfn => by
   obtain rfl : f = 6 := Option.some.inj ((show Tryz.prog.funcNamed "hangfire/hangfirelaw06.DestructSides" = some 6 by kernel_rfl).symm.trans hf) |>.symm
   obtain rfl : fn = Tryz.f6 := (Option.some.inj (Tryz.func6.symm.trans hfn)).symm
   exact ⟨by kernel_rfl, fun j t ht => by
    rw [Tryz.params6] at ht
    have hm : t ∈ [26, 30] := by simpa using Array.mem_of_getElem? ht
    have hall : ([26, 30].all fun u => !Tryz.prog.wantsStandIn u) = true := by kernel_rfl
    exact (show Tryz.prog.wantsStandIn t = false by simpa using List.all_eq_true.1 hall t hm)⟩)
  (by kernel_rfl)
#print axioms destructSides_holds

end Go.Proofs.YtlcccpeelombbaaGreatDoor
