/- Ytbncegfgjbdheaa: FlightChecks is proved: for any vehicle and direction (no condition) it returns true. -/
import Derived.Test.YtbncegfgjbdheaaRows
import Derived.Test.YtbncegfgjbdheaaZal
import Derived.Test.YtbncegfgjbdheaaZaf
import Derived.ProofKit
set_option linter.all false
namespace Go.Proofs.Ytbncegfgjbdheaa
open Go.Vc Go.Tk Go.Fl Go.ChangeShapes Go.WideShapes Go.ChangeAt Go.RowKit
set_option maxRecDepth 100000
theorem flightChecks_c (d : Dir) (v : Veh) (x : Value) (w : World) (hv : VehR w x v) : FnP Try.prog 3 [x, .agg #[.int .i64 d.x, .int .i64 d.y, .int .i64 d.z]] w (.bool true) := by
 have hV := hv
 obtain ⟨av, pv, qv, rfl, hsa, hsp, hsq⟩ := hv.ex
 refine fn_pure Try.func3 rfl (by kernel_rfl) Try.ntmps3 Try.results3 rfl ?_
 refine Vs rfl ?_
 refine Lw rfl (w_box rfl rfl) ?_
 rintro _ _ ⟨b1, hb1, rfl, rfl⟩
 refine Lw rfl (w_box rfl rfl) ?_
 rintro _ _ ⟨b2, hb2, rfl, rfl⟩
 refine La rfl rfl rfl ?_
 refine L_then (kp [2, 3] rfl) ?_
 refine Vs rfl ?_
 refine Lr rfl (rlA (vs := [_, _, _, _, _, _]) ag28 sz28 rfl rfl rfl) ?_
 refine Lc rfl rfl rfl rfl (fun w hg => fcheck_c v _ w (hV.good hg)) ?_
 refine Lm rfl rfl rfl ?_
 iterate 3 refine Lp rfl (p_ext rfl rfl rfl) ?_
 iterate 3 refine La rfl rfl rfl ?_
 refine L_then (kp [2, 3, 5, 6, 7] rfl) ?_
 refine Vs rfl ?_
 refine Lr rfl (rlA (vs := [_, _, _, _, _, _]) ag28 sz28 rfl rfl rfl) ?_
 refine Lc rfl rfl rfl rfl (fun w hg => rCheck_c v _ w (hV.good hg)) ?_
 refine Lm rfl rfl rfl ?_
 iterate 3 refine Lp rfl (p_ext rfl rfl rfl) ?_
 iterate 3 refine La rfl rfl rfl ?_
 refine L_then (kp [3, 5, 6, 7, 8, 9, 10] rfl) ?_
 refine V_seq (V_draw (.rd 0 (.rd 1 (.rd 2 (.rd 3 (.rd 4 (.rd 5 (.rd 6 (.rd 7 (.rd 8 (.rd 9 (.rd 10 (.rd 11 (.rd 12 (.rd 13 (.rd 14 (.rd 16 (.wr 15 [16, 12, 11, 10, 9, 8, 7, 6, 5, 4, 3, 2, 1, 0] (.wr 17 [14, 12, 11, 10, 9, 8, 7, 6, 5, 4, 3, 2, 1, 0] (.rd 18 (.rd 19 (.rd 20 (.wr 21 [19, 18, 16, 14, 13, 12, 11, 10, 9, 8, 7, 6, 5, 4, 3, 2, 1, 0] (.rd 22 (.rd 23 .done)))))))))))))))))))))))) mixed (by kernel_rfl) rfl ?_)
 iterate 2 refine Dm rfl rfl rfl rfl ?_
 refine Dp rfl rfl (p_eql rfl rfl rfl) ?_
 refine Dm rfl rfl rfl rfl ?_
 iterate 2 refine D_p rfl (.yes rfl rfl rfl (by first | rfl | simp | decide)) (p_move rfl rfl) ?_
 refine D_p rfl (.yes rfl rfl rfl (by first | rfl | simp | decide)) (p_eql rfl rfl rfl) ?_
 refine Dp rfl rfl (p_pick_t rfl rfl (by first | rfl | simp | decide) rfl) ?_
 refine Dm rfl rfl rfl rfl ?_
 iterate 2 refine D_p rfl (.yes rfl rfl rfl (by first | rfl | simp | decide)) (p_move rfl rfl) ?_
 refine D_p rfl (.yes rfl rfl rfl (by first | rfl | simp | decide)) (p_eql rfl rfl rfl) ?_
 refine Dp rfl rfl (p_pick_t rfl rfl (by first | rfl | simp | decide) rfl) ?_
 refine Dm rfl rfl rfl rfl ?_
 iterate 2 refine D_rd rfl (.yes rfl rfl rfl (by first | rfl | simp | decide)) (rlA (vs := [_, _, _]) ag30 sz30 rfl rfl rfl) ?_
 refine D_wr (.go (E' := [(16, _)]) rfl (.yes rfl rfl rfl (by first | rfl | simp | decide)) (w_callP rfl rfl rfl (fun w hg => fdir_c d w)) rfl ?_)
 rintro _ _ ⟨rfl, rfl⟩
 refine ⟨(.cons rfl (.yes rfl rfl rfl (by first | rfl | simp | decide)) (rlA (vs := [_, _, _]) ag30 sz30 rfl rfl rfl) .nil), ?_⟩
 refine D_wr (.go (E' := []) rfl (.yes rfl rfl rfl (by first | rfl | simp | decide)) (w_callP rfl rfl rfl (fun w hg => rCheckDir_c d w)) rfl ?_)
 rintro _ _ ⟨rfl, rfl⟩
 refine ⟨.nil, ?_⟩
 refine D_p rfl (.yes rfl rfl rfl (by first | rfl | simp | decide)) (p_eql rfl rfl rfl) ?_
 refine Dp rfl rfl (p_pick_t rfl rfl (by first | rfl | simp | decide) rfl) ?_
 refine Dm rfl rfl rfl rfl ?_
 refine D_wr (.go (E' := []) rfl (.yes rfl rfl rfl (by first | rfl | simp | decide)) (w_callP rfl rfl rfl (fun w hg => lAwake_c w)) rfl ?_)
 rintro _ _ ⟨rfl, rfl⟩
 refine ⟨.nil, ?_⟩
 refine Dp rfl rfl (p_pick_t rfl rfl (by first | rfl | simp | decide) rfl) ?_
 refine Dp rfl rfl (p_assign rfl rfl) ?_
 refine D_then (kp [4] rfl) ?_
 refine V_ret ?_
 refine Leave.nil (.tmp rfl .nil) ?_
 rfl

theorem own_ : ownKnob Try.prog.godebug = none := by kernel_rfl

theorem flightChecks_lifted (os : Os) (started : os.Started) (H : Type) (enc : TypeId × Value → H) :
  ReturnsInHanded {} Try.checked os 3 .any (Rows.flightChecksSpec.pre6 enc Try.prog Try.f3 Rows.flightChecksRow.domain false) (Rows.flightChecksSpec.post enc Try.prog Try.f3 false true false false) := by
 refine returnsInHanded_of_change (C := Try.checked) own_ started (by kernel_rfl) Try.func3
  (ChangeSpec.witness6 (enc := enc) (C := Try.checked) false ⟨#[], #[.agg #[.string ByteArray.empty, .int .i64 0, .int .i64 0, .slice none 0 0, .slice none 0 0, .slice none 0 0], .agg #[.int .i64 0, .int .i64 0, .int .i64 0]], []⟩ 8 (by kernel_rfl) (by kernel_rfl) (by kernel_rfl) (by kernel_rfl)) ?_
 intro W base args ds gs before hval0 hW hcnd _
 have hval : ∀ (j : Nat) t v, Try.f3.params[j]? = some t → args[j]? = some v → Value.okWide Try.prog W .any base t v := hval0
 have hW' := hW
 obtain ⟨pA, pB, hA0, hV, rfl, _, _⟩ := hW
 have hA : DataW.TrodAll enc Try.prog W 0 (fun _ => true) true Try.f3.params.toList args.toList ds pA := hA0
 clear hA0 hval0
 rw [Try.params3] at hA hval
 obtain ⟨rfl, rfl⟩ := trodVars_none hV
 obtain ⟨v0, vs0, d0, ds0, p0, q0, ea0, rfl, rfl, h0, hA0⟩ := trodAll_cons hA
 obtain ⟨v1, vs1, d1, ds1, p1, q1, ea1, rfl, rfl, h1, hA1⟩ := trodAll_cons hA0
 obtain ⟨rfl, rfl, rfl⟩ := trodAll_nil hA1
 subst ea1
 have ea : args = #[v0, v1] := Array.toList_inj.1 ea0
 subst ea
 have k0 := hval 0 _ v0 rfl rfl
 have k1 := hval 1 _ v1 rfl rfl
 obtain ⟨v, hv⟩ := open_veh (P := Try.prog) (by kernel_rfl) k0 h0
 obtain ⟨x0, x1, x2, rfl⟩ := open_ints3 (P := Try.prog) (by kernel_rfl) k1 h1
 refine (calls_of (flightChecks_c ⟨x0, x1, x2⟩ v _ W hv)).mono ?_
 rintro _ W' ⟨_, rfl, rfl, hE⟩
 exact ⟨_, rfl, post_true hW' rfl hE (by kernel_rfl) (by kernel_rfl) rfl rfl rfl (by kernel_rfl) Try.underlying4⟩

theorem flightChecks_holds : Rows.FlightChecksSaid :=
 OpenClaim.holds_of_wide 3 Try.f3 rfl rfl rfl rfl rfl rfl rfl ⟨rfl, rfl, rfl, rfl, rfl⟩ rfl rfl rfl rfl rfl (by kernel_rfl) Try.func3 (by kernel_rfl)
  (of_decide_eq_true (by kernel_rfl)) (by unfold Func.isWrapper; first | (rw [if_pos (by decide +kernel)]; kernel_rfl) | (rw [if_neg (by decide +kernel)]; exact ⟨rfl, rfl⟩))
  (fun os started H enc _ => flightChecks_lifted os started H enc)
#print axioms flightChecks_holds

end Go.Proofs.Ytbncegfgjbdheaa
