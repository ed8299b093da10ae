/- Ytclbbchehjapjaa: TrackChecks is proved: for any task (no condition) it returns true. -/
import Derived.Test.YtclbbchehjapjaaRows
import Derived.Test.YtclbbchehjapjaaT12
import Derived.Test.YtclbbchehjapjaaS
import Derived.ProofKit
set_option linter.all false
namespace Go.Proofs.Ytclbbchehjapjaa
open Go.Vc Go.Tk Go.ChangeShapes Go.WideShapes Go.ChangeAt Go.RowKit
set_option maxRecDepth 100000

theorem own_ : ownKnob Try.prog.godebug = none := by kernel_rfl

theorem trackChecks_lifted (os : Os) (started : os.Started) (H : Type) (enc : TypeId × Value → H) :
    ReturnsInHanded {} Try.checked os 3 .any (Rows.trackChecksSpec.pre6 enc Try.prog Try.f3 Rows.trackChecksRow.domain false) (Rows.trackChecksSpec.post enc Try.prog Try.f3 false true false false) := by
  refine returnsInHanded_of_change (C := Try.checked) own_ started (by kernel_rfl) Try.func3
    (ChangeSpec.witness6 (enc := enc) (C := Try.checked) false ⟨#[], #[.agg #[.int .i64 0, .int .i64 0, .int .i64 0, .slice none 0 0, .slice none 0 0]], []⟩ 8 (by kernel_rfl) (by kernel_rfl) (by kernel_rfl) (by kernel_rfl)) ?_
  intro W base args ds gs before hval0 hW hcnd _
  have hval : ∀ (j : Nat) t v, Try.f3.params[j]? = some t → args[j]? = some v → Value.okWide Try.prog W .any base t v := hval0
  have hW' := hW
  obtain ⟨pA, pB, hA0, hV, rfl, _, _⟩ := hW
  have hA : DataW.TrodAll enc Try.prog W 0 (fun _ => true) true Try.f3.params.toList args.toList ds pA := hA0
  clear hA0 hval0
  rw [Try.params3] at hA hval
  obtain ⟨rfl, rfl⟩ := trodVars_none hV
  obtain ⟨v0, vs0, d0, ds0, p0, q0, ea0, rfl, rfl, h0, hA0⟩ := trodAll_cons hA
  obtain ⟨rfl, rfl, rfl⟩ := trodAll_nil hA0
  have ea : args = #[v0] := Array.toList_inj.1 ea0
  subst ea
  have k0 := hval 0 _ v0 rfl rfl
  obtain ⟨T, tv, pv, rfl, hT⟩ := open_task (P := Try.prog) (by kernel_rfl) k0 h0
  refine (calls_of (trackChecks_c T tv pv W hT)).mono ?_
  rintro _ W' ⟨_, rfl, rfl, hE⟩
  exact ⟨_, rfl, post_true hW' rfl hE (by kernel_rfl) (by kernel_rfl) rfl rfl rfl (by kernel_rfl) Try.underlying4⟩

theorem trackChecks_holds : Rows.TrackChecksSaid :=
  OpenClaim.holds_of_wide 3 Try.f3 rfl rfl rfl rfl rfl rfl rfl ⟨rfl, rfl, rfl, rfl, rfl⟩ rfl rfl rfl rfl rfl (by kernel_rfl) Try.func3 (by kernel_rfl)
    (of_decide_eq_true (by kernel_rfl)) (by unfold Func.isWrapper; first | (rw [if_pos (by decide +kernel)]; kernel_rfl) | (rw [if_neg (by decide +kernel)]; exact ⟨rfl, rfl⟩))
    (fun os started H enc _ => trackChecks_lifted os started H enc)
#print axioms trackChecks_holds

end Go.Proofs.Ytclbbchehjapjaa
