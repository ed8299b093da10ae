/- Ytclbbchehjapjab: the reference's Gaps, and lists of gaps compared. -/
import Derived.Test.YtclbbchehjapjabT18
import Derived.Test.YtclbbchehjapjabT19
set_option linter.all false
namespace Go.Proofs.Ytclbbchehjapjab
open Go.Vc Go.Tk
set_option maxRecDepth 100000
theorem lgaps_c (a : List (Int × Int)) (va vb : Value) (w : World) (ha : SliceR w 2 va (a.map gapC)) (hb : SliceR w 2 vb (a.map gapC)) (hl : (a.length : Int) ≤ 9223372036854775806) : FnP Try.prog 31 [va, vb] w (.bool true) := by
  obtain ⟨aa, ca, rfl, hca, hae⟩ := ha.ex
  obtain ⟨ab, cb, rfl, hcb, hbe⟩ := hb.ex
  simp only [List.length_map] at hca hcb ⊢
  refine fn_pure Try.func31 rfl (by kernel_rfl) Try.ntmps31 Try.results31 rfl ?_
  refine V_seq (V_region rfl ?_)
  refine L_go rfl (X_p (p_assign rfl rfl) ?_)
  refine L_then (.cons (k := 0) rfl (.cons (k := 1) rfl .nil)) ?_
  refine V_seq ?_
  refine V_seq (V_region rfl ?_)
  refine L_go rfl (X_p (p_move rfl rfl) ?_)
  refine L_go rfl (X_p (p_len isl43 rfl rfl) ?_)
  refine L_go rfl (X_p (p_move rfl rfl) ?_)
  refine L_go rfl (X_p (p_len isl43 rfl rfl) ?_)
  refine L_go rfl (X_p (p_neq rfl rfl rfl) ?_)
  refine L_then (.cons (k := 0) rfl (.cons (k := 1) rfl (.cons (k := 10) rfl .nil))) ?_
  refine V_cond_f rfl (by simp) ?_
  refine V_skip (then_n ?_)
  refine V_seq ?_
  refine V_seq (V_region rfl ?_)
  refine L_go rfl (X_p (p_assign rfl rfl) ?_)
  refine L_then (.cons (k := 0) rfl (.cons (k := 1) rfl (.cons (k := 5) rfl .nil))) ?_
  refine V_block ?_
  refine V_loop0 (γ := Int) (.cons (k := 0) rfl (.cons (k := 1) rfl .nil)) (fun k => [(5, .int .i64 k)]) (fun k => 0 ≤ k ∧ k ≤ a.length) (fun k => (a.length - k).toNat) (0) (.cons rfl (.nil _)) (⟨by omega, by omega⟩) ?_
  rintro k hi
  obtain ⟨hk0, hk1⟩ := hi
  refine V_seq ?_
  refine V_seq (V_region rfl ?_)
  refine L_go rfl (X_p (p_move rfl rfl) ?_)
  refine L_go rfl (X_p (p_move rfl rfl) ?_)
  refine L_go rfl (X_p (p_len isl43 rfl rfl) ?_)
  refine L_go rfl (X_p (p_lss rfl rfl rfl) ?_)
  refine L_then (.cons (k := 0) rfl (.cons (k := 1) rfl (.cons (k := 5) rfl (.cons (k := 14) rfl .nil)))) ?_
  refine V_cond rfl ?_ ?_
  · intro c1; try simp only [td] at c1
    obtain ⟨xa, rfl, hxa⟩ := hae k.toNat _ (getD_cells (f := gapC) (d := (0, 0)) (by omega))
    obtain ⟨xb, rfl, hxb⟩ := hbe k.toNat _ (getD_cells (f := gapC) (d := (0, 0)) (by omega))
    refine V_skip (then_n ?_)
    refine V_seq ?_
    refine V_block ?_
    refine V_seq (V_draw (.rd 0 (.rd 1 (.rd 2 (.rd 3 (.rd 4 (.rd 5 (.rd 6 (.rd 7 (.rd 8 .done))))))))) mixed (by kernel_rfl) rfl ?_)
    refine D_p rfl (.plain rfl) (p_move rfl rfl) ?_
    refine D_p rfl (.plain rfl) (p_move rfl rfl) ?_
    refine D_p rfl (.plain rfl) (p_idx es43 rfl rfl rfl (by omega) (by omega)) ?_
    refine D_rd rfl (.plain rfl) (r_loadBA ag47 sz47 rfl rfl hxa rfl List.not_mem_nil) ?_
    refine D_p rfl (.plain rfl) (p_move rfl rfl) ?_
    refine D_p rfl (.plain rfl) (p_move rfl rfl) ?_
    refine D_p rfl (.plain rfl) (p_idx es43 rfl rfl rfl (by omega) (by omega)) ?_
    refine D_rd rfl (.plain rfl) (r_loadBA ag47 sz47 rfl rfl hxb rfl List.not_mem_nil) ?_
    refine D_p rfl (.plain rfl) (p_neS lv47 ag47 eg47 rfl rfl rfl rfl rfl) ?_
    refine D_then (.cons (k := 0) rfl (.cons (k := 1) rfl (.cons (k := 5) rfl (.cons (k := 25) rfl .nil)))) ?_
    refine V_cond_f rfl (by simp [eqL, eqv, gapC]) ?_
    refine V_skip (blk_n (then_n ?_))
    refine V_region rfl ?_
    refine L_go rfl (X_p (p_move rfl rfl) ?_)
    first | refine L_go rfl (X_p (p_add' rfl rfl rfl (by unfold InI; omega)) ?_) | refine L_go rfl (X_p (p_add rfl rfl rfl) ?_)
    refine L_go rfl (X_p (p_assign rfl rfl) ?_)
    refine L_keep (.cons (k := 0) rfl (.cons (k := 1) rfl (.cons (k := 5) rfl .nil))) (then_n ?_)
    refine ⟨k + 1, ?_, ?_, (.cons rfl (.cons rfl (.cons rfl (.nil _)))), (by repeat (first | exact List.Sublist.refl _ | apply List.Sublist.cons_cons | apply List.Sublist.cons | apply List.sublist_append_of_sublist_right)), rfl⟩
    · exact ⟨by omega, by omega⟩
    · omega
  · intro c1; try simp only [td] at c1
    refine V_exit (then_e (then_e (blk_e rfl (then_n ?_))))
    refine V_seq (V_region rfl ?_)
    refine L_go rfl (X_p (p_assign rfl rfl) ?_)
    refine L_then (.cons (k := 4) rfl .nil) ?_
    refine V_ret ?_
    refine Leave.nil (.tmp rfl .nil) ?_
    rfl

end Go.Proofs.Ytclbbchehjapjab
