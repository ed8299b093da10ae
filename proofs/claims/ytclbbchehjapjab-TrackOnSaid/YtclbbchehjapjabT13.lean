/- Ytclbbchehjapjab: Known; the reference's Width, Known, Reach. -/
import Derived.Test.YtclbbchehjapjabT11
import Derived.Test.YtclbbchehjapjabT
set_option linter.all false
namespace Go.Proofs.Ytclbbchehjapjab
open Go.Vc Go.Tk
set_option maxRecDepth 100000
theorem knownR_c (t : Task) (tv pv : Value) (now : Int) (w : World) (ht : TaskR w (.agg #[.int .i64 t.frm, .int .i64 t.speed, .int .i64 t.accel, tv, pv]) t) : FnC Try.prog 27 [.agg #[.int .i64 t.frm, .int .i64 t.speed, .int .i64 t.accel, tv, pv], .int .i64 now] w fun v w' => ∃ Hc, Vc.Good w [] Hc w' ∧ ∃ A G, Hc = A ++ G ∧ ListOut 3 (knownL t now) (fun sv => .tuple #[sv, .int .i64 (askedT t [now])]) v A G := by
  have hT := ht
  refine fn_new Try.func27 rfl (by kernel_rfl) Try.ntmps27 Try.results27 rfl ?_
  refine V_seq (V_region rfl ?_)
  refine L_go rfl (X_wr (w_box rfl rfl) ?_)
  rintro _ _ ⟨b1, hb1, rfl, rfl⟩
  refine L_go rfl (X_p (p_assign rfl rfl) ?_)
  refine L_go rfl (X_p (p_assign rfl rfl) ?_)
  refine L_then (.cons (k := 1) rfl (.cons (k := 2) rfl .nil)) ?_
  refine V_seq ?_
  refine V_seq (V_region rfl ?_)
  refine L_go rfl (X_rd (r_loadA (vs := [_, _, _, _, _]) ag25 sz25 rfl rfl (by repeat first | exact mH | apply mT) rfl) ?_)
  refine L_go rfl (X_p (p_move rfl rfl) ?_)
  refine L_go rfl (X_wr (w_slice (r := [_]) un27 sz3 zr3 rfl (by decide) rfl (by decide) rfl rfl) ?_)
  rintro _ _ ⟨b2, hb2, rfl, rfl⟩
  refine L_go rfl (X_wr (w_callP rfl rfl rfl (fun w hg => asked_c t [now] _ _ w (hT.good hg) (own_ints (l := [now]) (hg.own (b2, _) (by repeat first | exact mH | apply mT)) rfl (by decide)) (by simp))) ?_)
  rintro _ _ ⟨rfl, rfl⟩
  refine L_go rfl (X_p (p_assign rfl rfl) ?_)
  refine L_then (.cons (k := 1) rfl (.cons (k := 2) rfl (.cons (k := 6) rfl .nil))) ?_
  refine V_seq (V_region rfl ?_)
  refine L_go rfl (X_p (p_move rfl rfl) ?_)
  refine L_go rfl (X_p (p_neq rfl rfl rfl) ?_)
  refine L_then (.cons (k := 1) rfl (.cons (k := 2) rfl (.cons (k := 6) rfl (.cons (k := 12) rfl .nil)))) ?_
  refine V_cond rfl ?_ ?_
  · intro c1; try simp only [td] at c1
    refine V_seq (V_region rfl ?_)
    refine L_go rfl (X_p (p_move rfl rfl) ?_)
    refine L_go rfl (X_p (p_assign rfl rfl) ?_)
    refine L_go rfl (X_p (p_assign rfl rfl) ?_)
    refine L_then (.cons (k := 4) rfl (.cons (k := 5) rfl .nil)) ?_
    refine V_ret (then_r ?_)
    refine Leave.nil (.tmp rfl (.tmp rfl .nil)) ?_
    refine ⟨[], HSub.nil _, [], [], rfl, .slice none 0 0, rfl, rfl, ?_⟩
    rw [knownL_bad c1]; exact .nil
  · intro c1; try simp only [td] at c1
    obtain ⟨hG, hn⟩ := asked_zero c1
    refine V_skip (then_n ?_)
    refine V_seq (V_region rfl ?_)
    refine L_go rfl (X_rd (r_loadA (vs := [_, _, _, _, _]) ag25 sz25 rfl rfl (by repeat first | exact mH | apply mT) rfl) ?_)
    refine L_go rfl (X_p (p_move rfl rfl) ?_)
    refine L_go rfl (X_wr (w_callG (pre := [_, _]) (post := []) rfl rfl rfl (by rw [List.append_nil]) (fun w hg => pickOf_c t hG _ _ now (fun _ => true) _ _ w (hT.good hg) (fun x w' he => all_c x w'))) ?_)
    rintro _ _ ⟨_, G, rfl, hfr, bp, bm, sv, clk, rfl, rfl, hgr⟩
    try simp only [List.cons_append, List.nil_append, List.append_nil]
    refine L_go rfl (X_p (p_nil rfl rfl) ?_)
    refine L_go rfl (X_p (p_fieldo fo120_1 rfl rfl) ?_)
    refine L_go rfl (X_rd (r_load ag27 rfl rfl (by repeat first | exact mH | apply mT) rfl) ?_)
    refine L_go rfl (X_p (p_assign rfl rfl) ?_)
    refine L_go rfl (X_p (p_assign rfl rfl) ?_)
    refine L_then (.cons (k := 4) rfl (.cons (k := 5) rfl .nil)) ?_
    refine V_ret ?_
    refine Leave.nil (.tmp rfl (.tmp rfl .nil)) ?_
    refine ⟨G, (by (try dsimp only); repeat (first | exact HSub.nil _ | refine HSub.take (by repeat first | exact Take.head | apply Take.tail) ?_ | exact HSub.refl _ | refine HSub.drop ?_ | refine HSub.app ?_)), [], G, rfl, sv, rfl, ?_, ?_⟩
    · rw [c1]; rfl
    · rw [knownL_ok c1]; exact hgr
theorem rvalid_c (t : Task) (v : Value) (w : World) (ht : TaskR w v t) : FnP Try.prog 51 [v] w (.int .i64 (checkT t).2.2) := by
  have hT := ht
  obtain ⟨tv, pv, rfl, htr, hpl⟩ := ht.ex
  obtain ⟨ta, tc, rfl, htc, hte⟩ := htr.ex
  obtain ⟨pa, pc, rfl, hpc, hpe⟩ := hpl.ex
  have hltr := hT.ltr
  have hlpl := hT.lpl
  simp only [List.length_map] at hT htc hpc ⊢
  refine fn_pure Try.func51 rfl (by kernel_rfl) Try.ntmps51 Try.results51 rfl ?_
  refine V_seq (V_region rfl ?_)
  refine L_go rfl (X_wr (w_box rfl rfl) ?_)
  rintro _ _ ⟨b1, hb1, rfl, rfl⟩
  refine L_go rfl (X_p (p_assign rfl rfl) ?_)
  refine L_then (.cons (k := 1) rfl .nil) ?_
  refine V_seq (V_region rfl ?_)
  refine L_go rfl (X_rd (r_loadA (vs := [_, _, _, _, _]) ag25 sz25 rfl rfl (by repeat first | exact mH | apply mT) rfl) ?_)
  refine L_go rfl (X_wr (w_callP rfl rfl rfl (fun w hg => rcheck_c t _ w (hT.good hg))) ?_)
  rintro _ _ ⟨rfl, rfl⟩
  refine L_go rfl (X_p (p_move rfl rfl) ?_)
  refine L_go rfl (X_p (p_ext rfl rfl rfl) ?_)
  refine L_go rfl (X_p (p_ext rfl rfl rfl) ?_)
  refine L_go rfl (X_p (p_ext rfl rfl rfl) ?_)
  refine L_go rfl (X_p (p_assign rfl rfl) ?_)
  refine L_go rfl (X_p (p_assign rfl rfl) ?_)
  refine L_go rfl (X_p (p_assign rfl rfl) ?_)
  refine L_then (.cons (k := 5) rfl .nil) ?_
  refine V_seq (V_region rfl ?_)
  refine L_go rfl (X_p (p_move rfl rfl) ?_)
  refine L_go rfl (X_p (p_assign rfl rfl) ?_)
  refine L_then (.cons (k := 2) rfl .nil) ?_
  refine V_ret ?_
  refine Leave.nil (.tmp rfl .nil) ?_
  rfl
theorem rsize_c (n : Int) (hn : -1000000000000000000 ≤ n ∧ n ≤ 1000000000000000000) (w : World) : FnP Try.prog 48 [.int .i64 n] w (.int .i64 (max n (-n))) := by
  refine fn_pure Try.func48 rfl (by kernel_rfl) Try.ntmps48 Try.results48 rfl ?_
  refine V_seq (V_region rfl ?_)
  refine L_go rfl (X_p (p_assign rfl rfl) ?_)
  refine L_then (.cons (k := 0) rfl .nil) ?_
  refine V_seq (V_region rfl ?_)
  refine L_go rfl (X_p (p_move rfl rfl) ?_)
  refine L_go rfl (X_p (p_move rfl rfl) ?_)
  first | refine L_go rfl (X_p (p_neg' rfl rfl (by unfold InI; omega)) ?_) | refine L_go rfl (X_p (p_neg rfl rfl) ?_)
  refine L_go rfl (X_p (p_max rfl rfl rfl) ?_)
  refine L_go rfl (X_p (p_assign rfl rfl) ?_)
  refine L_then (.cons (k := 2) rfl .nil) ?_
  refine V_ret ?_
  refine Leave.nil (.tmp rfl .nil) ?_
  rfl
theorem ints_c (a b : List Int) (va vb : Value) (w : World) (ha : SliceR w 1 va (a.map fun n => [Value.int .i64 n])) (hb : SliceR w 1 vb (b.map fun n => [Value.int .i64 n])) (hl : (a.length : Int) ≤ 9223372036854775806) (hl2 : (b.length : Int) ≤ 9223372036854775806) : FnP Try.prog 29 [va, vb] w (.bool (decide (a = b))) := by
  obtain ⟨aa, ca, rfl, hca, hae⟩ := ha.ex
  obtain ⟨ab, cb, rfl, hcb, hbe⟩ := hb.ex
  simp only [List.length_map] at hca hcb ⊢
  refine fn_pure Try.func29 rfl (by kernel_rfl) Try.ntmps29 Try.results29 rfl ?_
  refine V_seq (V_region rfl ?_)
  refine L_go rfl (X_p (p_assign rfl rfl) ?_)
  refine L_then (.cons (k := 0) rfl (.cons (k := 1) rfl .nil)) ?_
  refine V_seq ?_
  refine V_seq (V_region rfl ?_)
  refine L_go rfl (X_p (p_move rfl rfl) ?_)
  refine L_go rfl (X_p (p_len isl27 rfl rfl) ?_)
  refine L_go rfl (X_p (p_move rfl rfl) ?_)
  refine L_go rfl (X_p (p_len isl27 rfl rfl) ?_)
  refine L_go rfl (X_p (p_neq rfl rfl rfl) ?_)
  refine L_then (.cons (k := 0) rfl (.cons (k := 1) rfl (.cons (k := 10) rfl .nil))) ?_
  refine V_cond rfl ?_ ?_
  · intro c1; try simp only [td] at c1
    refine V_seq (V_region rfl ?_)
    refine L_go rfl (X_p (p_assign rfl rfl) ?_)
    refine L_then (.cons (k := 4) rfl .nil) ?_
    refine V_ret (then_r ?_)
    refine Leave.nil (.tmp rfl .nil) ?_
    have e : decide (a = b) = false := decide_eq_false (by rintro rfl; omega)
    rw [e]; rfl
  · intro c1; try simp only [td] at c1
    refine V_skip (then_n ?_)
    refine V_seq ?_
    refine V_seq (V_region rfl ?_)
    refine L_go rfl (X_p (p_assign rfl rfl) ?_)
    refine L_then (.cons (k := 0) rfl (.cons (k := 1) rfl (.cons (k := 5) rfl .nil))) ?_
    refine V_block ?_
    refine V_loop0 (γ := Int) (.cons (k := 0) rfl (.cons (k := 1) rfl .nil)) (fun k => [(5, .int .i64 k)]) (fun k => 0 ≤ k ∧ k ≤ a.length ∧ ∀ j : Nat, (j : Int) < k → a.getD j 0 = b.getD j 0) (fun k => (a.length - k).toNat) (0) (.cons rfl (.nil _)) (⟨by omega, by omega, fun j hj => by omega⟩) ?_
    rintro k hi
    obtain ⟨hk0, hk1, hkp⟩ := hi
    refine V_seq ?_
    refine V_seq (V_region rfl ?_)
    refine L_go rfl (X_p (p_move rfl rfl) ?_)
    refine L_go rfl (X_p (p_move rfl rfl) ?_)
    refine L_go rfl (X_p (p_len isl27 rfl rfl) ?_)
    refine L_go rfl (X_p (p_lss rfl rfl rfl) ?_)
    refine L_then (.cons (k := 0) rfl (.cons (k := 1) rfl (.cons (k := 5) rfl (.cons (k := 14) rfl .nil)))) ?_
    refine V_cond rfl ?_ ?_
    · intro c2; try simp only [td] at c2
      obtain ⟨xa, rfl, hxa⟩ := hae k.toNat _ (getD_cells (f := fun n : Int => [Value.int .i64 n]) (d := 0) (by omega))
      obtain ⟨xb, rfl, hxb⟩ := hbe k.toNat _ (getD_cells (f := fun n : Int => [Value.int .i64 n]) (d := 0) (by omega))
      refine V_skip (then_n ?_)
      refine V_seq ?_
      refine V_block ?_
      refine V_seq (V_draw (.rd 0 (.rd 1 (.rd 2 (.rd 3 (.rd 4 (.rd 5 (.rd 6 (.rd 7 (.rd 8 .done))))))))) mixed (by kernel_rfl) rfl ?_)
      refine D_p rfl (.plain rfl) (p_move rfl rfl) ?_
      refine D_p rfl (.plain rfl) (p_move rfl rfl) ?_
      refine D_p rfl (.plain rfl) (p_idx es27 rfl rfl rfl (by omega) (by omega)) ?_
      refine D_rd rfl (.plain rfl) (r_loadB ag3 rfl rfl (hxa.zero) List.not_mem_nil) ?_
      refine D_p rfl (.plain rfl) (p_move rfl rfl) ?_
      refine D_p rfl (.plain rfl) (p_move rfl rfl) ?_
      refine D_p rfl (.plain rfl) (p_idx es27 rfl rfl rfl (by omega) (by omega)) ?_
      refine D_rd rfl (.plain rfl) (r_loadB ag3 rfl rfl (hxb.zero) List.not_mem_nil) ?_
      refine D_p rfl (.plain rfl) (p_neq rfl rfl rfl) ?_
      refine D_then (.cons (k := 0) rfl (.cons (k := 1) rfl (.cons (k := 5) rfl (.cons (k := 25) rfl .nil)))) ?_
      refine V_cond rfl ?_ ?_
      · intro c3; try simp only [td] at c3
        refine V_seq (V_region rfl ?_)
        refine L_go rfl (X_p (p_assign rfl rfl) ?_)
        refine L_then (.cons (k := 4) rfl .nil) ?_
        refine V_ret (blk_r (then_r (then_r (blk_r (then_r ?_)))))
        refine Leave.nil (.tmp rfl .nil) ?_
        rw [ints_ne c3]; rfl
      · intro c3; try simp only [td] at c3
        refine V_skip (blk_n (then_n ?_))
        refine V_region rfl ?_
        refine L_go rfl (X_p (p_move rfl rfl) ?_)
        first | refine L_go rfl (X_p (p_add' rfl rfl rfl (by unfold InI; omega)) ?_) | refine L_go rfl (X_p (p_add rfl rfl rfl) ?_)
        refine L_go rfl (X_p (p_assign rfl rfl) ?_)
        refine L_keep (.cons (k := 0) rfl (.cons (k := 1) rfl (.cons (k := 5) rfl .nil))) (then_n ?_)
        refine ⟨k + 1, ?_, ?_, (.cons rfl (.cons rfl (.cons rfl (.nil _)))), (by repeat (first | exact List.Sublist.refl _ | apply List.Sublist.cons_cons | apply List.Sublist.cons | apply List.sublist_append_of_sublist_right)), rfl⟩
        · refine ⟨by omega, by omega, fun j hj => ?_⟩; by_cases e : (j : Int) < k
          · exact hkp j e
          · have ej : j = k.toNat := by omega
            rw [ej]; exact c3
        · omega
    · intro c2; try simp only [td] at c2
      refine V_exit (then_e (then_e (blk_e rfl (then_n ?_))))
      refine V_seq (V_region rfl ?_)
      refine L_go rfl (X_p (p_assign rfl rfl) ?_)
      refine L_then (.cons (k := 4) rfl .nil) ?_
      refine V_ret ?_
      refine Leave.nil (.tmp rfl .nil) ?_
      have e : a = b := ints_eq (by omega) (fun j hj => hkp j (by omega))
      rw [decide_eq_true e]; rfl
theorem ints_same (a : List Int) (va vb : Value) (w : World) (ha : SliceR w 1 va (a.map fun n => [Value.int .i64 n])) (hb : SliceR w 1 vb (a.map fun n => [Value.int .i64 n])) (hl : (a.length : Int) ≤ 9223372036854775806) : FnP Try.prog 29 [va, vb] w (.bool true) := by
  have h := ints_c a a va vb w ha hb hl hl
  rwa [decide_eq_true rfl] at h

end Go.Proofs.Ytclbbchehjapjab
