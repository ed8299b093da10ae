/- Ytclbbchehjapjab: what the small functions of packages track, wind and slices compute, and the checks of a task. -/
import Derived.Test.YtclbbchehjapjabTy
import Derived.Test.YtclbbchehjapjabM
set_option linter.all false
namespace Go.Proofs.Ytclbbchehjapjab
open Go.Vc Go.Tk
set_option maxRecDepth 100000
theorem out_c (n lo hi : Int) (w : World) : FnP Try.prog 39 [.int .i64 n, .int .i64 lo, .int .i64 hi] w (.bool (oP n lo hi)) := by
  refine fn_pure Try.func39 rfl (by kernel_rfl) Try.ntmps39 Try.results39 rfl ?_
  refine V_seq (V_region rfl ?_)
  refine L_go rfl (X_p (p_assign rfl rfl) ?_)
  refine L_then (.cons (k := 0) rfl (.cons (k := 1) rfl (.cons (k := 2) rfl .nil))) ?_
  refine V_seq (V_region rfl ?_)
  refine L_go rfl (X_p (p_move rfl rfl) ?_)
  refine L_go rfl (X_p (p_move rfl rfl) ?_)
  refine L_go rfl (X_p (p_lss rfl rfl rfl) ?_)
  refine L_go rfl (X_p (p_move rfl rfl) ?_)
  refine L_cases (d := 10) rfl ?_ ?_
  · intro g1; have g1' := g1; try simp only [td] at g1'
    refine L_no rfl rfl rfl g1 ?_
    refine L_no rfl rfl rfl g1 ?_
    refine L_no rfl rfl rfl g1 ?_
    refine L_go rfl (X_p (p_pick_t rfl rfl g1 rfl) ?_)
    refine L_go rfl (X_p (p_assign rfl rfl) ?_)
    refine L_then (.cons (k := 6) rfl .nil) ?_
    refine V_ret ?_
    refine Leave.nil (.tmp rfl .nil) ?_
    simp [tup, oP, *]
  · intro g1; have g1' := g1; try simp only [td] at g1'
    refine L_yes rfl rfl rfl g1 (X_p (p_move rfl rfl) ?_)
    refine L_yes rfl rfl rfl g1 (X_p (p_move rfl rfl) ?_)
    refine L_yes rfl rfl rfl g1 (X_p (p_gtr rfl rfl rfl) ?_)
    refine L_go rfl (X_p (p_pick_f rfl rfl g1 rfl) ?_)
    refine L_go rfl (X_p (p_assign rfl rfl) ?_)
    refine L_then (.cons (k := 6) rfl .nil) ?_
    refine V_ret ?_
    refine Leave.nil (.tmp rfl .nil) ?_
    simp [tup, oP, *]
theorem wout_c (n lo hi : Int) (w : World) : FnP Try.prog 82 [.int .i64 n, .int .i64 lo, .int .i64 hi] w (.bool (oP n lo hi)) := by
  refine fn_pure Try.func82 rfl (by kernel_rfl) Try.ntmps82 Try.results82 rfl ?_
  refine V_seq (V_region rfl ?_)
  refine L_go rfl (X_p (p_assign rfl rfl) ?_)
  refine L_then (.cons (k := 0) rfl (.cons (k := 1) rfl (.cons (k := 2) rfl .nil))) ?_
  refine V_seq (V_region rfl ?_)
  refine L_go rfl (X_p (p_move rfl rfl) ?_)
  refine L_go rfl (X_p (p_move rfl rfl) ?_)
  refine L_go rfl (X_p (p_lss rfl rfl rfl) ?_)
  refine L_go rfl (X_p (p_move rfl rfl) ?_)
  refine L_cases (d := 10) rfl ?_ ?_
  · intro g1; have g1' := g1; try simp only [td] at g1'
    refine L_no rfl rfl rfl g1 ?_
    refine L_no rfl rfl rfl g1 ?_
    refine L_no rfl rfl rfl g1 ?_
    refine L_go rfl (X_p (p_pick_t rfl rfl g1 rfl) ?_)
    refine L_go rfl (X_p (p_assign rfl rfl) ?_)
    refine L_then (.cons (k := 6) rfl .nil) ?_
    refine V_ret ?_
    refine Leave.nil (.tmp rfl .nil) ?_
    simp [tup, oP, *]
  · intro g1; have g1' := g1; try simp only [td] at g1'
    refine L_yes rfl rfl rfl g1 (X_p (p_move rfl rfl) ?_)
    refine L_yes rfl rfl rfl g1 (X_p (p_move rfl rfl) ?_)
    refine L_yes rfl rfl rfl g1 (X_p (p_gtr rfl rfl rfl) ?_)
    refine L_go rfl (X_p (p_pick_f rfl rfl g1 rfl) ?_)
    refine L_go rfl (X_p (p_assign rfl rfl) ?_)
    refine L_then (.cons (k := 6) rfl .nil) ?_
    refine V_ret ?_
    refine Leave.nil (.tmp rfl .nil) ?_
    simp [tup, oP, *]
theorem rin_c (n lo hi : Int) (w : World) : FnP Try.prog 52 [.int .i64 n, .int .i64 lo, .int .i64 hi] w (.bool (!(oP n lo hi))) := by
  refine fn_pure Try.func52 rfl (by kernel_rfl) Try.ntmps52 Try.results52 rfl ?_
  refine V_seq (V_region rfl ?_)
  refine L_go rfl (X_p (p_assign rfl rfl) ?_)
  refine L_then (.cons (k := 0) rfl (.cons (k := 1) rfl (.cons (k := 2) rfl .nil))) ?_
  refine V_seq (V_region rfl ?_)
  refine L_go rfl (X_p (p_move rfl rfl) ?_)
  refine L_go rfl (X_p (p_move rfl rfl) ?_)
  refine L_go rfl (X_p (p_geq rfl rfl rfl) ?_)
  refine L_go rfl (X_p (p_move rfl rfl) ?_)
  refine L_cases (d := 10) rfl ?_ ?_
  · intro g1; have g1' := g1; try simp only [td] at g1'
    refine L_yes rfl rfl rfl g1 (X_p (p_move rfl rfl) ?_)
    refine L_yes rfl rfl rfl g1 (X_p (p_move rfl rfl) ?_)
    refine L_yes rfl rfl rfl g1 (X_p (p_leq rfl rfl rfl) ?_)
    refine L_go rfl (X_p (p_pick_t rfl rfl g1 rfl) ?_)
    refine L_go rfl (X_p (p_assign rfl rfl) ?_)
    refine L_then (.cons (k := 6) rfl .nil) ?_
    refine V_ret ?_
    refine Leave.nil (.tmp rfl .nil) ?_
    simp only [tup, oP]; congr 1; rw [Bool.eq_iff_iff]; simp; omega
  · intro g1; have g1' := g1; try simp only [td] at g1'
    refine L_no rfl rfl rfl g1 ?_
    refine L_no rfl rfl rfl g1 ?_
    refine L_no rfl rfl rfl g1 ?_
    refine L_go rfl (X_p (p_pick_f rfl rfl g1 rfl) ?_)
    refine L_go rfl (X_p (p_assign rfl rfl) ?_)
    refine L_then (.cons (k := 6) rfl .nil) ?_
    refine V_ret ?_
    refine Leave.nil (.tmp rfl .nil) ?_
    simp only [tup, oP]; congr 1; rw [Bool.eq_iff_iff]; simp; omega
theorem rtick_c (n : Int) (w : World) : FnP Try.prog 45 [.int .i64 n] w (.bool (!(oP n 0 100000))) := by
  refine fn_pure Try.func45 rfl (by kernel_rfl) Try.ntmps45 Try.results45 rfl ?_
  refine V_seq (V_region rfl ?_)
  refine L_go rfl (X_p (p_assign rfl rfl) ?_)
  refine L_then (.cons (k := 0) rfl .nil) ?_
  refine V_seq (V_region rfl ?_)
  refine L_go rfl (X_p (p_move rfl rfl) ?_)
  refine L_go rfl (X_wr (w_callP rfl rfl rfl (fun w hg => rin_c _ _ _ w)) ?_)
  rintro _ _ ⟨rfl, rfl⟩
  refine L_go rfl (X_p (p_assign rfl rfl) ?_)
  refine L_then (.cons (k := 2) rfl .nil) ?_
  refine V_ret ?_
  refine Leave.nil (.tmp rfl .nil) ?_
  rfl
theorem rplace_c (n : Int) (w : World) : FnP Try.prog 47 [.int .i64 n] w (.bool (!(oP n (-2000000000) 2000000000))) := by
  refine fn_pure Try.func47 rfl (by kernel_rfl) Try.ntmps47 Try.results47 rfl ?_
  refine V_seq (V_region rfl ?_)
  refine L_go rfl (X_p (p_assign rfl rfl) ?_)
  refine L_then (.cons (k := 0) rfl .nil) ?_
  refine V_seq (V_region rfl ?_)
  refine L_go rfl (X_p (p_move rfl rfl) ?_)
  refine L_go rfl (X_wr (w_callP rfl rfl rfl (fun w hg => rin_c _ _ _ w)) ?_)
  rintro _ _ ⟨rfl, rfl⟩
  refine L_go rfl (X_p (p_assign rfl rfl) ?_)
  refine L_then (.cons (k := 2) rfl .nil) ?_
  refine V_ret ?_
  refine Leave.nil (.tmp rfl .nil) ?_
  rfl
theorem never1_c (n : Int) (w : World) : FnP Try.prog 66 [.int .i64 n] w (.bool (oP n 0 100000)) := by
  refine fn_pure Try.func66 rfl (by kernel_rfl) Try.ntmps66 Try.results66 rfl ?_
  refine V_seq (V_region rfl ?_)
  refine L_go rfl (X_p (p_assign rfl rfl) ?_)
  refine L_then (.cons (k := 0) rfl .nil) ?_
  refine V_seq (V_region rfl ?_)
  refine L_go rfl (X_p (p_move rfl rfl) ?_)
  refine L_go rfl (X_wr (w_callP rfl rfl rfl (fun w hg => out_c _ _ _ w)) ?_)
  rintro _ _ ⟨rfl, rfl⟩
  refine L_go rfl (X_p (p_assign rfl rfl) ?_)
  refine L_then (.cons (k := 2) rfl .nil) ?_
  refine V_ret ?_
  refine Leave.nil (.tmp rfl .nil) ?_
  rfl
theorem idxInt_c (l : List Int) (v : Value) (fid : Nat) (cap : Array Value) (p : Int → Bool) (w : World) (hv : SliceR w 1 v (l.map (fun n : Int => [Value.int .i64 n]))) (hl : (l.length : Int) ≤ 9223372036854775806) (hf : ∀ x w', Ext w w' → FnP Try.prog fid (.int .i64 x :: cap.toList) w' (.bool (p x))) : FnP Try.prog 79 [v, .func (.func fid) #[] cap] w (.int .i64 (firstIdx (fun i => p (l.getD i 0)) 0 l.length)) := by
  obtain ⟨a, ca, rfl, hcap, hel⟩ := hv.ex
  simp only [List.length_map]
  refine fn_pure Try.func79 rfl (by kernel_rfl) Try.ntmps79 Try.results79 rfl ?_
  refine V_seq (V_region rfl ?_)
  refine L_go rfl (X_p (p_assign rfl rfl) ?_)
  refine L_then (.cons (k := 0) rfl (.cons (k := 1) rfl .nil)) ?_
  refine V_seq ?_
  refine V_seq (V_region rfl ?_)
  refine L_go rfl (X_p (p_move rfl rfl) ?_)
  refine L_go rfl (X_p (p_len isl27 rfl rfl) ?_)
  refine L_go rfl (X_p (p_move rfl rfl) ?_)
  refine L_then (.cons (k := 0) rfl (.cons (k := 1) rfl (.cons (k := 7) rfl (.cons (k := 8) rfl .nil)))) ?_
  refine V_block ?_
  refine V_loop0 (γ := Int) (.cons (k := 0) rfl (.cons (k := 1) rfl (.cons (k := 7) rfl .nil))) (fun k => [(8, .int .i64 k)]) (fun k => 0 ≤ k ∧ k ≤ l.length ∧ ∀ j : Nat, (j : Int) < k → p (l.getD j 0) = false) (fun k => (l.length - k).toNat) (0) (.cons rfl (.nil _)) (⟨by omega, by omega, fun j hj => by omega⟩) ?_
  rintro k hi
  obtain ⟨hk0, hk1, hkp⟩ := hi
  refine V_seq (V_region rfl ?_)
  refine L_go rfl (X_p (p_lss rfl rfl rfl) ?_)
  refine L_then (.cons (k := 0) rfl (.cons (k := 1) rfl (.cons (k := 7) rfl (.cons (k := 8) rfl (.cons (k := 9) rfl .nil))))) ?_
  refine V_seq ?_
  refine V_cond rfl ?_ ?_
  · intro c1; try simp only [td] at c1
    obtain ⟨b, rfl, hc⟩ := hel k.toNat _ (getD_cells (d := 0) (by omega))
    refine V_skip (then_n ?_)
    refine V_seq ?_
    refine V_block ?_
    refine V_seq (V_region rfl ?_)
    refine L_go rfl (X_p (p_move rfl rfl) ?_)
    refine L_go rfl (X_p (p_assign rfl rfl) ?_)
    refine L_then (.cons (k := 0) rfl (.cons (k := 1) rfl (.cons (k := 5) rfl (.cons (k := 7) rfl (.cons (k := 8) rfl .nil))))) ?_
    refine V_seq (V_region rfl ?_)
    refine L_go rfl (X_p (p_move rfl rfl) ?_)
    refine L_go rfl (X_p (p_move rfl rfl) ?_)
    refine L_go rfl (X_p (p_move rfl rfl) ?_)
    refine L_go rfl (X_p (p_idx es27 rfl rfl rfl (by omega) (by omega)) ?_)
    refine L_go rfl (X_rd (r_loadB ag3 rfl rfl (hc.zero) List.not_mem_nil) ?_)
    refine L_go rfl (X_wr (w_callP rfl rfl rfl (fun w hg => hf _ w hg.toExt)) ?_)
    rintro _ _ ⟨rfl, rfl⟩
    refine L_then (.cons (k := 0) rfl (.cons (k := 1) rfl (.cons (k := 5) rfl (.cons (k := 7) rfl (.cons (k := 8) rfl (.cons (k := 16) rfl .nil)))))) ?_
    refine V_cond rfl ?_ ?_
    · intro c2; try simp only [td] at c2
      refine V_seq (V_region rfl ?_)
      refine L_go rfl (X_p (p_move rfl rfl) ?_)
      refine L_go rfl (X_p (p_assign rfl rfl) ?_)
      refine L_then (.cons (k := 4) rfl .nil) ?_
      refine V_ret (blk_r (then_r (then_r (blk_r (then_r ?_)))))
      refine Leave.nil (.tmp rfl .nil) ?_
      show Value.int .i64 k = _
      rw [firstIdx_hit (p := fun i => p (l.getD i 0)) (k := k.toNat) (by omega) c2 (fun j hj => hkp j (by omega))]
      congr 1; omega
    · intro c2; try simp only [td] at c2
      refine V_skip (blk_n (then_n ?_))
      refine V_region rfl ?_
      first | refine L_go rfl (X_p (p_add' rfl rfl rfl (by unfold InI; omega)) ?_) | refine L_go rfl (X_p (p_add rfl rfl rfl) ?_)
      refine L_go rfl (X_p (p_move rfl rfl) ?_)
      refine L_keep (.cons (k := 0) rfl (.cons (k := 1) rfl (.cons (k := 7) rfl (.cons (k := 8) rfl .nil)))) (then_n ?_)
      refine ⟨k + 1, ?_, ?_, (.cons rfl (.cons rfl (.cons rfl (.cons rfl (.nil _))))), (by repeat (first | exact List.Sublist.refl _ | apply List.Sublist.cons_cons | apply List.Sublist.cons | apply List.sublist_append_of_sublist_right)), rfl⟩
      · refine ⟨by omega, by omega, fun j hj => ?_⟩; by_cases e : (j : Int) < k
        · exact hkp j e
        · have : j = k.toNat := by omega
          rw [this]; exact c2
      · omega
  · intro c1; try simp only [td] at c1
    refine V_exit (then_e (then_e (blk_e rfl (then_n ?_))))
    refine V_seq (V_region rfl ?_)
    refine L_go rfl (X_p (p_assign rfl rfl) ?_)
    refine L_then (.cons (k := 4) rfl .nil) ?_
    refine V_ret ?_
    refine Leave.nil (.tmp rfl .nil) ?_
    show Value.int .i64 (-1) = _
    rw [firstIdx_none (p := fun i => p (l.getD i 0)) (fun j hj => hkp j (by omega))]
theorem contInt_c (l : List Int) (v : Value) (fid : Nat) (cap : Array Value) (p : Int → Bool) (w : World) (hv : SliceR w 1 v (l.map (fun n : Int => [Value.int .i64 n]))) (hl : (l.length : Int) ≤ 9223372036854775806) (hf : ∀ x w', Ext w w' → FnP Try.prog fid (.int .i64 x :: cap.toList) w' (.bool (p x))) : FnP Try.prog 65 [v, .func (.func fid) #[] cap] w (.bool (l.any p)) := by
  refine fn_pure Try.func65 rfl (by kernel_rfl) Try.ntmps65 Try.results65 rfl ?_
  refine V_seq (V_region rfl ?_)
  refine L_go rfl (X_p (p_assign rfl rfl) ?_)
  refine L_then (.cons (k := 0) rfl (.cons (k := 1) rfl .nil)) ?_
  refine V_seq (V_region rfl ?_)
  refine L_go rfl (X_p (p_move rfl rfl) ?_)
  refine L_go rfl (X_p (p_move rfl rfl) ?_)
  refine L_go rfl (X_wr (w_callP rfl rfl rfl (fun w hg => idxInt_c l _ _ _ p w (hv.good hg) hl (fun x w' he => hf x w' (hg.toExt.trans he)))) ?_)
  rintro _ _ ⟨rfl, rfl⟩
  refine L_go rfl (X_p (p_geq rfl rfl rfl) ?_)
  refine L_go rfl (X_p (p_assign rfl rfl) ?_)
  refine L_then (.cons (k := 4) rfl .nil) ?_
  refine V_ret ?_
  refine Leave.nil (.tmp rfl .nil) ?_
  show Value.bool _ = _
  rw [firstIdx_any, anyIdx_list]
theorem idxTr_c (l : List Tracker) (v : Value) (fid : Nat) (cap : Array Value) (p : Tracker → Bool) (w : World) (hv : SliceR w 6 v (l.map (Tracker.cells))) (hl : (l.length : Int) ≤ 9223372036854775806) (hf : ∀ x w', Ext w w' → FnP Try.prog fid (.agg (Tracker.cells x).toArray :: cap.toList) w' (.bool (p x))) : FnP Try.prog 83 [v, .func (.func fid) #[] cap] w (.int .i64 (firstIdx (fun i => p (l.getD i trZ)) 0 l.length)) := by
  obtain ⟨a, ca, rfl, hcap, hel⟩ := hv.ex
  simp only [List.length_map]
  refine fn_pure Try.func83 rfl (by kernel_rfl) Try.ntmps83 Try.results83 rfl ?_
  refine V_seq (V_region rfl ?_)
  refine L_go rfl (X_p (p_assign rfl rfl) ?_)
  refine L_then (.cons (k := 0) rfl (.cons (k := 1) rfl .nil)) ?_
  refine V_seq ?_
  refine V_seq (V_region rfl ?_)
  refine L_go rfl (X_p (p_move rfl rfl) ?_)
  refine L_go rfl (X_p (p_len isl22 rfl rfl) ?_)
  refine L_go rfl (X_p (p_move rfl rfl) ?_)
  refine L_then (.cons (k := 0) rfl (.cons (k := 1) rfl (.cons (k := 7) rfl (.cons (k := 8) rfl .nil)))) ?_
  refine V_block ?_
  refine V_loop0 (γ := Int) (.cons (k := 0) rfl (.cons (k := 1) rfl (.cons (k := 7) rfl .nil))) (fun k => [(8, .int .i64 k)]) (fun k => 0 ≤ k ∧ k ≤ l.length ∧ ∀ j : Nat, (j : Int) < k → p (l.getD j trZ) = false) (fun k => (l.length - k).toNat) (0) (.cons rfl (.nil _)) (⟨by omega, by omega, fun j hj => by omega⟩) ?_
  rintro k hi
  obtain ⟨hk0, hk1, hkp⟩ := hi
  refine V_seq (V_region rfl ?_)
  refine L_go rfl (X_p (p_lss rfl rfl rfl) ?_)
  refine L_then (.cons (k := 0) rfl (.cons (k := 1) rfl (.cons (k := 7) rfl (.cons (k := 8) rfl (.cons (k := 9) rfl .nil))))) ?_
  refine V_seq ?_
  refine V_cond rfl ?_ ?_
  · intro c1; try simp only [td] at c1
    obtain ⟨b, rfl, hc⟩ := hel k.toNat _ (getD_cells (d := trZ) (by omega))
    refine V_skip (then_n ?_)
    refine V_seq ?_
    refine V_block ?_
    refine V_seq (V_region rfl ?_)
    refine L_go rfl (X_p (p_move rfl rfl) ?_)
    refine L_go rfl (X_p (p_assign rfl rfl) ?_)
    refine L_then (.cons (k := 0) rfl (.cons (k := 1) rfl (.cons (k := 5) rfl (.cons (k := 7) rfl (.cons (k := 8) rfl .nil))))) ?_
    refine V_seq (V_region rfl ?_)
    refine L_go rfl (X_p (p_move rfl rfl) ?_)
    refine L_go rfl (X_p (p_move rfl rfl) ?_)
    refine L_go rfl (X_p (p_move rfl rfl) ?_)
    refine L_go rfl (X_p (p_idx es22 rfl rfl rfl (by omega) (by omega)) ?_)
    refine L_go rfl (X_rd (r_loadBA ag116 sz116 rfl rfl hc rfl List.not_mem_nil) ?_)
    refine L_go rfl (X_wr (w_callP rfl rfl rfl (fun w hg => hf _ w hg.toExt)) ?_)
    rintro _ _ ⟨rfl, rfl⟩
    refine L_then (.cons (k := 0) rfl (.cons (k := 1) rfl (.cons (k := 5) rfl (.cons (k := 7) rfl (.cons (k := 8) rfl (.cons (k := 16) rfl .nil)))))) ?_
    refine V_cond rfl ?_ ?_
    · intro c2; try simp only [td] at c2
      refine V_seq (V_region rfl ?_)
      refine L_go rfl (X_p (p_move rfl rfl) ?_)
      refine L_go rfl (X_p (p_assign rfl rfl) ?_)
      refine L_then (.cons (k := 4) rfl .nil) ?_
      refine V_ret (blk_r (then_r (then_r (blk_r (then_r ?_)))))
      refine Leave.nil (.tmp rfl .nil) ?_
      show Value.int .i64 k = _
      rw [firstIdx_hit (p := fun i => p (l.getD i trZ)) (k := k.toNat) (by omega) c2 (fun j hj => hkp j (by omega))]
      congr 1; omega
    · intro c2; try simp only [td] at c2
      refine V_skip (blk_n (then_n ?_))
      refine V_region rfl ?_
      first | refine L_go rfl (X_p (p_add' rfl rfl rfl (by unfold InI; omega)) ?_) | refine L_go rfl (X_p (p_add rfl rfl rfl) ?_)
      refine L_go rfl (X_p (p_move rfl rfl) ?_)
      refine L_keep (.cons (k := 0) rfl (.cons (k := 1) rfl (.cons (k := 7) rfl (.cons (k := 8) rfl .nil)))) (then_n ?_)
      refine ⟨k + 1, ?_, ?_, (.cons rfl (.cons rfl (.cons rfl (.cons rfl (.nil _))))), (by repeat (first | exact List.Sublist.refl _ | apply List.Sublist.cons_cons | apply List.Sublist.cons | apply List.sublist_append_of_sublist_right)), rfl⟩
      · refine ⟨by omega, by omega, fun j hj => ?_⟩; by_cases e : (j : Int) < k
        · exact hkp j e
        · have : j = k.toNat := by omega
          rw [this]; exact c2
      · omega
  · intro c1; try simp only [td] at c1
    refine V_exit (then_e (then_e (blk_e rfl (then_n ?_))))
    refine V_seq (V_region rfl ?_)
    refine L_go rfl (X_p (p_assign rfl rfl) ?_)
    refine L_then (.cons (k := 4) rfl .nil) ?_
    refine V_ret ?_
    refine Leave.nil (.tmp rfl .nil) ?_
    show Value.int .i64 (-1) = _
    rw [firstIdx_none (p := fun i => p (l.getD i trZ)) (fun j hj => hkp j (by omega))]
theorem contTr_c (l : List Tracker) (v : Value) (fid : Nat) (cap : Array Value) (p : Tracker → Bool) (w : World) (hv : SliceR w 6 v (l.map (Tracker.cells))) (hl : (l.length : Int) ≤ 9223372036854775806) (hf : ∀ x w', Ext w w' → FnP Try.prog fid (.agg (Tracker.cells x).toArray :: cap.toList) w' (.bool (p x))) : FnP Try.prog 72 [v, .func (.func fid) #[] cap] w (.bool (l.any p)) := by
  refine fn_pure Try.func72 rfl (by kernel_rfl) Try.ntmps72 Try.results72 rfl ?_
  refine V_seq (V_region rfl ?_)
  refine L_go rfl (X_p (p_assign rfl rfl) ?_)
  refine L_then (.cons (k := 0) rfl (.cons (k := 1) rfl .nil)) ?_
  refine V_seq (V_region rfl ?_)
  refine L_go rfl (X_p (p_move rfl rfl) ?_)
  refine L_go rfl (X_p (p_move rfl rfl) ?_)
  refine L_go rfl (X_wr (w_callP rfl rfl rfl (fun w hg => idxTr_c l _ _ _ p w (hv.good hg) hl (fun x w' he => hf x w' (hg.toExt.trans he)))) ?_)
  rintro _ _ ⟨rfl, rfl⟩
  refine L_go rfl (X_p (p_geq rfl rfl rfl) ?_)
  refine L_go rfl (X_p (p_assign rfl rfl) ?_)
  refine L_then (.cons (k := 4) rfl .nil) ?_
  refine V_ret ?_
  refine Leave.nil (.tmp rfl .nil) ?_
  show Value.bool _ = _
  rw [firstIdx_any, anyIdx_list]
theorem wname_c (s : ByteArray) (hs : (s.size : Int) ≤ 9223372036854775807) (w : World) : FnP Try.prog 71 [.string s] w (.bool (nameOk s)) := by
  refine fn_pure Try.func71 rfl (by kernel_rfl) Try.ntmps71 Try.results71 rfl ?_
  refine V_seq (V_region rfl ?_)
  refine L_go rfl (X_p (p_assign rfl rfl) ?_)
  refine L_then (.cons (k := 0) rfl .nil) ?_
  refine V_seq ?_
  refine V_seq (V_region rfl ?_)
  refine L_go rfl (X_p (p_move rfl rfl) ?_)
  refine L_go rfl (X_wr (w_bytes un9 un146 un5 rfl rfl) ?_)
  rintro _ _ ⟨b1, cap1, pad1, fr1, hb1, rfl, rfl⟩
  refine L_go rfl (X_p (p_len isl146 rfl rfl) ?_)
  refine L_go rfl (X_p (p_move rfl rfl) ?_)
  refine L_then (.cons (k := 0) rfl (.cons (k := 6) rfl (.cons (k := 7) rfl (.cons (k := 8) rfl .nil)))) ?_
  refine V_block ?_
  refine V_loop0 (γ := Int) (.cons (k := 0) rfl (.cons (k := 6) rfl (.cons (k := 7) rfl .nil))) (fun k => [(8, .int .i64 k)]) (fun k => 0 ≤ k ∧ k ≤ s.size ∧ ∀ j : Nat, (j : Int) < k → nameC s j = true) (fun k => (s.size - k).toNat) (0) (.cons rfl (.nil _)) (⟨by omega, by omega, fun j hj => by omega⟩) ?_
  rintro k hi
  obtain ⟨hk0, hk1, hkn⟩ := hi
  refine V_seq (V_region rfl ?_)
  refine L_go rfl (X_p (p_lss rfl rfl rfl) ?_)
  refine L_then (.cons (k := 0) rfl (.cons (k := 6) rfl (.cons (k := 7) rfl (.cons (k := 8) rfl (.cons (k := 9) rfl .nil))))) ?_
  refine V_seq ?_
  refine V_cond rfl ?_ ?_
  · intro c1; try simp only [td] at c1
    refine V_skip (then_n ?_)
    refine V_seq ?_
    refine V_block ?_
    refine V_seq (V_region rfl ?_)
    refine L_go rfl (X_p (p_move rfl rfl) ?_)
    refine L_go rfl (X_p (p_idxo es146 rfl rfl rfl (by omega) (by omega)) ?_)
    refine L_go rfl (X_rd (r_load ag5 rfl rfl (by repeat first | exact mH | apply mT) (bytes_at (by omega))) ?_)
    refine L_go rfl (X_p (p_assign rfl rfl) ?_)
    refine L_go rfl (X_p (p_assign rfl rfl) ?_)
    refine L_then (.cons (k := 0) rfl (.cons (k := 3) rfl (.cons (k := 4) rfl (.cons (k := 6) rfl (.cons (k := 7) rfl (.cons (k := 8) rfl .nil)))))) ?_
    refine V_seq (V_region rfl ?_)
    refine L_go rfl (X_p (p_move rfl rfl) ?_)
    refine L_go rfl (X_p (p_geq rfl rfl rfl) ?_)
    refine L_go rfl (X_p (p_move rfl rfl) ?_)
    refine L_cases (d := 15) rfl ?_ ?_
    · intro g1; have g1' := g1; try simp only [td] at g1'
      refine L_yes rfl rfl rfl g1 (X_p (p_move rfl rfl) ?_)
      refine L_yes rfl rfl rfl g1 (X_p (p_leq rfl rfl rfl) ?_)
      refine L_go rfl (X_p (p_pick_t rfl rfl g1 rfl) ?_)
      refine L_go rfl (X_p (p_not rfl rfl) ?_)
      refine L_go rfl (X_p (p_move rfl rfl) ?_)
      refine L_cases (d := 20) rfl ?_ ?_
      · intro g2; have g2' := g2; try simp only [td] at g2'
        refine L_yes rfl rfl rfl g2 (X_p (p_move rfl rfl) ?_)
        refine L_yes rfl rfl rfl g2 (X_p (p_eql rfl rfl rfl) ?_)
        refine L_yes rfl rfl rfl g2 (X_p (p_move rfl rfl) ?_)
        refine L_cases (d := 23) rfl ?_ ?_
        · intro g3; have g3' := g3; try simp only [td] at g3'
          refine L_no rfl rfl rfl g3 ?_
          refine L_no rfl rfl rfl g3 ?_
          refine L_no rfl rfl rfl g3 ?_
          refine L_nou rfl rfl rfl ?_
          refine L_nou rfl rfl rfl ?_
          refine L_nou rfl rfl rfl ?_
          refine L_nou rfl rfl rfl ?_
          refine L_nou rfl rfl rfl ?_
          refine L_nou rfl rfl rfl ?_
          refine L_nou rfl rfl rfl ?_
          refine L_no rfl rfl rfl g3 ?_
          refine L_yes rfl rfl rfl g2 (X_p (p_pick_t rfl rfl g3 rfl) ?_)
          refine L_go rfl (X_p (p_pick_t rfl rfl g2 rfl) ?_)
          refine L_then (.cons (k := 0) rfl (.cons (k := 6) rfl (.cons (k := 7) rfl (.cons (k := 8) rfl (.cons (k := 36) rfl .nil))))) ?_
          refine V_cond_t rfl rfl ?_
          refine V_seq (V_region rfl ?_)
          refine L_go rfl (X_p (p_assign rfl rfl) ?_)
          refine L_then (.cons (k := 2) rfl .nil) ?_
          refine V_ret (blk_r (then_r (then_r (blk_r (then_r ?_)))))
          refine Leave.nil (.tmp rfl .nil) ?_
          first | (show Value.bool false = _; rw [nameOk_bad (k := k.toNat) (by omega) (by simp only [nameC, small, Bool.or_eq_true, Bool.and_eq_true, decide_eq_true_eq, decide_eq_false_iff_not, ← Bool.not_eq_true]; omega)]; done) | (show Value.bool (!(oP _ _ _)) = _; rw [nameOk_end (fun j hj => hkn j (by omega))])
        · intro g3; have g3' := g3; try simp only [td] at g3'
          refine L_yes rfl rfl rfl g3 (X_p (p_move rfl rfl) ?_)
          refine L_yes rfl rfl rfl g3 (X_p (p_neq rfl rfl rfl) ?_)
          refine L_yes rfl rfl rfl g3 (X_p (p_move rfl rfl) ?_)
          refine L_cases (d := 26) rfl ?_ ?_
          · intro g4; have g4' := g4; try simp only [td] at g4'
            refine L_yes rfl rfl rfl g4 (X_p (p_move rfl rfl) ?_)
            refine L_yes rfl rfl rfl g4 (X_p (p_geq rfl rfl rfl) ?_)
            refine L_yes rfl rfl rfl g4 (X_p (p_move rfl rfl) ?_)
            refine L_cases (d := 29) rfl ?_ ?_
            · intro g5; have g5' := g5; try simp only [td] at g5'
              refine L_yes rfl rfl rfl g5 (X_p (p_move rfl rfl) ?_)
              refine L_yes rfl rfl rfl g5 (X_p (p_leq rfl rfl rfl) ?_)
              refine L_yes rfl rfl rfl g4 (X_p (p_pick_t rfl rfl g5 rfl) ?_)
              refine L_yes rfl rfl rfl g4 (X_p (p_not rfl rfl) ?_)
              refine L_yes rfl rfl rfl g3 (X_p (p_pick_t rfl rfl g4 rfl) ?_)
              refine L_yes rfl rfl rfl g2 (X_p (p_pick_f rfl rfl g3 rfl) ?_)
              refine L_go rfl (X_p (p_pick_t rfl rfl g2 rfl) ?_)
              refine L_then (.cons (k := 0) rfl (.cons (k := 6) rfl (.cons (k := 7) rfl (.cons (k := 8) rfl (.cons (k := 36) rfl .nil))))) ?_
              refine V_cond rfl ?_ ?_
              · intro c2; try simp only [td] at c2
                refine V_seq (V_region rfl ?_)
                refine L_go rfl (X_p (p_assign rfl rfl) ?_)
                refine L_then (.cons (k := 2) rfl .nil) ?_
                refine V_ret (blk_r (then_r (then_r (blk_r (then_r ?_)))))
                refine Leave.nil (.tmp rfl .nil) ?_
                first | (show Value.bool false = _; rw [nameOk_bad (k := k.toNat) (by omega) (by simp only [nameC, small, Bool.or_eq_true, Bool.and_eq_true, decide_eq_true_eq, decide_eq_false_iff_not, ← Bool.not_eq_true]; omega)]; done) | (show Value.bool (!(oP _ _ _)) = _; rw [nameOk_end (fun j hj => hkn j (by omega))])
              · intro c2; try simp only [td] at c2
                refine V_skip (blk_n (then_n ?_))
                refine V_region rfl ?_
                first | refine L_go rfl (X_p (p_add' rfl rfl rfl (by unfold InI; omega)) ?_) | refine L_go rfl (X_p (p_add rfl rfl rfl) ?_)
                refine L_go rfl (X_p (p_move rfl rfl) ?_)
                refine L_keep (.cons (k := 0) rfl (.cons (k := 6) rfl (.cons (k := 7) rfl (.cons (k := 8) rfl .nil)))) (then_n ?_)
                refine ⟨k + 1, ?_, ?_, (.cons rfl (.cons rfl (.cons rfl (.cons rfl (.nil _))))), (by repeat (first | exact List.Sublist.refl _ | apply List.Sublist.cons_cons | apply List.Sublist.cons | apply List.sublist_append_of_sublist_right)), rfl⟩
                · refine ⟨by omega, by omega, fun j hj => ?_⟩; by_cases e : (j : Int) < k
                  · exact hkn j e
                  · have ej : j = k.toNat := by omega
                    rw [ej]; simp only [nameC, small, Bool.or_eq_true, Bool.and_eq_true, decide_eq_true_eq, decide_eq_false_iff_not, ← Bool.not_eq_true]; omega
                · omega
            · intro g5; have g5' := g5; try simp only [td] at g5'
              refine L_no rfl rfl rfl g5 ?_
              refine L_no rfl rfl rfl g5 ?_
              refine L_yes rfl rfl rfl g4 (X_p (p_pick_f rfl rfl g5 rfl) ?_)
              refine L_yes rfl rfl rfl g4 (X_p (p_not rfl rfl) ?_)
              refine L_yes rfl rfl rfl g3 (X_p (p_pick_t rfl rfl g4 rfl) ?_)
              refine L_yes rfl rfl rfl g2 (X_p (p_pick_f rfl rfl g3 rfl) ?_)
              refine L_go rfl (X_p (p_pick_t rfl rfl g2 rfl) ?_)
              refine L_then (.cons (k := 0) rfl (.cons (k := 6) rfl (.cons (k := 7) rfl (.cons (k := 8) rfl (.cons (k := 36) rfl .nil))))) ?_
              refine V_cond_t rfl rfl ?_
              refine V_seq (V_region rfl ?_)
              refine L_go rfl (X_p (p_assign rfl rfl) ?_)
              refine L_then (.cons (k := 2) rfl .nil) ?_
              refine V_ret (blk_r (then_r (then_r (blk_r (then_r ?_)))))
              refine Leave.nil (.tmp rfl .nil) ?_
              first | (show Value.bool false = _; rw [nameOk_bad (k := k.toNat) (by omega) (by simp only [nameC, small, Bool.or_eq_true, Bool.and_eq_true, decide_eq_true_eq, decide_eq_false_iff_not, ← Bool.not_eq_true]; omega)]; done) | (show Value.bool (!(oP _ _ _)) = _; rw [nameOk_end (fun j hj => hkn j (by omega))])
          · intro g4; have g4' := g4; try simp only [td] at g4'
            refine L_no rfl rfl rfl g4 ?_
            refine L_no rfl rfl rfl g4 ?_
            refine L_no rfl rfl rfl g4 ?_
            refine L_nou rfl rfl rfl ?_
            refine L_nou rfl rfl rfl ?_
            refine L_no rfl rfl rfl g4 ?_
            refine L_no rfl rfl rfl g4 ?_
            refine L_yes rfl rfl rfl g3 (X_p (p_pick_f rfl rfl g4 rfl) ?_)
            refine L_yes rfl rfl rfl g2 (X_p (p_pick_f rfl rfl g3 rfl) ?_)
            refine L_go rfl (X_p (p_pick_t rfl rfl g2 rfl) ?_)
            refine L_then (.cons (k := 0) rfl (.cons (k := 6) rfl (.cons (k := 7) rfl (.cons (k := 8) rfl (.cons (k := 36) rfl .nil))))) ?_
            refine V_cond_f rfl rfl ?_
            refine V_skip (blk_n (then_n ?_))
            refine V_region rfl ?_
            first | refine L_go rfl (X_p (p_add' rfl rfl rfl (by unfold InI; omega)) ?_) | refine L_go rfl (X_p (p_add rfl rfl rfl) ?_)
            refine L_go rfl (X_p (p_move rfl rfl) ?_)
            refine L_keep (.cons (k := 0) rfl (.cons (k := 6) rfl (.cons (k := 7) rfl (.cons (k := 8) rfl .nil)))) (then_n ?_)
            refine ⟨k + 1, ?_, ?_, (.cons rfl (.cons rfl (.cons rfl (.cons rfl (.nil _))))), (by repeat (first | exact List.Sublist.refl _ | apply List.Sublist.cons_cons | apply List.Sublist.cons | apply List.sublist_append_of_sublist_right)), rfl⟩
            · refine ⟨by omega, by omega, fun j hj => ?_⟩; by_cases e : (j : Int) < k
              · exact hkn j e
              · have ej : j = k.toNat := by omega
                rw [ej]; simp only [nameC, small, Bool.or_eq_true, Bool.and_eq_true, decide_eq_true_eq, decide_eq_false_iff_not, ← Bool.not_eq_true]; omega
            · omega
      · intro g2; have g2' := g2; try simp only [td] at g2'
        refine L_no rfl rfl rfl g2 ?_
        refine L_no rfl rfl rfl g2 ?_
        refine L_no rfl rfl rfl g2 ?_
        refine L_nou rfl rfl rfl ?_
        refine L_nou rfl rfl rfl ?_
        refine L_nou rfl rfl rfl ?_
        refine L_nou rfl rfl rfl ?_
        refine L_nou rfl rfl rfl ?_
        refine L_nou rfl rfl rfl ?_
        refine L_nou rfl rfl rfl ?_
        refine L_nou rfl rfl rfl ?_
        refine L_nou rfl rfl rfl ?_
        refine L_nou rfl rfl rfl ?_
        refine L_nou rfl rfl rfl ?_
        refine L_no rfl rfl rfl g2 ?_
        refine L_go rfl (X_p (p_pick_f rfl rfl g2 rfl) ?_)
        refine L_then (.cons (k := 0) rfl (.cons (k := 6) rfl (.cons (k := 7) rfl (.cons (k := 8) rfl (.cons (k := 36) rfl .nil))))) ?_
        refine V_cond_f rfl rfl ?_
        refine V_skip (blk_n (then_n ?_))
        refine V_region rfl ?_
        first | refine L_go rfl (X_p (p_add' rfl rfl rfl (by unfold InI; omega)) ?_) | refine L_go rfl (X_p (p_add rfl rfl rfl) ?_)
        refine L_go rfl (X_p (p_move rfl rfl) ?_)
        refine L_keep (.cons (k := 0) rfl (.cons (k := 6) rfl (.cons (k := 7) rfl (.cons (k := 8) rfl .nil)))) (then_n ?_)
        refine ⟨k + 1, ?_, ?_, (.cons rfl (.cons rfl (.cons rfl (.cons rfl (.nil _))))), (by repeat (first | exact List.Sublist.refl _ | apply List.Sublist.cons_cons | apply List.Sublist.cons | apply List.sublist_append_of_sublist_right)), rfl⟩
        · refine ⟨by omega, by omega, fun j hj => ?_⟩; by_cases e : (j : Int) < k
          · exact hkn j e
          · have ej : j = k.toNat := by omega
            rw [ej]; simp only [nameC, small, Bool.or_eq_true, Bool.and_eq_true, decide_eq_true_eq, decide_eq_false_iff_not, ← Bool.not_eq_true]; omega
        · omega
    · intro g1; have g1' := g1; try simp only [td] at g1'
      refine L_no rfl rfl rfl g1 ?_
      refine L_no rfl rfl rfl g1 ?_
      refine L_go rfl (X_p (p_pick_f rfl rfl g1 rfl) ?_)
      refine L_go rfl (X_p (p_not rfl rfl) ?_)
      refine L_go rfl (X_p (p_move rfl rfl) ?_)
      refine L_yes rfl rfl rfl rfl (X_p (p_move rfl rfl) ?_)
      refine L_yes rfl rfl rfl rfl (X_p (p_eql rfl rfl rfl) ?_)
      refine L_yes rfl rfl rfl rfl (X_p (p_move rfl rfl) ?_)
      refine L_cases (d := 23) rfl ?_ ?_
      · intro g6; have g6' := g6; try simp only [td] at g6'
        refine L_no rfl rfl rfl g6 ?_
        refine L_no rfl rfl rfl g6 ?_
        refine L_no rfl rfl rfl g6 ?_
        refine L_nou rfl rfl rfl ?_
        refine L_nou rfl rfl rfl ?_
        refine L_nou rfl rfl rfl ?_
        refine L_nou rfl rfl rfl ?_
        refine L_nou rfl rfl rfl ?_
        refine L_nou rfl rfl rfl ?_
        refine L_nou rfl rfl rfl ?_
        refine L_no rfl rfl rfl g6 ?_
        refine L_yes rfl rfl rfl rfl (X_p (p_pick_t rfl rfl g6 rfl) ?_)
        refine L_go rfl (X_p (p_pick_t rfl rfl rfl rfl) ?_)
        refine L_then (.cons (k := 0) rfl (.cons (k := 6) rfl (.cons (k := 7) rfl (.cons (k := 8) rfl (.cons (k := 36) rfl .nil))))) ?_
        refine V_cond_t rfl rfl ?_
        refine V_seq (V_region rfl ?_)
        refine L_go rfl (X_p (p_assign rfl rfl) ?_)
        refine L_then (.cons (k := 2) rfl .nil) ?_
        refine V_ret (blk_r (then_r (then_r (blk_r (then_r ?_)))))
        refine Leave.nil (.tmp rfl .nil) ?_
        first | (show Value.bool false = _; rw [nameOk_bad (k := k.toNat) (by omega) (by simp only [nameC, small, Bool.or_eq_true, Bool.and_eq_true, decide_eq_true_eq, decide_eq_false_iff_not, ← Bool.not_eq_true]; omega)]; done) | (show Value.bool (!(oP _ _ _)) = _; rw [nameOk_end (fun j hj => hkn j (by omega))])
      · intro g6; have g6' := g6; try simp only [td] at g6'
        refine L_yes rfl rfl rfl g6 (X_p (p_move rfl rfl) ?_)
        refine L_yes rfl rfl rfl g6 (X_p (p_neq rfl rfl rfl) ?_)
        refine L_yes rfl rfl rfl g6 (X_p (p_move rfl rfl) ?_)
        refine L_cases (d := 26) rfl ?_ ?_
        · intro g7; have g7' := g7; try simp only [td] at g7'
          refine L_yes rfl rfl rfl g7 (X_p (p_move rfl rfl) ?_)
          refine L_yes rfl rfl rfl g7 (X_p (p_geq rfl rfl rfl) ?_)
          refine L_yes rfl rfl rfl g7 (X_p (p_move rfl rfl) ?_)
          refine L_cases (d := 29) rfl ?_ ?_
          · intro g8; have g8' := g8; try simp only [td] at g8'
            refine L_yes rfl rfl rfl g8 (X_p (p_move rfl rfl) ?_)
            refine L_yes rfl rfl rfl g8 (X_p (p_leq rfl rfl rfl) ?_)
            refine L_yes rfl rfl rfl g7 (X_p (p_pick_t rfl rfl g8 rfl) ?_)
            refine L_yes rfl rfl rfl g7 (X_p (p_not rfl rfl) ?_)
            refine L_yes rfl rfl rfl g6 (X_p (p_pick_t rfl rfl g7 rfl) ?_)
            refine L_yes rfl rfl rfl rfl (X_p (p_pick_f rfl rfl g6 rfl) ?_)
            refine L_go rfl (X_p (p_pick_t rfl rfl rfl rfl) ?_)
            refine L_then (.cons (k := 0) rfl (.cons (k := 6) rfl (.cons (k := 7) rfl (.cons (k := 8) rfl (.cons (k := 36) rfl .nil))))) ?_
            refine V_cond rfl ?_ ?_
            · intro c3; try simp only [td] at c3
              refine V_seq (V_region rfl ?_)
              refine L_go rfl (X_p (p_assign rfl rfl) ?_)
              refine L_then (.cons (k := 2) rfl .nil) ?_
              refine V_ret (blk_r (then_r (then_r (blk_r (then_r ?_)))))
              refine Leave.nil (.tmp rfl .nil) ?_
              first | (show Value.bool false = _; rw [nameOk_bad (k := k.toNat) (by omega) (by simp only [nameC, small, Bool.or_eq_true, Bool.and_eq_true, decide_eq_true_eq, decide_eq_false_iff_not, ← Bool.not_eq_true]; omega)]; done) | (show Value.bool (!(oP _ _ _)) = _; rw [nameOk_end (fun j hj => hkn j (by omega))])
            · intro c3; try simp only [td] at c3
              refine V_skip (blk_n (then_n ?_))
              refine V_region rfl ?_
              first | refine L_go rfl (X_p (p_add' rfl rfl rfl (by unfold InI; omega)) ?_) | refine L_go rfl (X_p (p_add rfl rfl rfl) ?_)
              refine L_go rfl (X_p (p_move rfl rfl) ?_)
              refine L_keep (.cons (k := 0) rfl (.cons (k := 6) rfl (.cons (k := 7) rfl (.cons (k := 8) rfl .nil)))) (then_n ?_)
              refine ⟨k + 1, ?_, ?_, (.cons rfl (.cons rfl (.cons rfl (.cons rfl (.nil _))))), (by repeat (first | exact List.Sublist.refl _ | apply List.Sublist.cons_cons | apply List.Sublist.cons | apply List.sublist_append_of_sublist_right)), rfl⟩
              · refine ⟨by omega, by omega, fun j hj => ?_⟩; by_cases e : (j : Int) < k
                · exact hkn j e
                · have ej : j = k.toNat := by omega
                  rw [ej]; simp only [nameC, small, Bool.or_eq_true, Bool.and_eq_true, decide_eq_true_eq, decide_eq_false_iff_not, ← Bool.not_eq_true]; omega
              · omega
          · intro g8; have g8' := g8; try simp only [td] at g8'
            refine L_no rfl rfl rfl g8 ?_
            refine L_no rfl rfl rfl g8 ?_
            refine L_yes rfl rfl rfl g7 (X_p (p_pick_f rfl rfl g8 rfl) ?_)
            refine L_yes rfl rfl rfl g7 (X_p (p_not rfl rfl) ?_)
            refine L_yes rfl rfl rfl g6 (X_p (p_pick_t rfl rfl g7 rfl) ?_)
            refine L_yes rfl rfl rfl rfl (X_p (p_pick_f rfl rfl g6 rfl) ?_)
            refine L_go rfl (X_p (p_pick_t rfl rfl rfl rfl) ?_)
            refine L_then (.cons (k := 0) rfl (.cons (k := 6) rfl (.cons (k := 7) rfl (.cons (k := 8) rfl (.cons (k := 36) rfl .nil))))) ?_
            refine V_cond_t rfl rfl ?_
            refine V_seq (V_region rfl ?_)
            refine L_go rfl (X_p (p_assign rfl rfl) ?_)
            refine L_then (.cons (k := 2) rfl .nil) ?_
            refine V_ret (blk_r (then_r (then_r (blk_r (then_r ?_)))))
            refine Leave.nil (.tmp rfl .nil) ?_
            first | (show Value.bool false = _; rw [nameOk_bad (k := k.toNat) (by omega) (by simp only [nameC, small, Bool.or_eq_true, Bool.and_eq_true, decide_eq_true_eq, decide_eq_false_iff_not, ← Bool.not_eq_true]; omega)]; done) | (show Value.bool (!(oP _ _ _)) = _; rw [nameOk_end (fun j hj => hkn j (by omega))])
        · intro g7; have g7' := g7; try simp only [td] at g7'
          refine L_no rfl rfl rfl g7 ?_
          refine L_no rfl rfl rfl g7 ?_
          refine L_no rfl rfl rfl g7 ?_
          refine L_nou rfl rfl rfl ?_
          refine L_nou rfl rfl rfl ?_
          refine L_no rfl rfl rfl g7 ?_
          refine L_no rfl rfl rfl g7 ?_
          refine L_yes rfl rfl rfl g6 (X_p (p_pick_f rfl rfl g7 rfl) ?_)
          refine L_yes rfl rfl rfl rfl (X_p (p_pick_f rfl rfl g6 rfl) ?_)
          refine L_go rfl (X_p (p_pick_t rfl rfl rfl rfl) ?_)
          refine L_then (.cons (k := 0) rfl (.cons (k := 6) rfl (.cons (k := 7) rfl (.cons (k := 8) rfl (.cons (k := 36) rfl .nil))))) ?_
          refine V_cond_f rfl rfl ?_
          refine V_skip (blk_n (then_n ?_))
          refine V_region rfl ?_
          first | refine L_go rfl (X_p (p_add' rfl rfl rfl (by unfold InI; omega)) ?_) | refine L_go rfl (X_p (p_add rfl rfl rfl) ?_)
          refine L_go rfl (X_p (p_move rfl rfl) ?_)
          refine L_keep (.cons (k := 0) rfl (.cons (k := 6) rfl (.cons (k := 7) rfl (.cons (k := 8) rfl .nil)))) (then_n ?_)
          refine ⟨k + 1, ?_, ?_, (.cons rfl (.cons rfl (.cons rfl (.cons rfl (.nil _))))), (by repeat (first | exact List.Sublist.refl _ | apply List.Sublist.cons_cons | apply List.Sublist.cons | apply List.sublist_append_of_sublist_right)), rfl⟩
          · refine ⟨by omega, by omega, fun j hj => ?_⟩; by_cases e : (j : Int) < k
            · exact hkn j e
            · have ej : j = k.toNat := by omega
              rw [ej]; simp only [nameC, small, Bool.or_eq_true, Bool.and_eq_true, decide_eq_true_eq, decide_eq_false_iff_not, ← Bool.not_eq_true]; omega
          · omega
  · intro c1; try simp only [td] at c1
    refine V_exit (then_e (then_e (blk_e rfl (then_n ?_))))
    refine V_seq (V_region rfl ?_)
    refine L_go rfl (X_p (p_move rfl rfl) ?_)
    refine L_go rfl (X_p (p_lens ist9 rfl rfl) ?_)
    refine L_go rfl (X_wr (w_callP rfl rfl rfl (fun w hg => wout_c _ _ _ w)) ?_)
    rintro _ _ ⟨rfl, rfl⟩
    refine L_go rfl (X_p (p_not rfl rfl) ?_)
    refine L_go rfl (X_p (p_assign rfl rfl) ?_)
    refine L_then (.cons (k := 2) rfl .nil) ?_
    refine V_ret ?_
    refine Leave.nil (.tmp rfl .nil) ?_
    first | (show Value.bool false = _; rw [nameOk_bad (k := k.toNat) (by omega) (by simp only [nameC, small, Bool.or_eq_true, Bool.and_eq_true, decide_eq_true_eq, decide_eq_false_iff_not, ← Bool.not_eq_true]; omega)]; done) | (show Value.bool (!(oP _ _ _)) = _; rw [nameOk_end (fun j hj => hkn j (by omega))])
theorem rname_c (s : ByteArray) (hs : (s.size : Int) ≤ 9223372036854775807) (w : World) : FnP Try.prog 88 [.string s] w (.bool (nameOk s)) := by
  refine fn_pure Try.func88 rfl (by kernel_rfl) Try.ntmps88 Try.results88 rfl ?_
  refine V_seq (V_region rfl ?_)
  refine L_go rfl (X_p (p_assign rfl rfl) ?_)
  refine L_then (.cons (k := 0) rfl .nil) ?_
  refine V_seq ?_
  refine V_seq (V_region rfl ?_)
  refine L_go rfl (X_p (p_move rfl rfl) ?_)
  refine L_go rfl (X_p (p_lens ist9 rfl rfl) ?_)
  refine L_go rfl (X_p (p_lss rfl rfl rfl) ?_)
  refine L_go rfl (X_p (p_move rfl rfl) ?_)
  refine L_cases (d := 9) rfl ?_ ?_
  · intro g1; have g1' := g1; try simp only [td] at g1'
    refine L_no rfl rfl rfl g1 ?_
    refine L_no rfl rfl rfl g1 ?_
    refine L_no rfl rfl rfl g1 ?_
    refine L_go rfl (X_p (p_pick_t rfl rfl g1 rfl) ?_)
    refine L_then (.cons (k := 0) rfl (.cons (k := 13) rfl .nil)) ?_
    refine V_cond_t rfl rfl ?_
    refine V_seq (V_region rfl ?_)
    refine L_go rfl (X_p (p_assign rfl rfl) ?_)
    refine L_then (.cons (k := 2) rfl .nil) ?_
    refine V_ret (then_r ?_)
    refine Leave.nil (.tmp rfl .nil) ?_
    first | (show Value.bool false = _; rw [nameOk_bad (k := k.toNat) (by omega) (by simp only [nameC, small, Bool.or_eq_true, Bool.and_eq_true, decide_eq_true_eq, decide_eq_false_iff_not, ← Bool.not_eq_true]; omega)]; done) | (show Value.bool false = _; rw [nameOk_len (by omega)]; done) | (show Value.bool true = _; rw [nameOk_all (by omega) (by omega) (fun j hj => hkn j (by omega))])
  · intro g1; have g1' := g1; try simp only [td] at g1'
    refine L_yes rfl rfl rfl g1 (X_p (p_move rfl rfl) ?_)
    refine L_yes rfl rfl rfl g1 (X_p (p_lens ist9 rfl rfl) ?_)
    refine L_yes rfl rfl rfl g1 (X_p (p_gtr rfl rfl rfl) ?_)
    refine L_go rfl (X_p (p_pick_f rfl rfl g1 rfl) ?_)
    refine L_then (.cons (k := 0) rfl (.cons (k := 13) rfl .nil)) ?_
    refine V_cond rfl ?_ ?_
    · intro c1; try simp only [td] at c1
      refine V_seq (V_region rfl ?_)
      refine L_go rfl (X_p (p_assign rfl rfl) ?_)
      refine L_then (.cons (k := 2) rfl .nil) ?_
      refine V_ret (then_r ?_)
      refine Leave.nil (.tmp rfl .nil) ?_
      first | (show Value.bool false = _; rw [nameOk_bad (k := k.toNat) (by omega) (by simp only [nameC, small, Bool.or_eq_true, Bool.and_eq_true, decide_eq_true_eq, decide_eq_false_iff_not, ← Bool.not_eq_true]; omega)]; done) | (show Value.bool false = _; rw [nameOk_len (by omega)]; done) | (show Value.bool true = _; rw [nameOk_all (by omega) (by omega) (fun j hj => hkn j (by omega))])
    · intro c1; try simp only [td] at c1
      refine V_skip (then_n ?_)
      refine V_seq ?_
      refine V_seq (V_region rfl ?_)
      refine L_go rfl (X_p (p_assign rfl rfl) ?_)
      refine L_then (.cons (k := 0) rfl (.cons (k := 3) rfl .nil)) ?_
      refine V_block ?_
      refine V_loop0 (γ := Int) (.cons (k := 0) rfl .nil) (fun k => [(3, .int .i64 k)]) (fun k => 0 ≤ k ∧ k ≤ s.size ∧ ∀ j : Nat, (j : Int) < k → nameC s j = true) (fun k => (s.size - k).toNat) (0) (.cons rfl (.nil _)) (⟨by omega, by omega, fun j hj => by omega⟩) ?_
      rintro k hi
      obtain ⟨hk0, hk1, hkn⟩ := hi
      refine V_seq ?_
      refine V_seq (V_region rfl ?_)
      refine L_go rfl (X_p (p_move rfl rfl) ?_)
      refine L_go rfl (X_p (p_move rfl rfl) ?_)
      refine L_go rfl (X_p (p_lens ist9 rfl rfl) ?_)
      refine L_go rfl (X_p (p_lss rfl rfl rfl) ?_)
      refine L_then (.cons (k := 0) rfl (.cons (k := 3) rfl (.cons (k := 17) rfl .nil))) ?_
      refine V_cond rfl ?_ ?_
      · intro c2; try simp only [td] at c2
        refine V_skip (then_n ?_)
        refine V_seq ?_
        refine V_block ?_
        refine V_seq (V_region rfl ?_)
        refine L_go rfl (X_p (p_move rfl rfl) ?_)
        refine L_go rfl (X_p (p_move rfl rfl) ?_)
        refine L_go rfl (X_p (p_chr un9 rfl rfl rfl (by omega) (by omega)) ?_)
        refine L_go rfl (X_p (p_assign rfl rfl) ?_)
        refine L_then (.cons (k := 0) rfl (.cons (k := 3) rfl (.cons (k := 4) rfl .nil))) ?_
        refine V_seq (V_region rfl ?_)
        refine L_go rfl (X_p (p_move rfl rfl) ?_)
        refine L_go rfl (X_p (p_geq rfl rfl rfl) ?_)
        refine L_go rfl (X_p (p_move rfl rfl) ?_)
        refine L_cases (d := 25) rfl ?_ ?_
        · intro g2; have g2' := g2; try simp only [td] at g2'
          refine L_yes rfl rfl rfl g2 (X_p (p_move rfl rfl) ?_)
          refine L_yes rfl rfl rfl g2 (X_p (p_leq rfl rfl rfl) ?_)
          refine L_go rfl (X_p (p_pick_t rfl rfl g2 rfl) ?_)
          refine L_go rfl (X_p (p_assign rfl rfl) ?_)
          refine L_then (.cons (k := 0) rfl (.cons (k := 3) rfl (.cons (k := 4) rfl (.cons (k := 5) rfl .nil)))) ?_
          refine V_seq (V_region rfl ?_)
          refine L_go rfl (X_p (p_move rfl rfl) ?_)
          refine L_go rfl (X_p (p_not rfl rfl) ?_)
          refine L_go rfl (X_p (p_move rfl rfl) ?_)
          refine L_cases (d := 31) rfl ?_ ?_
          · intro g3; have g3' := g3; try simp only [td] at g3'
            refine L_yes rfl rfl rfl g3 (X_p (p_move rfl rfl) ?_)
            refine L_yes rfl rfl rfl g3 (X_p (p_eql rfl rfl rfl) ?_)
            refine L_yes rfl rfl rfl g3 (X_p (p_move rfl rfl) ?_)
            refine L_cases (d := 34) rfl ?_ ?_
            · intro g4; have g4' := g4; try simp only [td] at g4'
              refine L_no rfl rfl rfl g4 ?_
              refine L_no rfl rfl rfl g4 ?_
              refine L_no rfl rfl rfl g4 ?_
              refine L_nou rfl rfl rfl ?_
              refine L_nou rfl rfl rfl ?_
              refine L_no rfl rfl rfl g4 ?_
              refine L_no rfl rfl rfl g4 ?_
              refine L_nou rfl rfl rfl ?_
              refine L_nou rfl rfl rfl ?_
              refine L_no rfl rfl rfl g4 ?_
              refine L_no rfl rfl rfl g4 ?_
              refine L_yes rfl rfl rfl g3 (X_p (p_pick_t rfl rfl g4 rfl) ?_)
              refine L_go rfl (X_p (p_pick_t rfl rfl g3 rfl) ?_)
              refine L_then (.cons (k := 0) rfl (.cons (k := 3) rfl (.cons (k := 47) rfl .nil))) ?_
              refine V_cond_t rfl rfl ?_
              refine V_seq (V_region rfl ?_)
              refine L_go rfl (X_p (p_assign rfl rfl) ?_)
              refine L_then (.cons (k := 2) rfl .nil) ?_
              refine V_ret (blk_r (then_r (then_r (blk_r (then_r ?_)))))
              refine Leave.nil (.tmp rfl .nil) ?_
              first | (show Value.bool false = _; rw [nameOk_bad (k := k.toNat) (by omega) (by simp only [nameC, small, Bool.or_eq_true, Bool.and_eq_true, decide_eq_true_eq, decide_eq_false_iff_not, ← Bool.not_eq_true]; omega)]; done) | (show Value.bool false = _; rw [nameOk_len (by omega)]; done) | (show Value.bool true = _; rw [nameOk_all (by omega) (by omega) (fun j hj => hkn j (by omega))])
            · intro g4; have g4' := g4; try simp only [td] at g4'
              refine L_yes rfl rfl rfl g4 (X_p (p_move rfl rfl) ?_)
              refine L_yes rfl rfl rfl g4 (X_p (p_geq rfl rfl rfl) ?_)
              refine L_yes rfl rfl rfl g4 (X_p (p_move rfl rfl) ?_)
              refine L_cases (d := 37) rfl ?_ ?_
              · intro g5; have g5' := g5; try simp only [td] at g5'
                refine L_yes rfl rfl rfl g5 (X_p (p_move rfl rfl) ?_)
                refine L_yes rfl rfl rfl g5 (X_p (p_leq rfl rfl rfl) ?_)
                refine L_yes rfl rfl rfl g4 (X_p (p_pick_t rfl rfl g5 rfl) ?_)
                refine L_yes rfl rfl rfl g4 (X_p (p_move rfl rfl) ?_)
                refine L_cases (d := 41) rfl ?_ ?_
                · intro g6; have g6' := g6; try simp only [td] at g6'
                  refine L_no rfl rfl rfl g6 ?_
                  refine L_no rfl rfl rfl g6 ?_
                  refine L_yes rfl rfl rfl g4 (X_p (p_pick_t rfl rfl g6 rfl) ?_)
                  refine L_yes rfl rfl rfl g4 (X_p (p_not rfl rfl) ?_)
                  refine L_yes rfl rfl rfl g3 (X_p (p_pick_f rfl rfl g4 rfl) ?_)
                  refine L_go rfl (X_p (p_pick_t rfl rfl g3 rfl) ?_)
                  refine L_then (.cons (k := 0) rfl (.cons (k := 3) rfl (.cons (k := 47) rfl .nil))) ?_
                  refine V_cond_f rfl rfl ?_
                  refine V_skip (blk_n (then_n ?_))
                  refine V_region rfl ?_
                  refine L_go rfl (X_p (p_move rfl rfl) ?_)
                  first | refine L_go rfl (X_p (p_add' rfl rfl rfl (by unfold InI; omega)) ?_) | refine L_go rfl (X_p (p_add rfl rfl rfl) ?_)
                  refine L_go rfl (X_p (p_assign rfl rfl) ?_)
                  refine L_keep (.cons (k := 0) rfl (.cons (k := 3) rfl .nil)) (then_n ?_)
                  refine ⟨k + 1, ?_, ?_, (.cons rfl (.cons rfl (.nil _))), (by repeat (first | exact List.Sublist.refl _ | apply List.Sublist.cons_cons | apply List.Sublist.cons | apply List.sublist_append_of_sublist_right)), rfl⟩
                  · refine ⟨by omega, by omega, fun j hj => ?_⟩; by_cases e : (j : Int) < k
                    · exact hkn j e
                    · have ej : j = k.toNat := by omega
                      rw [ej]; simp only [nameC, small, Bool.or_eq_true, Bool.and_eq_true, decide_eq_true_eq, decide_eq_false_iff_not, ← Bool.not_eq_true]; omega
                  · omega
                · intro g6; have g6' := g6; try simp only [td] at g6'
                  refine L_yes rfl rfl rfl g6 (X_p (p_move rfl rfl) ?_)
                  refine L_yes rfl rfl rfl g6 (X_p (p_eql rfl rfl rfl) ?_)
                  refine L_yes rfl rfl rfl g4 (X_p (p_pick_f rfl rfl g6 rfl) ?_)
                  refine L_yes rfl rfl rfl g4 (X_p (p_not rfl rfl) ?_)
                  refine L_yes rfl rfl rfl g3 (X_p (p_pick_f rfl rfl g4 rfl) ?_)
                  refine L_go rfl (X_p (p_pick_t rfl rfl g3 rfl) ?_)
                  refine L_then (.cons (k := 0) rfl (.cons (k := 3) rfl (.cons (k := 47) rfl .nil))) ?_
                  refine V_cond rfl ?_ ?_
                  · intro c3; try simp only [td] at c3
                    refine V_seq (V_region rfl ?_)
                    refine L_go rfl (X_p (p_assign rfl rfl) ?_)
                    refine L_then (.cons (k := 2) rfl .nil) ?_
                    refine V_ret (blk_r (then_r (then_r (blk_r (then_r ?_)))))
                    refine Leave.nil (.tmp rfl .nil) ?_
                    first | (show Value.bool false = _; rw [nameOk_bad (k := k.toNat) (by omega) (by simp only [nameC, small, Bool.or_eq_true, Bool.and_eq_true, decide_eq_true_eq, decide_eq_false_iff_not, ← Bool.not_eq_true]; omega)]; done) | (show Value.bool false = _; rw [nameOk_len (by omega)]; done) | (show Value.bool true = _; rw [nameOk_all (by omega) (by omega) (fun j hj => hkn j (by omega))])
                  · intro c3; try simp only [td] at c3
                    refine V_skip (blk_n (then_n ?_))
                    refine V_region rfl ?_
                    refine L_go rfl (X_p (p_move rfl rfl) ?_)
                    first | refine L_go rfl (X_p (p_add' rfl rfl rfl (by unfold InI; omega)) ?_) | refine L_go rfl (X_p (p_add rfl rfl rfl) ?_)
                    refine L_go rfl (X_p (p_assign rfl rfl) ?_)
                    refine L_keep (.cons (k := 0) rfl (.cons (k := 3) rfl .nil)) (then_n ?_)
                    refine ⟨k + 1, ?_, ?_, (.cons rfl (.cons rfl (.nil _))), (by repeat (first | exact List.Sublist.refl _ | apply List.Sublist.cons_cons | apply List.Sublist.cons | apply List.sublist_append_of_sublist_right)), rfl⟩
                    · refine ⟨by omega, by omega, fun j hj => ?_⟩; by_cases e : (j : Int) < k
                      · exact hkn j e
                      · have ej : j = k.toNat := by omega
                        rw [ej]; simp only [nameC, small, Bool.or_eq_true, Bool.and_eq_true, decide_eq_true_eq, decide_eq_false_iff_not, ← Bool.not_eq_true]; omega
                    · omega
              · intro g5; have g5' := g5; try simp only [td] at g5'
                refine L_no rfl rfl rfl g5 ?_
                refine L_no rfl rfl rfl g5 ?_
                refine L_yes rfl rfl rfl g4 (X_p (p_pick_f rfl rfl g5 rfl) ?_)
                refine L_yes rfl rfl rfl g4 (X_p (p_move rfl rfl) ?_)
                refine L_yes rfl rfl rfl rfl (X_p (p_move rfl rfl) ?_)
                refine L_yes rfl rfl rfl rfl (X_p (p_eql rfl rfl rfl) ?_)
                refine L_yes rfl rfl rfl g4 (X_p (p_pick_f rfl rfl rfl rfl) ?_)
                refine L_yes rfl rfl rfl g4 (X_p (p_not rfl rfl) ?_)
                refine L_yes rfl rfl rfl g3 (X_p (p_pick_f rfl rfl g4 rfl) ?_)
                refine L_go rfl (X_p (p_pick_t rfl rfl g3 rfl) ?_)
                refine L_then (.cons (k := 0) rfl (.cons (k := 3) rfl (.cons (k := 47) rfl .nil))) ?_
                refine V_cond rfl ?_ ?_
                · intro c4; try simp only [td] at c4
                  refine V_seq (V_region rfl ?_)
                  refine L_go rfl (X_p (p_assign rfl rfl) ?_)
                  refine L_then (.cons (k := 2) rfl .nil) ?_
                  refine V_ret (blk_r (then_r (then_r (blk_r (then_r ?_)))))
                  refine Leave.nil (.tmp rfl .nil) ?_
                  first | (show Value.bool false = _; rw [nameOk_bad (k := k.toNat) (by omega) (by simp only [nameC, small, Bool.or_eq_true, Bool.and_eq_true, decide_eq_true_eq, decide_eq_false_iff_not, ← Bool.not_eq_true]; omega)]; done) | (show Value.bool false = _; rw [nameOk_len (by omega)]; done) | (show Value.bool true = _; rw [nameOk_all (by omega) (by omega) (fun j hj => hkn j (by omega))])
                · intro c4; try simp only [td] at c4
                  refine V_skip (blk_n (then_n ?_))
                  refine V_region rfl ?_
                  refine L_go rfl (X_p (p_move rfl rfl) ?_)
                  first | refine L_go rfl (X_p (p_add' rfl rfl rfl (by unfold InI; omega)) ?_) | refine L_go rfl (X_p (p_add rfl rfl rfl) ?_)
                  refine L_go rfl (X_p (p_assign rfl rfl) ?_)
                  refine L_keep (.cons (k := 0) rfl (.cons (k := 3) rfl .nil)) (then_n ?_)
                  refine ⟨k + 1, ?_, ?_, (.cons rfl (.cons rfl (.nil _))), (by repeat (first | exact List.Sublist.refl _ | apply List.Sublist.cons_cons | apply List.Sublist.cons | apply List.sublist_append_of_sublist_right)), rfl⟩
                  · refine ⟨by omega, by omega, fun j hj => ?_⟩; by_cases e : (j : Int) < k
                    · exact hkn j e
                    · have ej : j = k.toNat := by omega
                      rw [ej]; simp only [nameC, small, Bool.or_eq_true, Bool.and_eq_true, decide_eq_true_eq, decide_eq_false_iff_not, ← Bool.not_eq_true]; omega
                  · omega
          · intro g3; have g3' := g3; try simp only [td] at g3'
            refine L_no rfl rfl rfl g3 ?_
            refine L_no rfl rfl rfl g3 ?_
            refine L_no rfl rfl rfl g3 ?_
            refine L_nou rfl rfl rfl ?_
            refine L_nou rfl rfl rfl ?_
            refine L_nou rfl rfl rfl ?_
            refine L_nou rfl rfl rfl ?_
            refine L_nou rfl rfl rfl ?_
            refine L_nou rfl rfl rfl ?_
            refine L_nou rfl rfl rfl ?_
            refine L_nou rfl rfl rfl ?_
            refine L_nou rfl rfl rfl ?_
            refine L_nou rfl rfl rfl ?_
            refine L_nou rfl rfl rfl ?_
            refine L_no rfl rfl rfl g3 ?_
            refine L_go rfl (X_p (p_pick_f rfl rfl g3 rfl) ?_)
            refine L_then (.cons (k := 0) rfl (.cons (k := 3) rfl (.cons (k := 47) rfl .nil))) ?_
            refine V_cond_f rfl rfl ?_
            refine V_skip (blk_n (then_n ?_))
            refine V_region rfl ?_
            refine L_go rfl (X_p (p_move rfl rfl) ?_)
            first | refine L_go rfl (X_p (p_add' rfl rfl rfl (by unfold InI; omega)) ?_) | refine L_go rfl (X_p (p_add rfl rfl rfl) ?_)
            refine L_go rfl (X_p (p_assign rfl rfl) ?_)
            refine L_keep (.cons (k := 0) rfl (.cons (k := 3) rfl .nil)) (then_n ?_)
            refine ⟨k + 1, ?_, ?_, (.cons rfl (.cons rfl (.nil _))), (by repeat (first | exact List.Sublist.refl _ | apply List.Sublist.cons_cons | apply List.Sublist.cons | apply List.sublist_append_of_sublist_right)), rfl⟩
            · refine ⟨by omega, by omega, fun j hj => ?_⟩; by_cases e : (j : Int) < k
              · exact hkn j e
              · have ej : j = k.toNat := by omega
                rw [ej]; simp only [nameC, small, Bool.or_eq_true, Bool.and_eq_true, decide_eq_true_eq, decide_eq_false_iff_not, ← Bool.not_eq_true]; omega
            · omega
        · intro g2; have g2' := g2; try simp only [td] at g2'
          refine L_no rfl rfl rfl g2 ?_
          refine L_no rfl rfl rfl g2 ?_
          refine L_go rfl (X_p (p_pick_f rfl rfl g2 rfl) ?_)
          refine L_go rfl (X_p (p_assign rfl rfl) ?_)
          refine L_then (.cons (k := 0) rfl (.cons (k := 3) rfl (.cons (k := 4) rfl (.cons (k := 5) rfl .nil)))) ?_
          refine V_seq (V_region rfl ?_)
          refine L_go rfl (X_p (p_move rfl rfl) ?_)
          refine L_go rfl (X_p (p_not rfl rfl) ?_)
          refine L_go rfl (X_p (p_move rfl rfl) ?_)
          refine L_yes rfl rfl rfl rfl (X_p (p_move rfl rfl) ?_)
          refine L_yes rfl rfl rfl rfl (X_p (p_eql rfl rfl rfl) ?_)
          refine L_yes rfl rfl rfl rfl (X_p (p_move rfl rfl) ?_)
          refine L_cases (d := 34) rfl ?_ ?_
          · intro g7; have g7' := g7; try simp only [td] at g7'
            refine L_no rfl rfl rfl g7 ?_
            refine L_no rfl rfl rfl g7 ?_
            refine L_no rfl rfl rfl g7 ?_
            refine L_nou rfl rfl rfl ?_
            refine L_nou rfl rfl rfl ?_
            refine L_no rfl rfl rfl g7 ?_
            refine L_no rfl rfl rfl g7 ?_
            refine L_nou rfl rfl rfl ?_
            refine L_nou rfl rfl rfl ?_
            refine L_no rfl rfl rfl g7 ?_
            refine L_no rfl rfl rfl g7 ?_
            refine L_yes rfl rfl rfl rfl (X_p (p_pick_t rfl rfl g7 rfl) ?_)
            refine L_go rfl (X_p (p_pick_t rfl rfl rfl rfl) ?_)
            refine L_then (.cons (k := 0) rfl (.cons (k := 3) rfl (.cons (k := 47) rfl .nil))) ?_
            refine V_cond_t rfl rfl ?_
            refine V_seq (V_region rfl ?_)
            refine L_go rfl (X_p (p_assign rfl rfl) ?_)
            refine L_then (.cons (k := 2) rfl .nil) ?_
            refine V_ret (blk_r (then_r (then_r (blk_r (then_r ?_)))))
            refine Leave.nil (.tmp rfl .nil) ?_
            first | (show Value.bool false = _; rw [nameOk_bad (k := k.toNat) (by omega) (by simp only [nameC, small, Bool.or_eq_true, Bool.and_eq_true, decide_eq_true_eq, decide_eq_false_iff_not, ← Bool.not_eq_true]; omega)]; done) | (show Value.bool false = _; rw [nameOk_len (by omega)]; done) | (show Value.bool true = _; rw [nameOk_all (by omega) (by omega) (fun j hj => hkn j (by omega))])
          · intro g7; have g7' := g7; try simp only [td] at g7'
            refine L_yes rfl rfl rfl g7 (X_p (p_move rfl rfl) ?_)
            refine L_yes rfl rfl rfl g7 (X_p (p_geq rfl rfl rfl) ?_)
            refine L_yes rfl rfl rfl g7 (X_p (p_move rfl rfl) ?_)
            refine L_cases (d := 37) rfl ?_ ?_
            · intro g8; have g8' := g8; try simp only [td] at g8'
              refine L_yes rfl rfl rfl g8 (X_p (p_move rfl rfl) ?_)
              refine L_yes rfl rfl rfl g8 (X_p (p_leq rfl rfl rfl) ?_)
              refine L_yes rfl rfl rfl g7 (X_p (p_pick_t rfl rfl g8 rfl) ?_)
              refine L_yes rfl rfl rfl g7 (X_p (p_move rfl rfl) ?_)
              refine L_cases (d := 41) rfl ?_ ?_
              · intro g9; have g9' := g9; try simp only [td] at g9'
                refine L_no rfl rfl rfl g9 ?_
                refine L_no rfl rfl rfl g9 ?_
                refine L_yes rfl rfl rfl g7 (X_p (p_pick_t rfl rfl g9 rfl) ?_)
                refine L_yes rfl rfl rfl g7 (X_p (p_not rfl rfl) ?_)
                refine L_yes rfl rfl rfl rfl (X_p (p_pick_f rfl rfl g7 rfl) ?_)
                refine L_go rfl (X_p (p_pick_t rfl rfl rfl rfl) ?_)
                refine L_then (.cons (k := 0) rfl (.cons (k := 3) rfl (.cons (k := 47) rfl .nil))) ?_
                refine V_cond_f rfl rfl ?_
                refine V_skip (blk_n (then_n ?_))
                refine V_region rfl ?_
                refine L_go rfl (X_p (p_move rfl rfl) ?_)
                first | refine L_go rfl (X_p (p_add' rfl rfl rfl (by unfold InI; omega)) ?_) | refine L_go rfl (X_p (p_add rfl rfl rfl) ?_)
                refine L_go rfl (X_p (p_assign rfl rfl) ?_)
                refine L_keep (.cons (k := 0) rfl (.cons (k := 3) rfl .nil)) (then_n ?_)
                refine ⟨k + 1, ?_, ?_, (.cons rfl (.cons rfl (.nil _))), (by repeat (first | exact List.Sublist.refl _ | apply List.Sublist.cons_cons | apply List.Sublist.cons | apply List.sublist_append_of_sublist_right)), rfl⟩
                · refine ⟨by omega, by omega, fun j hj => ?_⟩; by_cases e : (j : Int) < k
                  · exact hkn j e
                  · have ej : j = k.toNat := by omega
                    rw [ej]; simp only [nameC, small, Bool.or_eq_true, Bool.and_eq_true, decide_eq_true_eq, decide_eq_false_iff_not, ← Bool.not_eq_true]; omega
                · omega
              · intro g9; have g9' := g9; try simp only [td] at g9'
                refine L_yes rfl rfl rfl g9 (X_p (p_move rfl rfl) ?_)
                refine L_yes rfl rfl rfl g9 (X_p (p_eql rfl rfl rfl) ?_)
                refine L_yes rfl rfl rfl g7 (X_p (p_pick_f rfl rfl g9 rfl) ?_)
                refine L_yes rfl rfl rfl g7 (X_p (p_not rfl rfl) ?_)
                refine L_yes rfl rfl rfl rfl (X_p (p_pick_f rfl rfl g7 rfl) ?_)
                refine L_go rfl (X_p (p_pick_t rfl rfl rfl rfl) ?_)
                refine L_then (.cons (k := 0) rfl (.cons (k := 3) rfl (.cons (k := 47) rfl .nil))) ?_
                refine V_cond rfl ?_ ?_
                · intro c5; try simp only [td] at c5
                  refine V_seq (V_region rfl ?_)
                  refine L_go rfl (X_p (p_assign rfl rfl) ?_)
                  refine L_then (.cons (k := 2) rfl .nil) ?_
                  refine V_ret (blk_r (then_r (then_r (blk_r (then_r ?_)))))
                  refine Leave.nil (.tmp rfl .nil) ?_
                  first | (show Value.bool false = _; rw [nameOk_bad (k := k.toNat) (by omega) (by simp only [nameC, small, Bool.or_eq_true, Bool.and_eq_true, decide_eq_true_eq, decide_eq_false_iff_not, ← Bool.not_eq_true]; omega)]; done) | (show Value.bool false = _; rw [nameOk_len (by omega)]; done) | (show Value.bool true = _; rw [nameOk_all (by omega) (by omega) (fun j hj => hkn j (by omega))])
                · intro c5; try simp only [td] at c5
                  refine V_skip (blk_n (then_n ?_))
                  refine V_region rfl ?_
                  refine L_go rfl (X_p (p_move rfl rfl) ?_)
                  first | refine L_go rfl (X_p (p_add' rfl rfl rfl (by unfold InI; omega)) ?_) | refine L_go rfl (X_p (p_add rfl rfl rfl) ?_)
                  refine L_go rfl (X_p (p_assign rfl rfl) ?_)
                  refine L_keep (.cons (k := 0) rfl (.cons (k := 3) rfl .nil)) (then_n ?_)
                  refine ⟨k + 1, ?_, ?_, (.cons rfl (.cons rfl (.nil _))), (by repeat (first | exact List.Sublist.refl _ | apply List.Sublist.cons_cons | apply List.Sublist.cons | apply List.sublist_append_of_sublist_right)), rfl⟩
                  · refine ⟨by omega, by omega, fun j hj => ?_⟩; by_cases e : (j : Int) < k
                    · exact hkn j e
                    · have ej : j = k.toNat := by omega
                      rw [ej]; simp only [nameC, small, Bool.or_eq_true, Bool.and_eq_true, decide_eq_true_eq, decide_eq_false_iff_not, ← Bool.not_eq_true]; omega
                  · omega
            · intro g8; have g8' := g8; try simp only [td] at g8'
              refine L_no rfl rfl rfl g8 ?_
              refine L_no rfl rfl rfl g8 ?_
              refine L_yes rfl rfl rfl g7 (X_p (p_pick_f rfl rfl g8 rfl) ?_)
              refine L_yes rfl rfl rfl g7 (X_p (p_move rfl rfl) ?_)
              refine L_yes rfl rfl rfl rfl (X_p (p_move rfl rfl) ?_)
              refine L_yes rfl rfl rfl rfl (X_p (p_eql rfl rfl rfl) ?_)
              refine L_yes rfl rfl rfl g7 (X_p (p_pick_f rfl rfl rfl rfl) ?_)
              refine L_yes rfl rfl rfl g7 (X_p (p_not rfl rfl) ?_)
              refine L_yes rfl rfl rfl rfl (X_p (p_pick_f rfl rfl g7 rfl) ?_)
              refine L_go rfl (X_p (p_pick_t rfl rfl rfl rfl) ?_)
              refine L_then (.cons (k := 0) rfl (.cons (k := 3) rfl (.cons (k := 47) rfl .nil))) ?_
              refine V_cond rfl ?_ ?_
              · intro c6; try simp only [td] at c6
                refine V_seq (V_region rfl ?_)
                refine L_go rfl (X_p (p_assign rfl rfl) ?_)
                refine L_then (.cons (k := 2) rfl .nil) ?_
                refine V_ret (blk_r (then_r (then_r (blk_r (then_r ?_)))))
                refine Leave.nil (.tmp rfl .nil) ?_
                first | (show Value.bool false = _; rw [nameOk_bad (k := k.toNat) (by omega) (by simp only [nameC, small, Bool.or_eq_true, Bool.and_eq_true, decide_eq_true_eq, decide_eq_false_iff_not, ← Bool.not_eq_true]; omega)]; done) | (show Value.bool false = _; rw [nameOk_len (by omega)]; done) | (show Value.bool true = _; rw [nameOk_all (by omega) (by omega) (fun j hj => hkn j (by omega))])
              · intro c6; try simp only [td] at c6
                refine V_skip (blk_n (then_n ?_))
                refine V_region rfl ?_
                refine L_go rfl (X_p (p_move rfl rfl) ?_)
                first | refine L_go rfl (X_p (p_add' rfl rfl rfl (by unfold InI; omega)) ?_) | refine L_go rfl (X_p (p_add rfl rfl rfl) ?_)
                refine L_go rfl (X_p (p_assign rfl rfl) ?_)
                refine L_keep (.cons (k := 0) rfl (.cons (k := 3) rfl .nil)) (then_n ?_)
                refine ⟨k + 1, ?_, ?_, (.cons rfl (.cons rfl (.nil _))), (by repeat (first | exact List.Sublist.refl _ | apply List.Sublist.cons_cons | apply List.Sublist.cons | apply List.sublist_append_of_sublist_right)), rfl⟩
                · refine ⟨by omega, by omega, fun j hj => ?_⟩; by_cases e : (j : Int) < k
                  · exact hkn j e
                  · have ej : j = k.toNat := by omega
                    rw [ej]; simp only [nameC, small, Bool.or_eq_true, Bool.and_eq_true, decide_eq_true_eq, decide_eq_false_iff_not, ← Bool.not_eq_true]; omega
                · omega
      · intro c2; try simp only [td] at c2
        refine V_exit (then_e (then_e (blk_e rfl (then_n ?_))))
        refine V_seq (V_region rfl ?_)
        refine L_go rfl (X_p (p_assign rfl rfl) ?_)
        refine L_then (.cons (k := 2) rfl .nil) ?_
        refine V_ret ?_
        refine Leave.nil (.tmp rfl .nil) ?_
        first | (show Value.bool false = _; rw [nameOk_bad (k := k.toNat) (by omega) (by simp only [nameC, small, Bool.or_eq_true, Bool.and_eq_true, decide_eq_true_eq, decide_eq_false_iff_not, ← Bool.not_eq_true]; omega)]; done) | (show Value.bool false = _; rw [nameOk_len (by omega)]; done) | (show Value.bool true = _; rw [nameOk_all (by omega) (by omega) (fun j hj => hkn j (by omega))])
theorem never_c (l : List Int) (v : Value) (w : World) (hv : SliceR w 1 v (l.map fun n => [Value.int .i64 n])) (hl : (l.length : Int) ≤ 9223372036854775806) : FnP Try.prog 40 [v] w (.bool (l.any fun n => oP n 0 100000)) := by
  refine fn_pure Try.func40 rfl (by kernel_rfl) Try.ntmps40 Try.results40 rfl ?_
  refine V_seq (V_region rfl ?_)
  refine L_go rfl (X_p (p_assign rfl rfl) ?_)
  refine L_then (.cons (k := 0) rfl .nil) ?_
  refine V_seq (V_region rfl ?_)
  refine L_go rfl (X_p (p_move rfl rfl) ?_)
  refine L_go rfl (X_wr (w_callP rfl rfl rfl (fun w hg => contInt_c l _ _ _ _ w (hv.good hg) hl (fun x w' he => never1_c x w'))) ?_)
  rintro _ _ ⟨rfl, rfl⟩
  refine L_go rfl (X_p (p_assign rfl rfl) ?_)
  refine L_then (.cons (k := 2) rfl .nil) ?_
  refine V_ret ?_
  refine Leave.nil (.tmp rfl .nil) ?_
  rfl
theorem wide1_c (n most : Int) (hm : 0 ≤ most ∧ most ≤ 1000000000000000000) (b ty : Nat) (fr : Nat × Nat) (w : World) (hb : w.heap[b]? = some (.cells #[.int .i64 most] ty fr)) : FnP Try.prog 67 [.int .i64 n, .pointer (some ⟨b, 0, none⟩)] w (.bool (oP n (-most) most)) := by
  refine fn_pure Try.func67 rfl (by kernel_rfl) Try.ntmps67 Try.results67 rfl ?_
  refine V_seq (V_region rfl ?_)
  refine L_go rfl (X_p (p_assign rfl rfl) ?_)
  refine L_then (.cons (k := 0) rfl (.cons (k := 1) rfl .nil)) ?_
  refine V_seq (V_region rfl ?_)
  refine L_go rfl (X_p (p_move rfl rfl) ?_)
  refine L_go rfl (X_rd (r_loadB ag3 rfl rfl (own_cell hb 0) List.not_mem_nil) ?_)
  first | refine L_go rfl (X_p (p_neg' rfl rfl (by unfold InI; omega)) ?_) | refine L_go rfl (X_p (p_neg rfl rfl) ?_)
  refine L_go rfl (X_rd (r_loadB ag3 rfl rfl (own_cell hb 0) List.not_mem_nil) ?_)
  refine L_go rfl (X_wr (w_callP rfl rfl rfl (fun w hg => out_c _ _ _ w)) ?_)
  rintro _ _ ⟨rfl, rfl⟩
  refine L_go rfl (X_p (p_assign rfl rfl) ?_)
  refine L_then (.cons (k := 3) rfl .nil) ?_
  refine V_ret ?_
  refine Leave.nil (.tmp rfl .nil) ?_
  rfl
theorem wide_c (most : Int) (hm : 0 ≤ most ∧ most ≤ 1000000000000000000) (l : List Int) (v : Value) (w : World) (hv : SliceR w 1 v (l.map fun n => [Value.int .i64 n])) (hl : (l.length : Int) ≤ 9223372036854775806) : FnP Try.prog 44 [.int .i64 most, v] w (.bool (l.any fun n => oP n (-most) most)) := by
  refine fn_pure Try.func44 rfl (by kernel_rfl) Try.ntmps44 Try.results44 rfl ?_
  refine V_seq (V_region rfl ?_)
  refine L_go rfl (X_wr (w_box rfl rfl) ?_)
  rintro _ _ ⟨b1, hb1, rfl, rfl⟩
  refine L_go rfl (X_p (p_assign rfl rfl) ?_)
  refine L_then (.cons (k := 1) rfl (.cons (k := 2) rfl .nil)) ?_
  refine V_seq (V_region rfl ?_)
  refine L_go rfl (X_p (p_move rfl rfl) ?_)
  refine L_go rfl (X_p (p_func rfl rfl rfl) ?_)
  refine L_go rfl (X_wr (w_callP rfl rfl rfl (fun w hg => contInt_c l _ _ _ _ w (hv.good hg) hl (fun x w' he => wide1_c x most hm _ _ _ w' (he.heap (hg.own _ (by repeat first | exact mH | apply mT)))))) ?_)
  rintro _ _ ⟨rfl, rfl⟩
  refine L_go rfl (X_p (p_assign rfl rfl) ?_)
  refine L_then (.cons (k := 4) rfl .nil) ?_
  refine V_ret ?_
  refine Leave.nil (.tmp rfl .nil) ?_
  rfl
theorem chk1_c (y x : Tracker) (b ty : Nat) (fr : Nat × Nat) (w : World) (hb : w.heap[b]? = some (.cells (Tracker.cells x).toArray ty fr)) : FnP Try.prog 73 [.agg (Tracker.cells y).toArray, .pointer (some ⟨b, 0, none⟩)] w (.bool (decide (y.name = x.name))) := by
  refine fn_pure Try.func73 rfl (by kernel_rfl) Try.ntmps73 Try.results73 rfl ?_
  refine V_seq (V_region rfl ?_)
  refine L_go rfl (X_wr (w_box rfl rfl) ?_)
  rintro _ _ ⟨b1, hb1, rfl, rfl⟩
  refine L_go rfl (X_p (p_assign rfl rfl) ?_)
  refine L_then (.cons (k := 1) rfl (.cons (k := 2) rfl .nil)) ?_
  refine V_seq (V_region rfl ?_)
  refine L_go rfl (X_p (p_fieldo fo116_0 rfl rfl) ?_)
  refine L_go rfl (X_rd (r_load ag9 rfl rfl (by repeat first | exact mH | apply mT) rfl) ?_)
  refine L_go rfl (X_p (p_field fo116_0 rfl rfl) ?_)
  refine L_go rfl (X_rd (r_loadB ag9 rfl rfl (own_cell hb 0) List.not_mem_nil) ?_)
  refine L_go rfl (X_p (p_eqls rfl rfl rfl) ?_)
  refine L_go rfl (X_p (p_assign rfl rfl) ?_)
  refine L_then (.cons (k := 3) rfl .nil) ?_
  refine V_ret ?_
  refine Leave.nil (.tmp rfl .nil) ?_
  rfl
theorem check_c (t : Task) (v : Value) (w : World) (ht : TaskR w v t) : FnP Try.prog 54 [v] w (.tuple #[.int .i64 (checkT t).1, .int .i64 (checkT t).2.1, .int .i64 (checkT t).2.2]) := by
  have hT := ht
  obtain ⟨tv, pv, rfl, htr, hpl⟩ := ht.ex
  obtain ⟨ta, tc, rfl, htc, hte⟩ := htr.ex
  obtain ⟨pa, pc, rfl, hpc, hpe⟩ := hpl.ex
  have hltr := hT.ltr
  have hlpl := hT.lpl
  simp only [List.length_map] at hT htc hpc ⊢
  refine fn_pure Try.func54 rfl (by kernel_rfl) Try.ntmps54 Try.results54 rfl ?_
  refine V_seq (V_region rfl ?_)
  refine L_go rfl (X_wr (w_box rfl rfl) ?_)
  rintro _ _ ⟨b1, hb1, rfl, rfl⟩
  refine L_go rfl (X_p (p_assign rfl rfl) ?_)
  refine L_go rfl (X_p (p_assign rfl rfl) ?_)
  refine L_go rfl (X_p (p_assign rfl rfl) ?_)
  refine L_then (.cons (k := 1) rfl .nil) ?_
  refine V_seq ?_
  refine V_block ?_
  refine V_seq (V_region rfl ?_)
  refine L_go rfl (X_p (p_fieldo fo25_3 rfl rfl) ?_)
  refine L_go rfl (X_rd (r_load ag22 rfl rfl (by repeat first | exact mH | apply mT) rfl) ?_)
  refine L_go rfl (X_p (p_len isl22 rfl rfl) ?_)
  refine L_go rfl (X_p (p_gtr rfl rfl rfl) ?_)
  refine L_go rfl (X_p (p_move rfl rfl) ?_)
  refine L_cases (d := 16) rfl ?_ ?_
  · intro g1; have g1' := g1; try simp only [td] at g1'
    refine L_no rfl rfl rfl g1 ?_
    refine L_no rfl rfl rfl g1 ?_
    refine L_no rfl rfl rfl g1 ?_
    refine L_no rfl rfl rfl g1 ?_
    refine L_go rfl (X_p (p_pick_t rfl rfl g1 rfl) ?_)
    refine L_go rfl (X_p (p_assign rfl rfl) ?_)
    refine L_then (.cons (k := 1) rfl (.cons (k := 11) rfl .nil)) ?_
    refine V_cond_t rfl rfl ?_
    refine V_seq (V_region rfl ?_)
    refine L_go rfl (X_p (p_assign rfl rfl) ?_)
    refine L_go rfl (X_p (p_assign rfl rfl) ?_)
    refine L_go rfl (X_p (p_assign rfl rfl) ?_)
    refine L_then (.cons (k := 2) rfl (.cons (k := 3) rfl (.cons (k := 4) rfl .nil))) ?_
    refine V_ret (blk_r (then_r ?_))
    refine Leave.nil (.tmp rfl (.tmp rfl (.tmp rfl .nil))) ?_
    rw [checkT_long (by omega)]; rfl
  · intro g1; have g1' := g1; try simp only [td] at g1'
    refine L_yes rfl rfl rfl g1 (X_p (p_fieldo fo25_4 rfl rfl) ?_)
    refine L_yes rfl rfl rfl g1 (X_rd (r_load ag23 rfl rfl (by repeat first | exact mH | apply mT) rfl) ?_)
    refine L_yes rfl rfl rfl g1 (X_p (p_len isl23 rfl rfl) ?_)
    refine L_yes rfl rfl rfl g1 (X_p (p_gtr rfl rfl rfl) ?_)
    refine L_go rfl (X_p (p_pick_f rfl rfl g1 rfl) ?_)
    refine L_go rfl (X_p (p_assign rfl rfl) ?_)
    refine L_then (.cons (k := 1) rfl (.cons (k := 11) rfl .nil)) ?_
    refine V_cond rfl ?_ ?_
    · intro c1; try simp only [td] at c1
      refine V_seq (V_region rfl ?_)
      refine L_go rfl (X_p (p_assign rfl rfl) ?_)
      refine L_go rfl (X_p (p_assign rfl rfl) ?_)
      refine L_go rfl (X_p (p_assign rfl rfl) ?_)
      refine L_then (.cons (k := 2) rfl (.cons (k := 3) rfl (.cons (k := 4) rfl .nil))) ?_
      refine V_ret (blk_r (then_r ?_))
      refine Leave.nil (.tmp rfl (.tmp rfl (.tmp rfl .nil))) ?_
      rw [checkT_long (by omega)]; rfl
    · intro c1; try simp only [td] at c1
      refine V_seq (V_region rfl ?_)
      refine L_go rfl (X_p (p_fieldo fo25_0 rfl rfl) ?_)
      refine L_go rfl (X_rd (r_load ag3 rfl rfl (by repeat first | exact mH | apply mT) rfl) ?_)
      refine L_go rfl (X_wr (w_slice (r := [_]) un27 sz3 zr3 rfl (by decide) rfl (by decide) rfl rfl) ?_)
      rintro _ _ ⟨b2, hb2, rfl, rfl⟩
      refine L_go rfl (X_wr (w_callP rfl rfl rfl (fun w hg => never_c [_] _ w (own_ints (l := [_]) (hg.own _ (by repeat first | exact mH | apply mT)) rfl (by decide)) (by simp))) ?_)
      rintro _ _ ⟨rfl, rfl⟩
      refine L_go rfl (X_p (p_move rfl rfl) ?_)
      refine L_cases (d := 27) rfl ?_ ?_
      · intro g2; have g2' := g2; try simp only [td] at g2'
        refine L_no rfl rfl rfl g2 ?_
        refine L_no rfl rfl rfl g2 ?_
        refine L_no rfl rfl rfl g2 ?_
        refine L_go rfl (X_p (p_pick_t rfl rfl g2 rfl) ?_)
        refine L_go rfl (X_p (p_move rfl rfl) ?_)
        refine L_no rfl rfl rfl rfl ?_
        refine L_no rfl rfl rfl rfl ?_
        refine L_no rfl rfl rfl rfl ?_
        refine L_go rfl (X_p (p_pick_t rfl rfl rfl rfl) ?_)
        refine L_go rfl (X_p (p_assign rfl rfl) ?_)
        refine L_then (.cons (k := 1) rfl (.cons (k := 22) rfl .nil)) ?_
        refine V_cond_t rfl rfl ?_
        refine V_seq (V_region rfl ?_)
        refine L_go rfl (X_p (p_assign rfl rfl) ?_)
        refine L_go rfl (X_p (p_assign rfl rfl) ?_)
        refine L_go rfl (X_p (p_assign rfl rfl) ?_)
        refine L_then (.cons (k := 2) rfl (.cons (k := 3) rfl (.cons (k := 4) rfl .nil))) ?_
        refine V_ret (blk_r (then_r ?_))
        refine Leave.nil (.tmp rfl (.tmp rfl (.tmp rfl .nil))) ?_
        rw [checkT_range (by omega) (by omega) (by simp [*])]; rfl
      · intro g2; have g2' := g2; try simp only [td] at g2'
        refine L_yes rfl rfl rfl g2 (X_p (p_fieldo fo25_1 rfl rfl) ?_)
        refine L_yes rfl rfl rfl g2 (X_rd (r_load ag3 rfl rfl (by repeat first | exact mH | apply mT) rfl) ?_)
        refine L_yes rfl rfl rfl g2 (X_wr (w_callP rfl rfl rfl (fun w hg => out_c _ _ _ w)) ?_)
        rintro _ _ ⟨rfl, rfl⟩
        refine L_go rfl (X_p (p_pick_f rfl rfl g2 rfl) ?_)
        refine L_go rfl (X_p (p_move rfl rfl) ?_)
        refine L_cases (d := 32) rfl ?_ ?_
        · intro g3; have g3' := g3; try simp only [td] at g3'
          refine L_no rfl rfl rfl g3 ?_
          refine L_no rfl rfl rfl g3 ?_
          refine L_no rfl rfl rfl g3 ?_
          refine L_go rfl (X_p (p_pick_t rfl rfl g3 rfl) ?_)
          refine L_go rfl (X_p (p_assign rfl rfl) ?_)
          refine L_then (.cons (k := 1) rfl (.cons (k := 22) rfl .nil)) ?_
          refine V_cond_t rfl rfl ?_
          refine V_seq (V_region rfl ?_)
          refine L_go rfl (X_p (p_assign rfl rfl) ?_)
          refine L_go rfl (X_p (p_assign rfl rfl) ?_)
          refine L_go rfl (X_p (p_assign rfl rfl) ?_)
          refine L_then (.cons (k := 2) rfl (.cons (k := 3) rfl (.cons (k := 4) rfl .nil))) ?_
          refine V_ret (blk_r (then_r ?_))
          refine Leave.nil (.tmp rfl (.tmp rfl (.tmp rfl .nil))) ?_
          rw [checkT_range (by omega) (by omega) (by simp [*])]; rfl
        · intro g3; have g3' := g3; try simp only [td] at g3'
          refine L_yes rfl rfl rfl g3 (X_p (p_fieldo fo25_2 rfl rfl) ?_)
          refine L_yes rfl rfl rfl g3 (X_rd (r_load ag3 rfl rfl (by repeat first | exact mH | apply mT) rfl) ?_)
          refine L_yes rfl rfl rfl g3 (X_wr (w_callP rfl rfl rfl (fun w hg => out_c _ _ _ w)) ?_)
          rintro _ _ ⟨rfl, rfl⟩
          refine L_go rfl (X_p (p_pick_f rfl rfl g3 rfl) ?_)
          refine L_go rfl (X_p (p_assign rfl rfl) ?_)
          refine L_then (.cons (k := 1) rfl (.cons (k := 22) rfl .nil)) ?_
          refine V_cond rfl ?_ ?_
          · intro c2; try simp only [td] at c2
            refine V_seq (V_region rfl ?_)
            refine L_go rfl (X_p (p_assign rfl rfl) ?_)
            refine L_go rfl (X_p (p_assign rfl rfl) ?_)
            refine L_go rfl (X_p (p_assign rfl rfl) ?_)
            refine L_then (.cons (k := 2) rfl (.cons (k := 3) rfl (.cons (k := 4) rfl .nil))) ?_
            refine V_ret (blk_r (then_r ?_))
            refine Leave.nil (.tmp rfl (.tmp rfl (.tmp rfl .nil))) ?_
            rw [checkT_range (by omega) (by omega) (by simp [*])]; rfl
          · intro c2; try simp only [td] at c2
            refine V_skip (blk_n (then_n ?_))
            refine V_seq ?_
            refine V_seq (V_region rfl ?_)
            refine L_go rfl (X_p (p_fieldo fo25_3 rfl rfl) ?_)
            refine L_go rfl (X_rd (r_load ag22 rfl rfl (by repeat first | exact mH | apply mT) rfl) ?_)
            refine L_go rfl (X_p (p_len isl22 rfl rfl) ?_)
            refine L_go rfl (X_p (p_move rfl rfl) ?_)
            refine L_then (.cons (k := 1) rfl (.cons (k := 38) rfl (.cons (k := 39) rfl (.cons (k := 40) rfl .nil)))) ?_
            refine V_block ?_
            refine V_loop0 (γ := Int) (.cons (k := 1) rfl (.cons (k := 38) rfl (.cons (k := 39) rfl .nil))) (fun k => [(40, .int .i64 k)]) (fun k => 0 ≤ k ∧ k ≤ t.trackers.length ∧ ∀ j : Nat, (j : Int) < k → errTr t j = 0) (fun k => (t.trackers.length - k).toNat) (0) (.cons rfl (.nil _)) (⟨by omega, by omega, fun j hj => by omega⟩) ?_
            rintro k hi
            obtain ⟨hk0, hk1, hkp⟩ := hi
            refine V_seq (V_region rfl ?_)
            refine L_go rfl (X_p (p_lss rfl rfl rfl) ?_)
            refine L_then (.cons (k := 1) rfl (.cons (k := 38) rfl (.cons (k := 39) rfl (.cons (k := 40) rfl (.cons (k := 41) rfl .nil))))) ?_
            refine V_seq ?_
            refine V_cond rfl ?_ ?_
            · intro c3; try simp only [td] at c3
              obtain ⟨tb, rfl, hc⟩ := hte k.toNat _ (getD_cells (d := trZ) (by omega))
              refine V_skip (then_n ?_)
              refine V_seq ?_
              refine V_block ?_
              refine V_seq (V_region rfl ?_)
              refine L_go rfl (X_p (p_move rfl rfl) ?_)
              refine L_go rfl (X_p (p_idx es22 rfl rfl rfl (by omega) (by omega)) ?_)
              refine L_go rfl (X_rd (r_loadBA ag116 sz116 rfl rfl hc rfl List.not_mem_nil) ?_)
              refine L_go rfl (X_wr (w_alloc zr116 rfl) ?_)
              rintro _ _ ⟨b3, hb3, rfl, rfl⟩
              refine L_go rfl (X_p (p_assign rfl rfl) ?_)
              refine L_go rfl (X_wr (w_store (cs' := [_, _, _, _, _, _]) sz116 rfl rfl rfl rfl rfl (by repeat first | exact .head | apply SetAt.tail) (Nat.le_of_ble_eq_true rfl) rfl) ?_)
              rintro _ _ ⟨rfl, rfl⟩
              refine L_then (.cons (k := 1) rfl (.cons (k := 5) rfl (.cons (k := 6) rfl (.cons (k := 38) rfl (.cons (k := 39) rfl (.cons (k := 40) rfl .nil)))))) ?_
              refine V_block ?_
              refine V_seq (V_region rfl ?_)
              refine L_go rfl (X_p (p_fieldo fo116_0 rfl rfl) ?_)
              refine L_go rfl (X_rd (r_load ag9 rfl rfl (by repeat first | exact mH | apply mT) rfl) ?_)
              refine L_go rfl (X_wr (w_callP rfl rfl rfl (fun w hg => wname_c _ (hT.name _) w)) ?_)
              rintro _ _ ⟨rfl, rfl⟩
              refine L_go rfl (X_p (p_not rfl rfl) ?_)
              refine L_go rfl (X_p (p_assign rfl rfl) ?_)
              refine L_then (.cons (k := 1) rfl (.cons (k := 5) rfl (.cons (k := 6) rfl (.cons (k := 38) rfl (.cons (k := 39) rfl (.cons (k := 40) rfl (.cons (k := 45) rfl .nil))))))) ?_
              refine V_cond rfl ?_ ?_
              · intro c4; try simp only [td] at c4
                refine V_seq (V_region rfl ?_)
                refine L_go rfl (X_p (p_move rfl rfl) ?_)
                refine L_go rfl (X_p (p_assign rfl rfl) ?_)
                refine L_go rfl (X_p (p_assign rfl rfl) ?_)
                refine L_go rfl (X_p (p_assign rfl rfl) ?_)
                refine L_then (.cons (k := 2) rfl (.cons (k := 3) rfl (.cons (k := 4) rfl .nil))) ?_
                refine V_ret (blk_r (blk_r (then_r (then_r (blk_r (then_r ?_))))))
                refine Leave.nil (.tmp rfl (.tmp rfl (.tmp rfl .nil))) ?_
                rw [checkT_tr (k := k) (e := 6) (⟨by omega, by omega, by assumption, by assumption, by assumption⟩) (by omega) (by omega) hkp (errTr_form c4) (by decide)]; rfl
              · intro c4; try simp only [td] at c4
                refine V_seq (V_region rfl ?_)
                refine L_go rfl (X_p (p_fieldo fo25_3 rfl rfl) ?_)
                refine L_go rfl (X_rd (r_load ag22 rfl rfl (by repeat first | exact mH | apply mT) rfl) ?_)
                refine L_go rfl (X_p (p_move rfl rfl) ?_)
                refine L_go rfl (X_p (p_slTo es22 rfl rfl rfl (by omega) (by omega)) ?_)
                refine L_go rfl (X_p (p_func rfl rfl rfl) ?_)
                refine L_go rfl (X_wr (w_callP rfl rfl rfl (fun w hg => contTr_c (t.trackers.take k.toNat) _ _ _ (fun y => decide (y.name = (t.tr k.toNat).name)) w ((htr.takeM (k := k.toNat) (by omega)).good hg) (by rw [List.length_take]; omega) (fun x w' he => chk1_c x _ _ _ _ w' (he.heap (hg.own _ (by repeat first | exact mH | apply mT)))))) ?_)
                rintro _ _ ⟨rfl, rfl⟩
                refine L_go rfl (X_p (p_assign rfl rfl) ?_)
                refine L_then (.cons (k := 1) rfl (.cons (k := 5) rfl (.cons (k := 6) rfl (.cons (k := 38) rfl (.cons (k := 39) rfl (.cons (k := 40) rfl (.cons (k := 51) rfl .nil))))))) ?_
                refine V_cond rfl ?_ ?_
                · intro c5; try simp only [td] at c5
                  refine V_seq (V_region rfl ?_)
                  refine L_go rfl (X_p (p_move rfl rfl) ?_)
                  refine L_go rfl (X_p (p_assign rfl rfl) ?_)
                  refine L_go rfl (X_p (p_assign rfl rfl) ?_)
                  refine L_go rfl (X_p (p_assign rfl rfl) ?_)
                  refine L_then (.cons (k := 2) rfl (.cons (k := 3) rfl (.cons (k := 4) rfl .nil))) ?_
                  refine V_ret (blk_r (blk_r (then_r (then_r (blk_r (then_r ?_))))))
                  refine Leave.nil (.tmp rfl (.tmp rfl (.tmp rfl .nil))) ?_
                  rw [dup_take (by omega)] at c5
                  rw [checkT_tr (k := k) (e := 5) (⟨by omega, by omega, by assumption, by assumption, by assumption⟩) (by omega) (by omega) hkp (errTr_dup c4 c5) (by decide)]; rfl
                · intro c5; try simp only [td] at c5
                  refine V_seq (V_region rfl ?_)
                  refine L_go rfl (X_p (p_fieldo fo116_1 rfl rfl) ?_)
                  refine L_go rfl (X_rd (r_load ag3 rfl rfl (by repeat first | exact mH | apply mT) rfl) ?_)
                  refine L_go rfl (X_p (p_fieldo fo116_2 rfl rfl) ?_)
                  refine L_go rfl (X_rd (r_load ag3 rfl rfl (by repeat first | exact mH | apply mT) rfl) ?_)
                  refine L_go rfl (X_wr (w_slice (r := [_, _]) un27 sz3 zr3 rfl (by decide) rfl (by decide) rfl rfl) ?_)
                  rintro _ _ ⟨b4, hb4, rfl, rfl⟩
                  refine L_go rfl (X_wr (w_callP rfl rfl rfl (fun w hg => wide_c _ (by decide) [_, _] _ w (own_ints (l := [_, _]) (hg.own _ (by repeat first | exact mH | apply mT)) rfl (by decide)) (by simp))) ?_)
                  rintro _ _ ⟨rfl, rfl⟩
                  refine L_go rfl (X_p (p_move rfl rfl) ?_)
                  refine L_cases (d := 66) rfl ?_ ?_
                  · intro g4; have g4' := g4; try simp only [td] at g4'
                    refine L_no rfl rfl rfl g4 ?_
                    refine L_no rfl rfl rfl g4 ?_
                    refine L_no rfl rfl rfl g4 ?_
                    refine L_go rfl (X_p (p_pick_t rfl rfl g4 rfl) ?_)
                    refine L_go rfl (X_p (p_move rfl rfl) ?_)
                    refine L_no rfl rfl rfl rfl ?_
                    refine L_no rfl rfl rfl rfl ?_
                    refine L_no rfl rfl rfl rfl ?_
                    refine L_go rfl (X_p (p_pick_t rfl rfl rfl rfl) ?_)
                    refine L_go rfl (X_p (p_move rfl rfl) ?_)
                    refine L_no rfl rfl rfl rfl ?_
                    refine L_no rfl rfl rfl rfl ?_
                    refine L_no rfl rfl rfl rfl ?_
                    refine L_go rfl (X_p (p_pick_t rfl rfl rfl rfl) ?_)
                    refine L_go rfl (X_p (p_assign rfl rfl) ?_)
                    refine L_then (.cons (k := 1) rfl (.cons (k := 5) rfl (.cons (k := 38) rfl (.cons (k := 39) rfl (.cons (k := 40) rfl (.cons (k := 59) rfl .nil)))))) ?_
                    refine V_cond_t rfl rfl ?_
                    refine V_seq (V_region rfl ?_)
                    refine L_go rfl (X_p (p_move rfl rfl) ?_)
                    refine L_go rfl (X_p (p_assign rfl rfl) ?_)
                    refine L_go rfl (X_p (p_assign rfl rfl) ?_)
                    refine L_go rfl (X_p (p_assign rfl rfl) ?_)
                    refine L_then (.cons (k := 2) rfl (.cons (k := 3) rfl (.cons (k := 4) rfl .nil))) ?_
                    refine V_ret (blk_r (blk_r (then_r (then_r (blk_r (then_r ?_))))))
                    refine Leave.nil (.tmp rfl (.tmp rfl (.tmp rfl .nil))) ?_
                    rw [dup_take (by omega)] at c5
                    rw [checkT_tr (k := k) (e := 7) (⟨by omega, by omega, by assumption, by assumption, by assumption⟩) (by omega) (by omega) hkp (errTr_out c4 c5 (by simp only [trOut, Task.tr, Bool.or_eq_true, Bool.or_eq_false_iff, Bool.false_eq_true, or_true, true_or, or_false, false_or, and_true, true_and, and_self, *])) (by decide)]; rfl
                  · intro g4; have g4' := g4; try simp only [td] at g4'
                    refine L_yes rfl rfl rfl g4 (X_p (p_fieldo fo116_3 rfl rfl) ?_)
                    refine L_yes rfl rfl rfl g4 (X_rd (r_load ag3 rfl rfl (by repeat first | exact mH | apply mT) rfl) ?_)
                    refine L_yes rfl rfl rfl g4 (X_wr (w_callP rfl rfl rfl (fun w hg => out_c _ _ _ w)) ?_)
                    rintro _ _ ⟨rfl, rfl⟩
                    refine L_go rfl (X_p (p_pick_f rfl rfl g4 rfl) ?_)
                    refine L_go rfl (X_p (p_move rfl rfl) ?_)
                    refine L_cases (d := 71) rfl ?_ ?_
                    · intro g5; have g5' := g5; try simp only [td] at g5'
                      refine L_no rfl rfl rfl g5 ?_
                      refine L_no rfl rfl rfl g5 ?_
                      refine L_no rfl rfl rfl g5 ?_
                      refine L_go rfl (X_p (p_pick_t rfl rfl g5 rfl) ?_)
                      refine L_go rfl (X_p (p_move rfl rfl) ?_)
                      refine L_no rfl rfl rfl rfl ?_
                      refine L_no rfl rfl rfl rfl ?_
                      refine L_no rfl rfl rfl rfl ?_
                      refine L_go rfl (X_p (p_pick_t rfl rfl rfl rfl) ?_)
                      refine L_go rfl (X_p (p_assign rfl rfl) ?_)
                      refine L_then (.cons (k := 1) rfl (.cons (k := 5) rfl (.cons (k := 38) rfl (.cons (k := 39) rfl (.cons (k := 40) rfl (.cons (k := 59) rfl .nil)))))) ?_
                      refine V_cond_t rfl rfl ?_
                      refine V_seq (V_region rfl ?_)
                      refine L_go rfl (X_p (p_move rfl rfl) ?_)
                      refine L_go rfl (X_p (p_assign rfl rfl) ?_)
                      refine L_go rfl (X_p (p_assign rfl rfl) ?_)
                      refine L_go rfl (X_p (p_assign rfl rfl) ?_)
                      refine L_then (.cons (k := 2) rfl (.cons (k := 3) rfl (.cons (k := 4) rfl .nil))) ?_
                      refine V_ret (blk_r (blk_r (then_r (then_r (blk_r (then_r ?_))))))
                      refine Leave.nil (.tmp rfl (.tmp rfl (.tmp rfl .nil))) ?_
                      rw [dup_take (by omega)] at c5
                      rw [checkT_tr (k := k) (e := 7) (⟨by omega, by omega, by assumption, by assumption, by assumption⟩) (by omega) (by omega) hkp (errTr_out c4 c5 (by simp only [trOut, Task.tr, Bool.or_eq_true, Bool.or_eq_false_iff, Bool.false_eq_true, or_true, true_or, or_false, false_or, and_true, true_and, and_self, *])) (by decide)]; rfl
                    · intro g5; have g5' := g5; try simp only [td] at g5'
                      refine L_yes rfl rfl rfl g5 (X_p (p_fieldo fo116_4 rfl rfl) ?_)
                      refine L_yes rfl rfl rfl g5 (X_rd (r_load ag3 rfl rfl (by repeat first | exact mH | apply mT) rfl) ?_)
                      refine L_yes rfl rfl rfl g5 (X_wr (w_callP rfl rfl rfl (fun w hg => out_c _ _ _ w)) ?_)
                      rintro _ _ ⟨rfl, rfl⟩
                      refine L_go rfl (X_p (p_pick_f rfl rfl g5 rfl) ?_)
                      refine L_go rfl (X_p (p_move rfl rfl) ?_)
                      refine L_cases (d := 76) rfl ?_ ?_
                      · intro g6; have g6' := g6; try simp only [td] at g6'
                        refine L_no rfl rfl rfl g6 ?_
                        refine L_no rfl rfl rfl g6 ?_
                        refine L_no rfl rfl rfl g6 ?_
                        refine L_go rfl (X_p (p_pick_t rfl rfl g6 rfl) ?_)
                        refine L_go rfl (X_p (p_assign rfl rfl) ?_)
                        refine L_then (.cons (k := 1) rfl (.cons (k := 5) rfl (.cons (k := 38) rfl (.cons (k := 39) rfl (.cons (k := 40) rfl (.cons (k := 59) rfl .nil)))))) ?_
                        refine V_cond_t rfl rfl ?_
                        refine V_seq (V_region rfl ?_)
                        refine L_go rfl (X_p (p_move rfl rfl) ?_)
                        refine L_go rfl (X_p (p_assign rfl rfl) ?_)
                        refine L_go rfl (X_p (p_assign rfl rfl) ?_)
                        refine L_go rfl (X_p (p_assign rfl rfl) ?_)
                        refine L_then (.cons (k := 2) rfl (.cons (k := 3) rfl (.cons (k := 4) rfl .nil))) ?_
                        refine V_ret (blk_r (blk_r (then_r (then_r (blk_r (then_r ?_))))))
                        refine Leave.nil (.tmp rfl (.tmp rfl (.tmp rfl .nil))) ?_
                        rw [dup_take (by omega)] at c5
                        rw [checkT_tr (k := k) (e := 7) (⟨by omega, by omega, by assumption, by assumption, by assumption⟩) (by omega) (by omega) hkp (errTr_out c4 c5 (by simp only [trOut, Task.tr, Bool.or_eq_true, Bool.or_eq_false_iff, Bool.false_eq_true, or_true, true_or, or_false, false_or, and_true, true_and, and_self, *])) (by decide)]; rfl
                      · intro g6; have g6' := g6; try simp only [td] at g6'
                        refine L_yes rfl rfl rfl g6 (X_p (p_fieldo fo116_5 rfl rfl) ?_)
                        refine L_yes rfl rfl rfl g6 (X_rd (r_load ag3 rfl rfl (by repeat first | exact mH | apply mT) rfl) ?_)
                        refine L_yes rfl rfl rfl g6 (X_wr (w_callP rfl rfl rfl (fun w hg => out_c _ _ _ w)) ?_)
                        rintro _ _ ⟨rfl, rfl⟩
                        refine L_go rfl (X_p (p_pick_f rfl rfl g6 rfl) ?_)
                        refine L_go rfl (X_p (p_assign rfl rfl) ?_)
                        refine L_then (.cons (k := 1) rfl (.cons (k := 5) rfl (.cons (k := 38) rfl (.cons (k := 39) rfl (.cons (k := 40) rfl (.cons (k := 59) rfl .nil)))))) ?_
                        refine V_cond rfl ?_ ?_
                        · intro c6; try simp only [td] at c6
                          refine V_seq (V_region rfl ?_)
                          refine L_go rfl (X_p (p_move rfl rfl) ?_)
                          refine L_go rfl (X_p (p_assign rfl rfl) ?_)
                          refine L_go rfl (X_p (p_assign rfl rfl) ?_)
                          refine L_go rfl (X_p (p_assign rfl rfl) ?_)
                          refine L_then (.cons (k := 2) rfl (.cons (k := 3) rfl (.cons (k := 4) rfl .nil))) ?_
                          refine V_ret (blk_r (blk_r (then_r (then_r (blk_r (then_r ?_))))))
                          refine Leave.nil (.tmp rfl (.tmp rfl (.tmp rfl .nil))) ?_
                          rw [dup_take (by omega)] at c5
                          rw [checkT_tr (k := k) (e := 7) (⟨by omega, by omega, by assumption, by assumption, by assumption⟩) (by omega) (by omega) hkp (errTr_out c4 c5 (by simp only [trOut, Task.tr, Bool.or_eq_true, Bool.or_eq_false_iff, Bool.false_eq_true, or_true, true_or, or_false, false_or, and_true, true_and, and_self, *])) (by decide)]; rfl
                        · intro c6; try simp only [td] at c6
                          refine V_skip (blk_n (blk_n (then_n ?_)))
                          refine V_region rfl ?_
                          first | refine L_go rfl (X_p (p_add' rfl rfl rfl (by unfold InI; omega)) ?_) | refine L_go rfl (X_p (p_add rfl rfl rfl) ?_)
                          refine L_go rfl (X_p (p_move rfl rfl) ?_)
                          refine L_keep (.cons (k := 1) rfl (.cons (k := 38) rfl (.cons (k := 39) rfl (.cons (k := 40) rfl .nil)))) (then_n ?_)
                          refine ⟨k + 1, ?_, ?_, (.cons rfl (.cons rfl (.cons rfl (.cons rfl (.nil _))))), (by repeat (first | exact List.Sublist.refl _ | apply List.Sublist.cons_cons | apply List.Sublist.cons | apply List.sublist_append_of_sublist_right)), rfl⟩
                          · rw [dup_take (by omega)] at c5
                            refine ⟨by omega, by omega, fun j hj => ?_⟩
                            by_cases e : (j : Int) < k
                            · exact hkp j e
                            · have ej : j = k.toNat := by omega
                              rw [ej]; exact errTr_ok c4 c5 (by simp only [trOut, Task.tr, Bool.or_eq_true, Bool.or_eq_false_iff, Bool.false_eq_true, or_true, true_or, or_false, false_or, and_true, true_and, and_self, *])
                          · omega
            · intro c3; try simp only [td] at c3
              have htr0 : ∀ j : Nat, j < t.trackers.length → errTr t j = 0 := fun j hj => hkp j (by omega)
              refine V_exit (then_e (then_e (blk_e rfl (then_n ?_))))
              refine V_seq (V_region rfl ?_)
              refine L_go rfl (X_wr (w_map rfl) ?_)
              rintro _ _ ⟨b3, hb3, rfl, rfl⟩
              refine L_go rfl (X_p (p_assign rfl rfl) ?_)
              refine L_then (.cons (k := 1) rfl (.cons (k := 7) rfl .nil)) ?_
              refine V_seq ?_
              refine V_seq (V_region rfl ?_)
              refine L_go rfl (X_p (p_fieldo fo25_4 rfl rfl) ?_)
              refine L_go rfl (X_rd (r_load ag23 rfl rfl (by repeat first | exact mH | apply mT) rfl) ?_)
              refine L_go rfl (X_p (p_len isl23 rfl rfl) ?_)
              refine L_go rfl (X_p (p_move rfl rfl) ?_)
              refine L_then (.cons (k := 1) rfl (.cons (k := 7) rfl (.cons (k := 85) rfl (.cons (k := 86) rfl (.cons (k := 87) rfl .nil))))) ?_
              refine V_block ?_
              refine V_loop1 (γ := Int × Array MapEntry × Nat) (.cons (k := 1) rfl (.cons (k := 7) rfl (.cons (k := 85) rfl (.cons (k := 86) rfl .nil)))) (fun (k, es, clk) => [(87, .int .i64 k)]) (fun (k, es, clk) => [(b3, .map es clk), (b1, t.obj (.slice ta t.trackers.length tc) (.slice pa t.plots.length pc) 25)]) (fun (k, es, clk) => 0 ≤ k ∧ k ≤ t.plots.length ∧ (∀ j : Nat, (j : Int) < k → errPl t j = 0) ∧ MapIs es (seenL t k.toNat)) (fun (k, es, clk) => (t.plots.length - k).toNat) ((0, _, _)) (.cons rfl (.nil _)) (by repeat (first | exact List.Sublist.refl _ | apply List.Sublist.cons_cons | apply List.Sublist.cons)) (⟨by omega, by omega, fun j hj => by omega, MapIs.nil⟩) ?_
              rintro ⟨k, es, clk⟩ hi
              obtain ⟨hk0, hk1, hkp, his⟩ := hi
              refine V_seq (V_region rfl ?_)
              refine L_go rfl (X_p (p_lss rfl rfl rfl) ?_)
              refine L_then (.cons (k := 1) rfl (.cons (k := 7) rfl (.cons (k := 85) rfl (.cons (k := 86) rfl (.cons (k := 87) rfl (.cons (k := 88) rfl .nil)))))) ?_
              refine V_seq ?_
              refine V_cond rfl ?_ ?_
              · intro c7; try simp only [td] at c7
                obtain ⟨pb, rfl, hc⟩ := hpe k.toNat _ (getD_cells (d := plZ) (by omega))
                refine V_skip (then_n ?_)
                refine V_seq ?_
                refine V_block ?_
                refine V_seq (V_region rfl ?_)
                refine L_go rfl (X_p (p_move rfl rfl) ?_)
                refine L_go rfl (X_p (p_idx es23 rfl rfl rfl (by omega) (by omega)) ?_)
                refine L_go rfl (X_rd (r_loadBA ag114 sz114 rfl rfl hc rfl List.not_mem_nil) ?_)
                refine L_go rfl (X_wr (w_alloc zr114 rfl) ?_)
                rintro _ _ ⟨b4, hb4, rfl, rfl⟩
                refine L_go rfl (X_p (p_assign rfl rfl) ?_)
                refine L_go rfl (X_wr (w_store (cs' := [_, _, _, _, _]) sz114 rfl rfl rfl rfl rfl (by repeat first | exact .head | apply SetAt.tail) (Nat.le_of_ble_eq_true rfl) rfl) ?_)
                rintro _ _ ⟨rfl, rfl⟩
                refine L_then (.cons (k := 1) rfl (.cons (k := 7) rfl (.cons (k := 8) rfl (.cons (k := 9) rfl (.cons (k := 85) rfl (.cons (k := 86) rfl (.cons (k := 87) rfl .nil))))))) ?_
                refine V_seq (V_region rfl ?_)
                refine L_go rfl (X_p (p_fieldo fo114_0 rfl rfl) ?_)
                refine L_go rfl (X_rd (r_load ag3 rfl rfl (by repeat first | exact mH | apply mT) rfl) ?_)
                refine L_go rfl (X_p (p_fieldo fo114_1 rfl rfl) ?_)
                refine L_go rfl (X_rd (r_load ag3 rfl rfl (by repeat first | exact mH | apply mT) rfl) ?_)
                refine L_go rfl (X_p (p_build (r := [_, _]) pl138 zr138 rfl rfl rfl) ?_)
                refine L_go rfl (X_wr (w_alloc zr138 rfl) ?_)
                rintro _ _ ⟨b5, hb5, rfl, rfl⟩
                refine L_go rfl (X_wr (w_store (cs' := [_, _]) sz138 rfl rfl rfl rfl rfl (by repeat first | exact .head | apply SetAt.tail) (Nat.le_of_ble_eq_true rfl) rfl) ?_)
                rintro _ _ ⟨rfl, rfl⟩
                refine L_then (.cons (k := 1) rfl (.cons (k := 7) rfl (.cons (k := 8) rfl (.cons (k := 9) rfl (.cons (k := 10) rfl (.cons (k := 85) rfl (.cons (k := 86) rfl (.cons (k := 87) rfl .nil)))))))) ?_
                refine V_seq ?_
                refine V_block ?_
                refine V_seq (V_region rfl ?_)
                refine L_go rfl (X_p (p_fieldo fo114_0 rfl rfl) ?_)
                refine L_go rfl (X_rd (r_load ag3 rfl rfl (by repeat first | exact mH | apply mT) rfl) ?_)
                refine L_go rfl (X_p (p_fieldo fo25_3 rfl rfl) ?_)
                refine L_go rfl (X_rd (r_load ag22 rfl rfl (by repeat first | exact mH | apply mT) rfl) ?_)
                refine L_go rfl (X_p (p_len isl22 rfl rfl) ?_)
                first | refine L_go rfl (X_p (p_sub' rfl rfl rfl (by unfold InI; omega)) ?_) | refine L_go rfl (X_p (p_sub rfl rfl rfl) ?_)
                refine L_go rfl (X_wr (w_callP rfl rfl rfl (fun w hg => out_c _ _ _ w)) ?_)
                rintro _ _ ⟨rfl, rfl⟩
                refine L_go rfl (X_p (p_assign rfl rfl) ?_)
                refine L_then (.cons (k := 1) rfl (.cons (k := 7) rfl (.cons (k := 8) rfl (.cons (k := 9) rfl (.cons (k := 10) rfl (.cons (k := 85) rfl (.cons (k := 86) rfl (.cons (k := 87) rfl (.cons (k := 97) rfl .nil))))))))) ?_
                refine V_cond rfl ?_ ?_
                · intro c8; try simp only [td] at c8
                  refine V_seq (V_region rfl ?_)
                  refine L_go rfl (X_p (p_move rfl rfl) ?_)
                  refine L_go rfl (X_p (p_assign rfl rfl) ?_)
                  refine L_go rfl (X_p (p_assign rfl rfl) ?_)
                  refine L_go rfl (X_p (p_assign rfl rfl) ?_)
                  refine L_then (.cons (k := 2) rfl (.cons (k := 3) rfl (.cons (k := 4) rfl .nil))) ?_
                  refine V_ret (blk_r (then_r (blk_r (then_r (then_r (blk_r (then_r ?_)))))))
                  refine Leave.nil (.tmp rfl (.tmp rfl (.tmp rfl .nil))) ?_
                  rw [checkT_pl (k := k) (e := 4) (⟨by omega, by omega, by assumption, by assumption, by assumption⟩) htr0 (by omega) (by omega) hkp (errPl_none c8) (by decide)]; rfl
                · intro c8; try simp only [td] at c8
                  refine V_seq (V_region rfl ?_)
                  refine L_go rfl (X_p (p_fieldo fo114_1 rfl rfl) ?_)
                  refine L_go rfl (X_rd (r_load ag3 rfl rfl (by repeat first | exact mH | apply mT) rfl) ?_)
                  refine L_go rfl (X_p (p_fieldo fo25_0 rfl rfl) ?_)
                  refine L_go rfl (X_rd (r_load ag3 rfl rfl (by repeat first | exact mH | apply mT) rfl) ?_)
                  refine L_go rfl (X_wr (w_callP rfl rfl rfl (fun w hg => out_c _ _ _ w)) ?_)
                  rintro _ _ ⟨rfl, rfl⟩
                  refine L_go rfl (X_p (p_move rfl rfl) ?_)
                  refine L_cases (d := 112) rfl ?_ ?_
                  · intro g7; have g7' := g7; try simp only [td] at g7'
                    refine L_no rfl rfl rfl g7 ?_
                    refine L_no rfl rfl rfl g7 ?_
                    refine L_no rfl rfl rfl g7 ?_
                    refine L_no rfl rfl rfl g7 ?_
                    refine L_no rfl rfl rfl g7 ?_
                    refine L_no rfl rfl rfl g7 ?_
                    refine L_no rfl rfl rfl g7 ?_
                    refine L_no rfl rfl rfl g7 ?_
                    refine L_go rfl (X_p (p_pick_t rfl rfl g7 rfl) ?_)
                    refine L_go rfl (X_p (p_assign rfl rfl) ?_)
                    refine L_then (.cons (k := 1) rfl (.cons (k := 7) rfl (.cons (k := 8) rfl (.cons (k := 10) rfl (.cons (k := 85) rfl (.cons (k := 86) rfl (.cons (k := 87) rfl (.cons (k := 106) rfl .nil)))))))) ?_
                    refine V_cond_t rfl rfl ?_
                    refine V_seq (V_region rfl ?_)
                    refine L_go rfl (X_p (p_move rfl rfl) ?_)
                    refine L_go rfl (X_p (p_assign rfl rfl) ?_)
                    refine L_go rfl (X_p (p_assign rfl rfl) ?_)
                    refine L_go rfl (X_p (p_assign rfl rfl) ?_)
                    refine L_then (.cons (k := 2) rfl (.cons (k := 3) rfl (.cons (k := 4) rfl .nil))) ?_
                    refine V_ret (blk_r (then_r (blk_r (then_r (then_r (blk_r (then_r ?_)))))))
                    refine Leave.nil (.tmp rfl (.tmp rfl (.tmp rfl .nil))) ?_
                    rw [checkT_pl (k := k) (e := 7) (⟨by omega, by omega, by assumption, by assumption, by assumption⟩) htr0 (by omega) (by omega) hkp (errPl_out c8 (by simp only [plOut, Task.pl, Bool.or_eq_true, Bool.or_eq_false_iff, Bool.false_eq_true, or_true, true_or, or_false, false_or, and_true, true_and, and_self, *])) (by decide)]; rfl
                  · intro g7; have g7' := g7; try simp only [td] at g7'
                    refine L_yes rfl rfl rfl g7 (X_p (p_fieldo fo114_2 rfl rfl) ?_)
                    refine L_yes rfl rfl rfl g7 (X_rd (r_load ag3 rfl rfl (by repeat first | exact mH | apply mT) rfl) ?_)
                    refine L_yes rfl rfl rfl g7 (X_p (p_fieldo fo114_3 rfl rfl) ?_)
                    refine L_yes rfl rfl rfl g7 (X_rd (r_load ag3 rfl rfl (by repeat first | exact mH | apply mT) rfl) ?_)
                    refine L_yes rfl rfl rfl g7 (X_p (p_fieldo fo114_4 rfl rfl) ?_)
                    refine L_yes rfl rfl rfl g7 (X_rd (r_load ag3 rfl rfl (by repeat first | exact mH | apply mT) rfl) ?_)
                    refine L_yes rfl rfl rfl g7 (X_wr (w_slice (r := [_, _, _]) un27 sz3 zr3 rfl (by decide) rfl (by decide) rfl rfl) ?_)
                    rintro _ _ ⟨b6, hb6, rfl, rfl⟩
                    refine L_yes rfl rfl rfl g7 (X_wr (w_callP rfl rfl rfl (fun w hg => wide_c _ (by decide) [_, _, _] _ w (own_ints (l := [_, _, _]) (hg.own _ (by repeat first | exact mH | apply mT)) rfl (by decide)) (by simp))) ?_)
                    rintro _ _ ⟨rfl, rfl⟩
                    refine L_go rfl (X_p (p_pick_f rfl rfl g7 rfl) ?_)
                    refine L_go rfl (X_p (p_assign rfl rfl) ?_)
                    refine L_then (.cons (k := 1) rfl (.cons (k := 7) rfl (.cons (k := 8) rfl (.cons (k := 10) rfl (.cons (k := 85) rfl (.cons (k := 86) rfl (.cons (k := 87) rfl (.cons (k := 106) rfl .nil)))))))) ?_
                    refine V_cond rfl ?_ ?_
                    · intro c9; try simp only [td] at c9
                      refine V_seq (V_region rfl ?_)
                      refine L_go rfl (X_p (p_move rfl rfl) ?_)
                      refine L_go rfl (X_p (p_assign rfl rfl) ?_)
                      refine L_go rfl (X_p (p_assign rfl rfl) ?_)
                      refine L_go rfl (X_p (p_assign rfl rfl) ?_)
                      refine L_then (.cons (k := 2) rfl (.cons (k := 3) rfl (.cons (k := 4) rfl .nil))) ?_
                      refine V_ret (blk_r (then_r (blk_r (then_r (then_r (blk_r (then_r ?_)))))))
                      refine Leave.nil (.tmp rfl (.tmp rfl (.tmp rfl .nil))) ?_
                      rw [checkT_pl (k := k) (e := 7) (⟨by omega, by omega, by assumption, by assumption, by assumption⟩) htr0 (by omega) (by omega) hkp (errPl_out c8 (by simp only [plOut, Task.pl, Bool.or_eq_true, Bool.or_eq_false_iff, Bool.false_eq_true, or_true, true_or, or_false, false_or, and_true, true_and, and_self, *])) (by decide)]; rfl
                    · intro c9; try simp only [td] at c9
                      refine V_seq (V_region rfl ?_)
                      refine L_go rfl (X_p (p_move rfl rfl) ?_)
                      refine L_go rfl (X_rd (r_loadA (vs := [_, _]) ag138 sz138 rfl rfl (by repeat first | exact mH | apply mT) rfl) ?_)
                      refine L_go rfl (X_rd (show RdA _ _ _ _ (.bool (seenB t k.toNat (t.pl k.toNat).tracker (t.pl k.toNat).tick)) from seen_look t k.toNat (by omega) _ _ ▸ r_look un136 lv138 ag138 zr4 rfl rfl rfl (k := [_, _]) rfl (by repeat first | exact mH | apply mT) his (seen_fit t _)) ?_)
                      refine L_go rfl (X_p (p_assign rfl rfl) ?_)
                      refine L_then (.cons (k := 1) rfl (.cons (k := 7) rfl (.cons (k := 8) rfl (.cons (k := 10) rfl (.cons (k := 85) rfl (.cons (k := 86) rfl (.cons (k := 87) rfl (.cons (k := 123) rfl .nil)))))))) ?_
                      refine V_cond rfl ?_ ?_
                      · intro c10; try simp only [td] at c10
                        refine V_seq (V_region rfl ?_)
                        refine L_go rfl (X_p (p_move rfl rfl) ?_)
                        refine L_go rfl (X_p (p_assign rfl rfl) ?_)
                        refine L_go rfl (X_p (p_assign rfl rfl) ?_)
                        refine L_go rfl (X_p (p_assign rfl rfl) ?_)
                        refine L_then (.cons (k := 2) rfl (.cons (k := 3) rfl (.cons (k := 4) rfl .nil))) ?_
                        refine V_ret (blk_r (then_r (blk_r (then_r (then_r (blk_r (then_r ?_)))))))
                        refine Leave.nil (.tmp rfl (.tmp rfl (.tmp rfl .nil))) ?_
                        rw [checkT_pl (k := k) (e := 5) (⟨by omega, by omega, by assumption, by assumption, by assumption⟩) htr0 (by omega) (by omega) hkp (errPl_dup c8 (by simp only [plOut, Task.pl, Bool.or_eq_true, Bool.or_eq_false_iff, Bool.false_eq_true, or_true, true_or, or_false, false_or, and_true, true_and, and_self, *]) (by assumption)) (by decide)]; rfl
                      · intro c10; try simp only [td] at c10
                        refine V_skip (blk_n (then_n ?_))
                        refine V_region rfl ?_
                        refine L_go rfl (X_p (p_move rfl rfl) ?_)
                        refine L_go rfl (X_rd (r_loadA (vs := [_, _]) ag138 sz138 rfl rfl (by repeat first | exact mH | apply mT) rfl) ?_)
                        refine L_go rfl (X_wr (w_mapNew un136 lv138 ag138 rfl rfl rfl (k := [_, _]) rfl rfl (fun o' => (by repeat first | exact .head | apply SetAt.tail)) his (seen_fit t _) (seen_none t k.toNat (by omega) _ _ (by assumption))) ?_)
                        rintro _ _ ⟨es1, clk1, rfl, his1⟩
                        refine L_keep (.cons (k := 1) rfl (.cons (k := 7) rfl (.cons (k := 85) rfl (.cons (k := 86) rfl (.cons (k := 87) rfl .nil))))) (blk_n (then_n ?_))
                        refine V_region rfl ?_
                        first | refine L_go rfl (X_p (p_add' rfl rfl rfl (by unfold InI; omega)) ?_) | refine L_go rfl (X_p (p_add rfl rfl rfl) ?_)
                        refine L_go rfl (X_p (p_move rfl rfl) ?_)
                        refine L_keep (.cons (k := 1) rfl (.cons (k := 7) rfl (.cons (k := 85) rfl (.cons (k := 86) rfl (.cons (k := 87) rfl .nil))))) (then_n ?_)
                        refine ⟨(k + 1, es1, clk1), ?_, ?_, (.cons rfl (.cons rfl (.cons rfl (.cons rfl (.cons rfl (.nil _)))))), (by repeat (first | exact List.Sublist.refl _ | apply List.Sublist.cons_cons | apply List.Sublist.cons | apply List.sublist_append_of_sublist_right)), rfl⟩
                        · refine ⟨by omega, by omega, fun j hj => ?_, ?_⟩
                          · by_cases e : (j : Int) < k
                            · exact hkp j e
                            · have ej : j = k.toNat := by omega
                              rw [ej]; exact errPl_ok c8 (by simp only [plOut, Task.pl, Bool.or_eq_true, Bool.or_eq_false_iff, Bool.false_eq_true, or_true, true_or, or_false, false_or, and_true, true_and, and_self, *]) (by assumption)
                          · have e : (k + 1).toNat = k.toNat + 1 := by omega
                            rw [e, seen_succ t _ (by omega)]; exact his1
                        · dsimp only; omega
              · intro c7; try simp only [td] at c7
                refine V_exit (then_e (then_e (blk_e rfl (then_n ?_))))
                refine V_seq (V_region rfl ?_)
                refine L_go rfl (X_p (p_assign rfl rfl) ?_)
                refine L_go rfl (X_p (p_assign rfl rfl) ?_)
                refine L_go rfl (X_p (p_assign rfl rfl) ?_)
                refine L_then (.cons (k := 2) rfl (.cons (k := 3) rfl (.cons (k := 4) rfl .nil))) ?_
                refine V_ret ?_
                refine Leave.nil (.tmp rfl (.tmp rfl (.tmp rfl .nil))) ?_
                rw [checkT_ok (⟨by omega, by omega, by assumption, by assumption, by assumption⟩) htr0 (fun j hj => hkp j (by omega))]; rfl

end Go.Proofs.Ytclbbchehjapjab
