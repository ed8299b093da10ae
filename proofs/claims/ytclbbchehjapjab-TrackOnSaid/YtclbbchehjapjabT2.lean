/- Ytclbbchehjapjab: the checks of the reference, and what asks for a check. -/
import Derived.Test.YtclbbchehjapjabT1
set_option linter.all false
namespace Go.Proofs.Ytclbbchehjapjab
open Go.Vc Go.Tk
set_option maxRecDepth 100000
theorem rtracker_c (t : Task) (v : Value) (i : Int) (h0 : 0 ≤ i) (hi : i < t.trackers.length) (w : World) (ht : TaskR w v t) : FnP Try.prog 80 [v, .int .i64 i] w (.int .i64 (errTr t i.toNat)) := by
  have hT := ht
  obtain ⟨tv, pv, rfl, htr, hpl⟩ := ht.ex
  obtain ⟨ta, tc, rfl, htc, hte⟩ := htr.ex
  obtain ⟨pa, pc, rfl, hpc, hpe⟩ := hpl.ex
  have hltr := hT.ltr
  have hlpl := hT.lpl
  simp only [List.length_map] at hT htc hpc ⊢
  obtain ⟨tb, rfl, hc⟩ := hte i.toNat _ (getD_cells (d := trZ) (by omega))
  refine fn_pure Try.func80 rfl (by kernel_rfl) Try.ntmps80 Try.results80 rfl ?_
  refine V_seq (V_region rfl ?_)
  refine L_go rfl (X_wr (w_box rfl rfl) ?_)
  rintro _ _ ⟨b1, hb1, rfl, rfl⟩
  refine L_go rfl (X_p (p_assign rfl rfl) ?_)
  refine L_then (.cons (k := 1) rfl (.cons (k := 2) rfl .nil)) ?_
  refine V_seq (V_region rfl ?_)
  refine L_go rfl (X_p (p_fieldo fo25_3 rfl rfl) ?_)
  refine L_go rfl (X_rd (r_load ag22 rfl rfl (by repeat first | exact mH | apply mT) rfl) ?_)
  refine L_go rfl (X_p (p_move rfl rfl) ?_)
  refine L_go rfl (X_p (p_idx es22 rfl rfl rfl (by omega) (by omega)) ?_)
  refine L_go rfl (X_rd (r_loadBA ag116 sz116 rfl rfl hc rfl List.not_mem_nil) ?_)
  refine L_go rfl (X_wr (w_alloc zr116 rfl) ?_)
  rintro _ _ ⟨b2, hb2, rfl, rfl⟩
  refine L_go rfl (X_wr (w_store (cs' := [_, _, _, _, _, _]) sz116 rfl rfl rfl rfl rfl (by repeat first | exact .head | apply SetAt.tail) (Nat.le_of_ble_eq_true rfl) rfl) ?_)
  rintro _ _ ⟨rfl, rfl⟩
  refine L_then (.cons (k := 1) rfl (.cons (k := 2) rfl (.cons (k := 5) rfl .nil))) ?_
  refine V_seq ?_
  refine V_seq (V_region rfl ?_)
  refine L_go rfl (X_p (p_fieldo fo116_0 rfl rfl) ?_)
  refine L_go rfl (X_rd (r_load ag9 rfl rfl (by repeat first | exact mH | apply mT) rfl) ?_)
  refine L_go rfl (X_wr (w_callP rfl rfl rfl (fun w hg => rname_c _ (hT.name _) w)) ?_)
  rintro _ _ ⟨rfl, rfl⟩
  refine L_go rfl (X_p (p_not rfl rfl) ?_)
  refine L_then (.cons (k := 1) rfl (.cons (k := 2) rfl (.cons (k := 5) rfl (.cons (k := 15) rfl .nil)))) ?_
  refine V_cond rfl ?_ ?_
  · intro c1; try simp only [td] at c1
    refine V_seq (V_region rfl ?_)
    refine L_go rfl (X_p (p_assign rfl rfl) ?_)
    refine L_then (.cons (k := 4) rfl .nil) ?_
    refine V_ret (then_r ?_)
    refine Leave.nil (.tmp rfl .nil) ?_
    show Value.int .i64 6 = _; rw [errTr_form c1]
  · intro c1; try simp only [td] at c1
    refine V_skip (then_n ?_)
    refine V_seq ?_
    refine V_seq (V_region rfl ?_)
    refine L_go rfl (X_p (p_assign rfl rfl) ?_)
    refine L_then (.cons (k := 1) rfl (.cons (k := 2) rfl (.cons (k := 5) rfl (.cons (k := 6) rfl .nil)))) ?_
    refine V_block ?_
    refine V_loop0 (γ := Int) (.cons (k := 1) rfl (.cons (k := 2) rfl (.cons (k := 5) rfl .nil))) (fun k => [(6, .int .i64 k)]) (fun k => 0 ≤ k ∧ k ≤ i ∧ ∀ j : Nat, (j : Int) < k → (t.tr j).name ≠ (t.tr i.toNat).name) (fun k => (i - k).toNat) (0) (.cons rfl (.nil _)) (⟨by omega, by omega, fun j hj => by omega⟩) ?_
    rintro k hi
    obtain ⟨hk0, hk1, hkp⟩ := hi
    refine V_seq ?_
    refine V_seq (V_region rfl ?_)
    refine L_go rfl (X_p (p_move rfl rfl) ?_)
    refine L_go rfl (X_p (p_move rfl rfl) ?_)
    refine L_go rfl (X_p (p_lss rfl rfl rfl) ?_)
    refine L_then (.cons (k := 1) rfl (.cons (k := 2) rfl (.cons (k := 5) rfl (.cons (k := 6) rfl (.cons (k := 18) rfl .nil))))) ?_
    refine V_cond rfl ?_ ?_
    · intro c2; try simp only [td] at c2
      obtain ⟨_, e, hck⟩ := hte k.toNat _ (getD_cells (d := trZ) (by omega)); injection e with e; subst e
      refine V_skip (then_n ?_)
      refine V_seq ?_
      refine V_block ?_
      refine V_seq (V_draw (.rd 0 (.rd 1 (.rd 2 (.rd 3 (.rd 4 (.rd 5 (.rd 6 (.rd 7 (.rd 8 .done))))))))) mixed (by kernel_rfl) rfl ?_)
      refine D_p rfl (.plain rfl) (p_fieldo fo25_3 rfl rfl) ?_
      refine D_rd rfl (.plain rfl) (r_load ag22 rfl rfl (by repeat first | exact mH | apply mT) rfl) ?_
      refine D_p rfl (.plain rfl) (p_move rfl rfl) ?_
      refine D_p rfl (.plain rfl) (p_idx es22 rfl rfl rfl (by omega) (by omega)) ?_
      refine D_p rfl (.plain rfl) (p_field fo116_0 rfl rfl) ?_
      refine D_rd rfl (.plain rfl) (r_loadB ag9 rfl rfl (hck 0 _ rfl) List.not_mem_nil) ?_
      refine D_p rfl (.plain rfl) (p_fieldo fo116_0 rfl rfl) ?_
      refine D_rd rfl (.plain rfl) (r_load ag9 rfl rfl (by repeat first | exact mH | apply mT) rfl) ?_
      refine D_p rfl (.plain rfl) (p_eqls rfl rfl rfl) ?_
      refine D_then (.cons (k := 1) rfl (.cons (k := 2) rfl (.cons (k := 5) rfl (.cons (k := 6) rfl (.cons (k := 29) rfl .nil))))) ?_
      refine V_cond rfl ?_ ?_
      · intro c3; try simp only [td] at c3
        refine V_seq (V_region rfl ?_)
        refine L_go rfl (X_p (p_assign rfl rfl) ?_)
        refine L_then (.cons (k := 4) rfl .nil) ?_
        refine V_ret (blk_r (then_r (then_r (blk_r (then_r ?_)))))
        refine Leave.nil (.tmp rfl .nil) ?_
        show Value.int .i64 5 = _; rw [errTr_dup c1 (dupB_hit (k := k.toNat) (by omega) c3)]
      · intro c3; try simp only [td] at c3
        refine V_skip (blk_n (then_n ?_))
        refine V_region rfl ?_
        refine L_go rfl (X_p (p_move rfl rfl) ?_)
        first | refine L_go rfl (X_p (p_add' rfl rfl rfl (by unfold InI; omega)) ?_) | refine L_go rfl (X_p (p_add rfl rfl rfl) ?_)
        refine L_go rfl (X_p (p_assign rfl rfl) ?_)
        refine L_keep (.cons (k := 1) rfl (.cons (k := 2) rfl (.cons (k := 5) rfl (.cons (k := 6) rfl .nil)))) (then_n ?_)
        refine ⟨k + 1, ?_, ?_, (.cons rfl (.cons rfl (.cons rfl (.cons rfl (.nil _))))), (by repeat (first | exact List.Sublist.refl _ | apply List.Sublist.cons_cons | apply List.Sublist.cons | apply List.sublist_append_of_sublist_right)), rfl⟩
        · refine ⟨by omega, by omega, fun j hj => ?_⟩; by_cases e : (j : Int) < k
          · exact hkp j e
          · have ej : j = k.toNat := by omega
            rw [ej]; exact c3
        · omega
    · intro c2; try simp only [td] at c2
      have hd : dupB t i.toNat = false := dupB_none (fun j hj => hkp j (by omega))
      refine V_exit (then_e (then_e (blk_e rfl (then_n ?_))))
      refine V_seq ?_
      refine V_seq (V_region rfl ?_)
      refine L_go rfl (X_p (p_fieldo fo116_1 rfl rfl) ?_)
      refine L_go rfl (X_rd (r_load ag3 rfl rfl (by repeat first | exact mH | apply mT) rfl) ?_)
      refine L_go rfl (X_wr (w_callP rfl rfl rfl (fun w hg => rin_c _ _ _ w)) ?_)
      rintro _ _ ⟨rfl, rfl⟩
      refine L_go rfl (X_p (p_not rfl rfl) ?_)
      refine L_go rfl (X_p (p_move rfl rfl) ?_)
      refine L_cases (d := 34) rfl ?_ ?_
      · intro g1; have g1' := g1; try simp only [td] at g1'
        refine L_no rfl rfl rfl g1 ?_
        refine L_no rfl rfl rfl g1 ?_
        refine L_no rfl rfl rfl g1 ?_
        refine L_no rfl rfl rfl g1 ?_
        refine L_go rfl (X_p (p_pick_t rfl rfl g1 rfl) ?_)
        refine L_go rfl (X_p (p_move rfl rfl) ?_)
        refine L_no rfl rfl rfl rfl ?_
        refine L_no rfl rfl rfl rfl ?_
        refine L_no rfl rfl rfl rfl ?_
        refine L_no rfl rfl rfl rfl ?_
        refine L_go rfl (X_p (p_pick_t rfl rfl rfl rfl) ?_)
        refine L_go rfl (X_p (p_move rfl rfl) ?_)
        refine L_no rfl rfl rfl rfl ?_
        refine L_no rfl rfl rfl rfl ?_
        refine L_no rfl rfl rfl rfl ?_
        refine L_no rfl rfl rfl rfl ?_
        refine L_go rfl (X_p (p_pick_t rfl rfl rfl rfl) ?_)
        refine L_go rfl (X_p (p_move rfl rfl) ?_)
        refine L_no rfl rfl rfl rfl ?_
        refine L_no rfl rfl rfl rfl ?_
        refine L_no rfl rfl rfl rfl ?_
        refine L_no rfl rfl rfl rfl ?_
        refine L_go rfl (X_p (p_pick_t rfl rfl rfl rfl) ?_)
        refine L_then (.cons (k := 57) rfl .nil) ?_
        refine V_cond_t rfl rfl ?_
        refine V_seq (V_region rfl ?_)
        refine L_go rfl (X_p (p_assign rfl rfl) ?_)
        refine L_then (.cons (k := 4) rfl .nil) ?_
        refine V_ret (then_r ?_)
        refine Leave.nil (.tmp rfl .nil) ?_
        show Value.int .i64 7 = _; rw [errTr_out c1 hd (by simp only [trOut, Task.tr, Bool.or_eq_true, Bool.or_eq_false_iff, Bool.false_eq_true, or_true, true_or, or_false, false_or, and_true, true_and, and_self, *])]
      · intro g1; have g1' := g1; try simp only [td] at g1'
        refine L_yes rfl rfl rfl g1 (X_p (p_fieldo fo116_2 rfl rfl) ?_)
        refine L_yes rfl rfl rfl g1 (X_rd (r_load ag3 rfl rfl (by repeat first | exact mH | apply mT) rfl) ?_)
        refine L_yes rfl rfl rfl g1 (X_wr (w_callP rfl rfl rfl (fun w hg => rin_c _ _ _ w)) ?_)
        rintro _ _ ⟨rfl, rfl⟩
        refine L_yes rfl rfl rfl g1 (X_p (p_not rfl rfl) ?_)
        refine L_go rfl (X_p (p_pick_f rfl rfl g1 rfl) ?_)
        refine L_go rfl (X_p (p_move rfl rfl) ?_)
        refine L_cases (d := 40) rfl ?_ ?_
        · intro g2; have g2' := g2; try simp only [td] at g2'
          refine L_no rfl rfl rfl g2 ?_
          refine L_no rfl rfl rfl g2 ?_
          refine L_no rfl rfl rfl g2 ?_
          refine L_no rfl rfl rfl g2 ?_
          refine L_go rfl (X_p (p_pick_t rfl rfl g2 rfl) ?_)
          refine L_go rfl (X_p (p_move rfl rfl) ?_)
          refine L_no rfl rfl rfl rfl ?_
          refine L_no rfl rfl rfl rfl ?_
          refine L_no rfl rfl rfl rfl ?_
          refine L_no rfl rfl rfl rfl ?_
          refine L_go rfl (X_p (p_pick_t rfl rfl rfl rfl) ?_)
          refine L_go rfl (X_p (p_move rfl rfl) ?_)
          refine L_no rfl rfl rfl rfl ?_
          refine L_no rfl rfl rfl rfl ?_
          refine L_no rfl rfl rfl rfl ?_
          refine L_no rfl rfl rfl rfl ?_
          refine L_go rfl (X_p (p_pick_t rfl rfl rfl rfl) ?_)
          refine L_then (.cons (k := 57) rfl .nil) ?_
          refine V_cond_t rfl rfl ?_
          refine V_seq (V_region rfl ?_)
          refine L_go rfl (X_p (p_assign rfl rfl) ?_)
          refine L_then (.cons (k := 4) rfl .nil) ?_
          refine V_ret (then_r ?_)
          refine Leave.nil (.tmp rfl .nil) ?_
          show Value.int .i64 7 = _; rw [errTr_out c1 hd (by simp only [trOut, Task.tr, Bool.or_eq_true, Bool.or_eq_false_iff, Bool.false_eq_true, or_true, true_or, or_false, false_or, and_true, true_and, and_self, *])]
        · intro g2; have g2' := g2; try simp only [td] at g2'
          refine L_yes rfl rfl rfl g2 (X_p (p_fieldo fo116_3 rfl rfl) ?_)
          refine L_yes rfl rfl rfl g2 (X_rd (r_load ag3 rfl rfl (by repeat first | exact mH | apply mT) rfl) ?_)
          refine L_yes rfl rfl rfl g2 (X_wr (w_callP rfl rfl rfl (fun w hg => rin_c _ _ _ w)) ?_)
          rintro _ _ ⟨rfl, rfl⟩
          refine L_yes rfl rfl rfl g2 (X_p (p_not rfl rfl) ?_)
          refine L_go rfl (X_p (p_pick_f rfl rfl g2 rfl) ?_)
          refine L_go rfl (X_p (p_move rfl rfl) ?_)
          refine L_cases (d := 46) rfl ?_ ?_
          · intro g3; have g3' := g3; try simp only [td] at g3'
            refine L_no rfl rfl rfl g3 ?_
            refine L_no rfl rfl rfl g3 ?_
            refine L_no rfl rfl rfl g3 ?_
            refine L_no rfl rfl rfl g3 ?_
            refine L_go rfl (X_p (p_pick_t rfl rfl g3 rfl) ?_)
            refine L_go rfl (X_p (p_move rfl rfl) ?_)
            refine L_no rfl rfl rfl rfl ?_
            refine L_no rfl rfl rfl rfl ?_
            refine L_no rfl rfl rfl rfl ?_
            refine L_no rfl rfl rfl rfl ?_
            refine L_go rfl (X_p (p_pick_t rfl rfl rfl rfl) ?_)
            refine L_then (.cons (k := 57) rfl .nil) ?_
            refine V_cond_t rfl rfl ?_
            refine V_seq (V_region rfl ?_)
            refine L_go rfl (X_p (p_assign rfl rfl) ?_)
            refine L_then (.cons (k := 4) rfl .nil) ?_
            refine V_ret (then_r ?_)
            refine Leave.nil (.tmp rfl .nil) ?_
            show Value.int .i64 7 = _; rw [errTr_out c1 hd (by simp only [trOut, Task.tr, Bool.or_eq_true, Bool.or_eq_false_iff, Bool.false_eq_true, or_true, true_or, or_false, false_or, and_true, true_and, and_self, *])]
          · intro g3; have g3' := g3; try simp only [td] at g3'
            refine L_yes rfl rfl rfl g3 (X_p (p_fieldo fo116_4 rfl rfl) ?_)
            refine L_yes rfl rfl rfl g3 (X_rd (r_load ag3 rfl rfl (by repeat first | exact mH | apply mT) rfl) ?_)
            refine L_yes rfl rfl rfl g3 (X_wr (w_callP rfl rfl rfl (fun w hg => rin_c _ _ _ w)) ?_)
            rintro _ _ ⟨rfl, rfl⟩
            refine L_yes rfl rfl rfl g3 (X_p (p_not rfl rfl) ?_)
            refine L_go rfl (X_p (p_pick_f rfl rfl g3 rfl) ?_)
            refine L_go rfl (X_p (p_move rfl rfl) ?_)
            refine L_cases (d := 52) rfl ?_ ?_
            · intro g4; have g4' := g4; try simp only [td] at g4'
              refine L_no rfl rfl rfl g4 ?_
              refine L_no rfl rfl rfl g4 ?_
              refine L_no rfl rfl rfl g4 ?_
              refine L_no rfl rfl rfl g4 ?_
              refine L_go rfl (X_p (p_pick_t rfl rfl g4 rfl) ?_)
              refine L_then (.cons (k := 57) rfl .nil) ?_
              refine V_cond_t rfl rfl ?_
              refine V_seq (V_region rfl ?_)
              refine L_go rfl (X_p (p_assign rfl rfl) ?_)
              refine L_then (.cons (k := 4) rfl .nil) ?_
              refine V_ret (then_r ?_)
              refine Leave.nil (.tmp rfl .nil) ?_
              show Value.int .i64 7 = _; rw [errTr_out c1 hd (by simp only [trOut, Task.tr, Bool.or_eq_true, Bool.or_eq_false_iff, Bool.false_eq_true, or_true, true_or, or_false, false_or, and_true, true_and, and_self, *])]
            · intro g4; have g4' := g4; try simp only [td] at g4'
              refine L_yes rfl rfl rfl g4 (X_p (p_fieldo fo116_5 rfl rfl) ?_)
              refine L_yes rfl rfl rfl g4 (X_rd (r_load ag3 rfl rfl (by repeat first | exact mH | apply mT) rfl) ?_)
              refine L_yes rfl rfl rfl g4 (X_wr (w_callP rfl rfl rfl (fun w hg => rin_c _ _ _ w)) ?_)
              rintro _ _ ⟨rfl, rfl⟩
              refine L_yes rfl rfl rfl g4 (X_p (p_not rfl rfl) ?_)
              refine L_go rfl (X_p (p_pick_f rfl rfl g4 rfl) ?_)
              refine L_then (.cons (k := 57) rfl .nil) ?_
              refine V_cond rfl ?_ ?_
              · intro c4; try simp only [td] at c4
                refine V_seq (V_region rfl ?_)
                refine L_go rfl (X_p (p_assign rfl rfl) ?_)
                refine L_then (.cons (k := 4) rfl .nil) ?_
                refine V_ret (then_r ?_)
                refine Leave.nil (.tmp rfl .nil) ?_
                show Value.int .i64 7 = _; rw [errTr_out c1 hd (by simp only [trOut, Task.tr, Bool.or_eq_true, Bool.or_eq_false_iff, Bool.false_eq_true, or_true, true_or, or_false, false_or, and_true, true_and, and_self, *])]
              · intro c4; try simp only [td] at c4
                refine V_skip (then_n ?_)
                refine V_seq (V_region rfl ?_)
                refine L_go rfl (X_p (p_assign rfl rfl) ?_)
                refine L_then (.cons (k := 4) rfl .nil) ?_
                refine V_ret ?_
                refine Leave.nil (.tmp rfl .nil) ?_
                show Value.int .i64 0 = _; rw [errTr_ok c1 hd (by simp only [trOut, Task.tr, Bool.or_eq_true, Bool.or_eq_false_iff, Bool.false_eq_true, or_true, true_or, or_false, false_or, and_true, true_and, and_self, *])]
theorem rplot_c (t : Task) (v : Value) (i : Int) (h0 : 0 ≤ i) (hi : i < t.plots.length) (w : World) (ht : TaskR w v t) : FnP Try.prog 81 [v, .int .i64 i] w (.int .i64 (errPl t i.toNat)) := by
  have hT := ht
  obtain ⟨tv, pv, rfl, htr, hpl⟩ := ht.ex
  obtain ⟨ta, tc, rfl, htc, hte⟩ := htr.ex
  obtain ⟨pa, pc, rfl, hpc, hpe⟩ := hpl.ex
  have hltr := hT.ltr
  have hlpl := hT.lpl
  simp only [List.length_map] at hT htc hpc ⊢
  obtain ⟨pb, rfl, hc⟩ := hpe i.toNat _ (getD_cells (d := plZ) (by omega))
  refine fn_pure Try.func81 rfl (by kernel_rfl) Try.ntmps81 Try.results81 rfl ?_
  refine V_seq (V_region rfl ?_)
  refine L_go rfl (X_wr (w_box rfl rfl) ?_)
  rintro _ _ ⟨b1, hb1, rfl, rfl⟩
  refine L_go rfl (X_p (p_assign rfl rfl) ?_)
  refine L_then (.cons (k := 1) rfl (.cons (k := 2) rfl .nil)) ?_
  refine V_seq (V_region rfl ?_)
  refine L_go rfl (X_p (p_fieldo fo25_4 rfl rfl) ?_)
  refine L_go rfl (X_rd (r_load ag23 rfl rfl (by repeat first | exact mH | apply mT) rfl) ?_)
  refine L_go rfl (X_p (p_move rfl rfl) ?_)
  refine L_go rfl (X_p (p_idx es23 rfl rfl rfl (by omega) (by omega)) ?_)
  refine L_go rfl (X_rd (r_loadBA ag114 sz114 rfl rfl hc rfl List.not_mem_nil) ?_)
  refine L_go rfl (X_wr (w_alloc zr114 rfl) ?_)
  rintro _ _ ⟨b2, hb2, rfl, rfl⟩
  refine L_go rfl (X_wr (w_store (cs' := [_, _, _, _, _]) sz114 rfl rfl rfl rfl rfl (by repeat first | exact .head | apply SetAt.tail) (Nat.le_of_ble_eq_true rfl) rfl) ?_)
  rintro _ _ ⟨rfl, rfl⟩
  refine L_then (.cons (k := 1) rfl (.cons (k := 2) rfl (.cons (k := 5) rfl .nil))) ?_
  refine V_seq ?_
  refine V_seq (V_region rfl ?_)
  refine L_go rfl (X_p (p_fieldo fo114_0 rfl rfl) ?_)
  refine L_go rfl (X_rd (r_load ag3 rfl rfl (by repeat first | exact mH | apply mT) rfl) ?_)
  refine L_go rfl (X_p (p_fieldo fo25_3 rfl rfl) ?_)
  refine L_go rfl (X_rd (r_load ag22 rfl rfl (by repeat first | exact mH | apply mT) rfl) ?_)
  refine L_go rfl (X_p (p_len isl22 rfl rfl) ?_)
  first | refine L_go rfl (X_p (p_sub' rfl rfl rfl (by unfold InI; omega)) ?_) | refine L_go rfl (X_p (p_sub rfl rfl rfl) ?_)
  refine L_go rfl (X_wr (w_callP rfl rfl rfl (fun w hg => rin_c _ _ _ w)) ?_)
  rintro _ _ ⟨rfl, rfl⟩
  refine L_go rfl (X_p (p_not rfl rfl) ?_)
  refine L_then (.cons (k := 1) rfl (.cons (k := 2) rfl (.cons (k := 5) rfl (.cons (k := 19) rfl .nil)))) ?_
  refine V_cond rfl ?_ ?_
  · intro c1; try simp only [td] at c1
    refine V_seq (V_region rfl ?_)
    refine L_go rfl (X_p (p_assign rfl rfl) ?_)
    refine L_then (.cons (k := 4) rfl .nil) ?_
    refine V_ret (then_r ?_)
    refine Leave.nil (.tmp rfl .nil) ?_
    show Value.int .i64 4 = _; rw [errPl_none c1]
  · intro c1; try simp only [td] at c1
    refine V_skip (then_n ?_)
    refine V_seq ?_
    refine V_seq (V_region rfl ?_)
    refine L_go rfl (X_p (p_fieldo fo114_1 rfl rfl) ?_)
    refine L_go rfl (X_rd (r_load ag3 rfl rfl (by repeat first | exact mH | apply mT) rfl) ?_)
    refine L_go rfl (X_p (p_fieldo fo25_0 rfl rfl) ?_)
    refine L_go rfl (X_rd (r_load ag3 rfl rfl (by repeat first | exact mH | apply mT) rfl) ?_)
    refine L_go rfl (X_wr (w_callP rfl rfl rfl (fun w hg => rin_c _ _ _ w)) ?_)
    rintro _ _ ⟨rfl, rfl⟩
    refine L_go rfl (X_p (p_not rfl rfl) ?_)
    refine L_go rfl (X_p (p_move rfl rfl) ?_)
    refine L_cases (d := 26) rfl ?_ ?_
    · intro g1; have g1' := g1; try simp only [td] at g1'
      refine L_no rfl rfl rfl g1 ?_
      refine L_no rfl rfl rfl g1 ?_
      refine L_no rfl rfl rfl g1 ?_
      refine L_no rfl rfl rfl g1 ?_
      refine L_go rfl (X_p (p_pick_t rfl rfl g1 rfl) ?_)
      refine L_go rfl (X_p (p_move rfl rfl) ?_)
      refine L_no rfl rfl rfl rfl ?_
      refine L_no rfl rfl rfl rfl ?_
      refine L_no rfl rfl rfl rfl ?_
      refine L_no rfl rfl rfl rfl ?_
      refine L_go rfl (X_p (p_pick_t rfl rfl rfl rfl) ?_)
      refine L_go rfl (X_p (p_move rfl rfl) ?_)
      refine L_no rfl rfl rfl rfl ?_
      refine L_no rfl rfl rfl rfl ?_
      refine L_no rfl rfl rfl rfl ?_
      refine L_no rfl rfl rfl rfl ?_
      refine L_go rfl (X_p (p_pick_t rfl rfl rfl rfl) ?_)
      refine L_then (.cons (k := 1) rfl (.cons (k := 2) rfl (.cons (k := 5) rfl (.cons (k := 43) rfl .nil)))) ?_
      refine V_cond_t rfl rfl ?_
      refine V_seq (V_region rfl ?_)
      refine L_go rfl (X_p (p_assign rfl rfl) ?_)
      refine L_then (.cons (k := 4) rfl .nil) ?_
      refine V_ret (then_r ?_)
      refine Leave.nil (.tmp rfl .nil) ?_
      show Value.int .i64 7 = _; rw [errPl_out c1 (by simp only [plOut, Task.pl, Bool.or_eq_true, Bool.or_eq_false_iff, Bool.false_eq_true, or_true, true_or, or_false, false_or, and_true, true_and, and_self, *])]
    · intro g1; have g1' := g1; try simp only [td] at g1'
      refine L_yes rfl rfl rfl g1 (X_p (p_fieldo fo114_2 rfl rfl) ?_)
      refine L_yes rfl rfl rfl g1 (X_rd (r_load ag3 rfl rfl (by repeat first | exact mH | apply mT) rfl) ?_)
      refine L_yes rfl rfl rfl g1 (X_wr (w_callP rfl rfl rfl (fun w hg => rplace_c _ w)) ?_)
      rintro _ _ ⟨rfl, rfl⟩
      refine L_yes rfl rfl rfl g1 (X_p (p_not rfl rfl) ?_)
      refine L_go rfl (X_p (p_pick_f rfl rfl g1 rfl) ?_)
      refine L_go rfl (X_p (p_move rfl rfl) ?_)
      refine L_cases (d := 32) rfl ?_ ?_
      · intro g2; have g2' := g2; try simp only [td] at g2'
        refine L_no rfl rfl rfl g2 ?_
        refine L_no rfl rfl rfl g2 ?_
        refine L_no rfl rfl rfl g2 ?_
        refine L_no rfl rfl rfl g2 ?_
        refine L_go rfl (X_p (p_pick_t rfl rfl g2 rfl) ?_)
        refine L_go rfl (X_p (p_move rfl rfl) ?_)
        refine L_no rfl rfl rfl rfl ?_
        refine L_no rfl rfl rfl rfl ?_
        refine L_no rfl rfl rfl rfl ?_
        refine L_no rfl rfl rfl rfl ?_
        refine L_go rfl (X_p (p_pick_t rfl rfl rfl rfl) ?_)
        refine L_then (.cons (k := 1) rfl (.cons (k := 2) rfl (.cons (k := 5) rfl (.cons (k := 43) rfl .nil)))) ?_
        refine V_cond_t rfl rfl ?_
        refine V_seq (V_region rfl ?_)
        refine L_go rfl (X_p (p_assign rfl rfl) ?_)
        refine L_then (.cons (k := 4) rfl .nil) ?_
        refine V_ret (then_r ?_)
        refine Leave.nil (.tmp rfl .nil) ?_
        show Value.int .i64 7 = _; rw [errPl_out c1 (by simp only [plOut, Task.pl, Bool.or_eq_true, Bool.or_eq_false_iff, Bool.false_eq_true, or_true, true_or, or_false, false_or, and_true, true_and, and_self, *])]
      · intro g2; have g2' := g2; try simp only [td] at g2'
        refine L_yes rfl rfl rfl g2 (X_p (p_fieldo fo114_3 rfl rfl) ?_)
        refine L_yes rfl rfl rfl g2 (X_rd (r_load ag3 rfl rfl (by repeat first | exact mH | apply mT) rfl) ?_)
        refine L_yes rfl rfl rfl g2 (X_wr (w_callP rfl rfl rfl (fun w hg => rplace_c _ w)) ?_)
        rintro _ _ ⟨rfl, rfl⟩
        refine L_yes rfl rfl rfl g2 (X_p (p_not rfl rfl) ?_)
        refine L_go rfl (X_p (p_pick_f rfl rfl g2 rfl) ?_)
        refine L_go rfl (X_p (p_move rfl rfl) ?_)
        refine L_cases (d := 38) rfl ?_ ?_
        · intro g3; have g3' := g3; try simp only [td] at g3'
          refine L_no rfl rfl rfl g3 ?_
          refine L_no rfl rfl rfl g3 ?_
          refine L_no rfl rfl rfl g3 ?_
          refine L_no rfl rfl rfl g3 ?_
          refine L_go rfl (X_p (p_pick_t rfl rfl g3 rfl) ?_)
          refine L_then (.cons (k := 1) rfl (.cons (k := 2) rfl (.cons (k := 5) rfl (.cons (k := 43) rfl .nil)))) ?_
          refine V_cond_t rfl rfl ?_
          refine V_seq (V_region rfl ?_)
          refine L_go rfl (X_p (p_assign rfl rfl) ?_)
          refine L_then (.cons (k := 4) rfl .nil) ?_
          refine V_ret (then_r ?_)
          refine Leave.nil (.tmp rfl .nil) ?_
          show Value.int .i64 7 = _; rw [errPl_out c1 (by simp only [plOut, Task.pl, Bool.or_eq_true, Bool.or_eq_false_iff, Bool.false_eq_true, or_true, true_or, or_false, false_or, and_true, true_and, and_self, *])]
        · intro g3; have g3' := g3; try simp only [td] at g3'
          refine L_yes rfl rfl rfl g3 (X_p (p_fieldo fo114_4 rfl rfl) ?_)
          refine L_yes rfl rfl rfl g3 (X_rd (r_load ag3 rfl rfl (by repeat first | exact mH | apply mT) rfl) ?_)
          refine L_yes rfl rfl rfl g3 (X_wr (w_callP rfl rfl rfl (fun w hg => rplace_c _ w)) ?_)
          rintro _ _ ⟨rfl, rfl⟩
          refine L_yes rfl rfl rfl g3 (X_p (p_not rfl rfl) ?_)
          refine L_go rfl (X_p (p_pick_f rfl rfl g3 rfl) ?_)
          refine L_then (.cons (k := 1) rfl (.cons (k := 2) rfl (.cons (k := 5) rfl (.cons (k := 43) rfl .nil)))) ?_
          refine V_cond rfl ?_ ?_
          · intro c2; try simp only [td] at c2
            refine V_seq (V_region rfl ?_)
            refine L_go rfl (X_p (p_assign rfl rfl) ?_)
            refine L_then (.cons (k := 4) rfl .nil) ?_
            refine V_ret (then_r ?_)
            refine Leave.nil (.tmp rfl .nil) ?_
            show Value.int .i64 7 = _; rw [errPl_out c1 (by simp only [plOut, Task.pl, Bool.or_eq_true, Bool.or_eq_false_iff, Bool.false_eq_true, or_true, true_or, or_false, false_or, and_true, true_and, and_self, *])]
          · intro c2; try simp only [td] at c2
            refine V_skip (then_n ?_)
            refine V_seq ?_
            refine V_seq (V_region rfl ?_)
            refine L_go rfl (X_p (p_assign rfl rfl) ?_)
            refine L_then (.cons (k := 1) rfl (.cons (k := 2) rfl (.cons (k := 5) rfl (.cons (k := 6) rfl .nil)))) ?_
            refine V_block ?_
            refine V_loop0 (γ := Int) (.cons (k := 1) rfl (.cons (k := 2) rfl (.cons (k := 5) rfl .nil))) (fun k => [(6, .int .i64 k)]) (fun k => 0 ≤ k ∧ k ≤ i ∧ ∀ j : Nat, (j : Int) < k → ¬ ((t.pl j).tracker = (t.pl i.toNat).tracker ∧ (t.pl j).tick = (t.pl i.toNat).tick)) (fun k => (i - k).toNat) (0) (.cons rfl (.nil _)) (⟨by omega, by omega, fun j hj => by omega⟩) ?_
            rintro k hi
            obtain ⟨hk0, hk1, hkp⟩ := hi
            refine V_seq ?_
            refine V_seq (V_region rfl ?_)
            refine L_go rfl (X_p (p_move rfl rfl) ?_)
            refine L_go rfl (X_p (p_move rfl rfl) ?_)
            refine L_go rfl (X_p (p_lss rfl rfl rfl) ?_)
            refine L_then (.cons (k := 1) rfl (.cons (k := 2) rfl (.cons (k := 5) rfl (.cons (k := 6) rfl (.cons (k := 46) rfl .nil))))) ?_
            refine V_cond rfl ?_ ?_
            · intro c3; try simp only [td] at c3
              obtain ⟨_, e, hck⟩ := hpe k.toNat _ (getD_cells (d := plZ) (by omega)); injection e with e; subst e
              refine V_skip (then_n ?_)
              refine V_seq ?_
              refine V_block ?_
              refine V_seq (V_draw (.rd 0 (.rd 1 (.rd 2 (.rd 3 (.rd 4 (.rd 5 (.rd 6 (.rd 7 (.rd 8 (.rd 9 (.rd 10 (.rd 11 (.rd 12 (.rd 13 (.rd 14 (.rd 15 (.rd 16 (.rd 17 (.rd 18 (.rd 19 .done)))))))))))))))))))) mixed (by kernel_rfl) rfl ?_)
              refine D_p rfl (.plain rfl) (p_fieldo fo25_4 rfl rfl) ?_
              refine D_rd rfl (.plain rfl) (r_load ag23 rfl rfl (by repeat first | exact mH | apply mT) rfl) ?_
              refine D_p rfl (.plain rfl) (p_move rfl rfl) ?_
              refine D_p rfl (.plain rfl) (p_idx es23 rfl rfl rfl (by omega) (by omega)) ?_
              refine D_p rfl (.plain rfl) (p_field fo114_0 rfl rfl) ?_
              refine D_rd rfl (.plain rfl) (r_loadB ag3 rfl rfl (hck 0 _ rfl) List.not_mem_nil) ?_
              refine D_p rfl (.plain rfl) (p_fieldo fo114_0 rfl rfl) ?_
              refine D_rd rfl (.plain rfl) (r_load ag3 rfl rfl (by repeat first | exact mH | apply mT) rfl) ?_
              refine D_p rfl (.plain rfl) (p_eql rfl rfl rfl) ?_
              refine D_p rfl (.plain rfl) (p_move rfl rfl) ?_
              refine D_cases (d := 58) rfl ?_ ?_
              · intro g4; have g4' := g4; try simp only [td] at g4'
                refine D_p rfl (.yes rfl rfl rfl g4) (p_fieldo fo25_4 rfl rfl) ?_
                refine D_rd rfl (.yes rfl rfl rfl g4) (r_load ag23 rfl rfl (by repeat first | exact mH | apply mT) rfl) ?_
                refine D_p rfl (.yes rfl rfl rfl g4) (p_move rfl rfl) ?_
                refine D_p rfl (.yes rfl rfl rfl g4) (p_idx es23 rfl rfl rfl (by omega) (by omega)) ?_
                refine D_p rfl (.yes rfl rfl rfl g4) (p_field fo114_1 rfl rfl) ?_
                refine D_rd rfl (.yes rfl rfl rfl g4) (r_loadB ag3 rfl rfl (hck 1 _ rfl) List.not_mem_nil) ?_
                refine D_p rfl (.yes rfl rfl rfl g4) (p_fieldo fo114_1 rfl rfl) ?_
                refine D_rd rfl (.yes rfl rfl rfl g4) (r_load ag3 rfl rfl (by repeat first | exact mH | apply mT) rfl) ?_
                refine D_p rfl (.yes rfl rfl rfl g4) (p_eql rfl rfl rfl) ?_
                refine D_p rfl (.plain rfl) (p_pick_t rfl rfl g4 rfl) ?_
                refine D_then (.cons (k := 1) rfl (.cons (k := 2) rfl (.cons (k := 5) rfl (.cons (k := 6) rfl (.cons (k := 68) rfl .nil))))) ?_
                refine V_cond rfl ?_ ?_
                · intro c4; try simp only [td] at c4
                  refine V_seq (V_region rfl ?_)
                  refine L_go rfl (X_p (p_assign rfl rfl) ?_)
                  refine L_then (.cons (k := 4) rfl .nil) ?_
                  refine V_ret (blk_r (then_r (then_r (blk_r (then_r ?_)))))
                  refine Leave.nil (.tmp rfl .nil) ?_
                  show Value.int .i64 5 = _; rw [errPl_dup c1 (by simp only [plOut, Task.pl, Bool.or_eq_true, Bool.or_eq_false_iff, Bool.false_eq_true, or_true, true_or, or_false, false_or, and_true, true_and, and_self, *]) (seenB_hit (k := k.toNat) (by omega) g4' c4)]
                · intro c4; try simp only [td] at c4
                  refine V_skip (blk_n (then_n ?_))
                  refine V_region rfl ?_
                  refine L_go rfl (X_p (p_move rfl rfl) ?_)
                  first | refine L_go rfl (X_p (p_add' rfl rfl rfl (by unfold InI; omega)) ?_) | refine L_go rfl (X_p (p_add rfl rfl rfl) ?_)
                  refine L_go rfl (X_p (p_assign rfl rfl) ?_)
                  refine L_keep (.cons (k := 1) rfl (.cons (k := 2) rfl (.cons (k := 5) rfl (.cons (k := 6) rfl .nil)))) (then_n ?_)
                  refine ⟨k + 1, ?_, ?_, (.cons rfl (.cons rfl (.cons rfl (.cons rfl (.nil _))))), (by repeat (first | exact List.Sublist.refl _ | apply List.Sublist.cons_cons | apply List.Sublist.cons | apply List.sublist_append_of_sublist_right)), rfl⟩
                  · refine ⟨by omega, by omega, fun j hj => ?_⟩; by_cases e : (j : Int) < k
                    · exact hkp j e
                    · have ej : j = k.toNat := by omega
                      rw [ej]; exact fun h => c4 h.2
                  · omega
              · intro g4; have g4' := g4; try simp only [td] at g4'
                refine D_no rfl (.mk' rfl rfl rfl g4) ?_
                refine D_no rfl (.mk' rfl rfl rfl g4) ?_
                refine D_no rfl (.mk' rfl rfl rfl g4) ?_
                refine D_no rfl (.mk' rfl rfl rfl g4) ?_
                refine D_no rfl (.mk' rfl rfl rfl g4) ?_
                refine D_no rfl (.mk' rfl rfl rfl g4) ?_
                refine D_no rfl (.mk' rfl rfl rfl g4) ?_
                refine D_no rfl (.mk' rfl rfl rfl g4) ?_
                refine D_no rfl (.mk' rfl rfl rfl g4) ?_
                refine D_p rfl (.plain rfl) (p_pick_f rfl rfl g4 rfl) ?_
                refine D_then (.cons (k := 1) rfl (.cons (k := 2) rfl (.cons (k := 5) rfl (.cons (k := 6) rfl (.cons (k := 68) rfl .nil))))) ?_
                refine V_cond_f rfl rfl ?_
                refine V_skip (blk_n (then_n ?_))
                refine V_region rfl ?_
                refine L_go rfl (X_p (p_move rfl rfl) ?_)
                first | refine L_go rfl (X_p (p_add' rfl rfl rfl (by unfold InI; omega)) ?_) | refine L_go rfl (X_p (p_add rfl rfl rfl) ?_)
                refine L_go rfl (X_p (p_assign rfl rfl) ?_)
                refine L_keep (.cons (k := 1) rfl (.cons (k := 2) rfl (.cons (k := 5) rfl (.cons (k := 6) rfl .nil)))) (then_n ?_)
                refine ⟨k + 1, ?_, ?_, (.cons rfl (.cons rfl (.cons rfl (.cons rfl (.nil _))))), (by repeat (first | exact List.Sublist.refl _ | apply List.Sublist.cons_cons | apply List.Sublist.cons | apply List.sublist_append_of_sublist_right)), rfl⟩
                · refine ⟨by omega, by omega, fun j hj => ?_⟩; by_cases e : (j : Int) < k
                  · exact hkp j e
                  · have ej : j = k.toNat := by omega
                    rw [ej]; exact fun h => g4' h.1
                · omega
            · intro c3; try simp only [td] at c3
              refine V_exit (then_e (then_e (blk_e rfl (then_n ?_))))
              refine V_seq (V_region rfl ?_)
              refine L_go rfl (X_p (p_assign rfl rfl) ?_)
              refine L_then (.cons (k := 4) rfl .nil) ?_
              refine V_ret ?_
              refine Leave.nil (.tmp rfl .nil) ?_
              show Value.int .i64 0 = _; rw [errPl_ok c1 (by simp only [plOut, Task.pl, Bool.or_eq_true, Bool.or_eq_false_iff, Bool.false_eq_true, or_true, true_or, or_false, false_or, and_true, true_and, and_self, *]) (seenB_none (fun j hj => hkp j (by omega)))]
theorem rcheck_c (t : Task) (v : Value) (w : World) (ht : TaskR w v t) : FnP Try.prog 68 [v] w (.tuple #[.int .i64 (checkT t).1, .int .i64 (checkT t).2.1, .int .i64 (checkT t).2.2]) := by
  have hT := ht
  obtain ⟨tv, pv, rfl, htr, hpl⟩ := ht.ex
  obtain ⟨ta, tc, rfl, htc, hte⟩ := htr.ex
  obtain ⟨pa, pc, rfl, hpc, hpe⟩ := hpl.ex
  have hltr := hT.ltr
  have hlpl := hT.lpl
  simp only [List.length_map] at hT htc hpc ⊢
  refine fn_pure Try.func68 rfl (by kernel_rfl) Try.ntmps68 Try.results68 rfl ?_
  refine V_seq (V_region rfl ?_)
  refine L_go rfl (X_wr (w_box rfl rfl) ?_)
  rintro _ _ ⟨b1, hb1, rfl, rfl⟩
  refine L_go rfl (X_p (p_assign rfl rfl) ?_)
  refine L_go rfl (X_p (p_assign rfl rfl) ?_)
  refine L_go rfl (X_p (p_assign rfl rfl) ?_)
  refine L_then (.cons (k := 1) rfl .nil) ?_
  refine V_seq ?_
  refine V_seq (V_region rfl ?_)
  refine L_go rfl (X_p (p_fieldo fo25_3 rfl rfl) ?_)
  refine L_go rfl (X_rd (r_load ag22 rfl rfl (by repeat first | exact mH | apply mT) rfl) ?_)
  refine L_go rfl (X_p (p_len isl22 rfl rfl) ?_)
  refine L_go rfl (X_p (p_gtr rfl rfl rfl) ?_)
  refine L_go rfl (X_p (p_move rfl rfl) ?_)
  refine L_cases (d := 13) rfl ?_ ?_
  · intro g1; have g1' := g1; try simp only [td] at g1'
    refine L_no rfl rfl rfl g1 ?_
    refine L_no rfl rfl rfl g1 ?_
    refine L_no rfl rfl rfl g1 ?_
    refine L_no rfl rfl rfl g1 ?_
    refine L_go rfl (X_p (p_pick_t rfl rfl g1 rfl) ?_)
    refine L_then (.cons (k := 1) rfl (.cons (k := 18) rfl .nil)) ?_
    refine V_cond_t rfl rfl ?_
    refine V_seq (V_region rfl ?_)
    refine L_go rfl (X_p (p_assign rfl rfl) ?_)
    refine L_go rfl (X_p (p_assign rfl rfl) ?_)
    refine L_go rfl (X_p (p_assign rfl rfl) ?_)
    refine L_then (.cons (k := 2) rfl (.cons (k := 3) rfl (.cons (k := 4) rfl .nil))) ?_
    refine V_ret (then_r ?_)
    refine Leave.nil (.tmp rfl (.tmp rfl (.tmp rfl .nil))) ?_
    rw [checkT_long (by omega)]; rfl
  · intro g1; have g1' := g1; try simp only [td] at g1'
    refine L_yes rfl rfl rfl g1 (X_p (p_fieldo fo25_4 rfl rfl) ?_)
    refine L_yes rfl rfl rfl g1 (X_rd (r_load ag23 rfl rfl (by repeat first | exact mH | apply mT) rfl) ?_)
    refine L_yes rfl rfl rfl g1 (X_p (p_len isl23 rfl rfl) ?_)
    refine L_yes rfl rfl rfl g1 (X_p (p_gtr rfl rfl rfl) ?_)
    refine L_go rfl (X_p (p_pick_f rfl rfl g1 rfl) ?_)
    refine L_then (.cons (k := 1) rfl (.cons (k := 18) rfl .nil)) ?_
    refine V_cond rfl ?_ ?_
    · intro c1; try simp only [td] at c1
      refine V_seq (V_region rfl ?_)
      refine L_go rfl (X_p (p_assign rfl rfl) ?_)
      refine L_go rfl (X_p (p_assign rfl rfl) ?_)
      refine L_go rfl (X_p (p_assign rfl rfl) ?_)
      refine L_then (.cons (k := 2) rfl (.cons (k := 3) rfl (.cons (k := 4) rfl .nil))) ?_
      refine V_ret (then_r ?_)
      refine Leave.nil (.tmp rfl (.tmp rfl (.tmp rfl .nil))) ?_
      rw [checkT_long (by omega)]; rfl
    · intro c1; try simp only [td] at c1
      refine V_skip (then_n ?_)
      refine V_seq ?_
      refine V_seq (V_region rfl ?_)
      refine L_go rfl (X_p (p_fieldo fo25_0 rfl rfl) ?_)
      refine L_go rfl (X_rd (r_load ag3 rfl rfl (by repeat first | exact mH | apply mT) rfl) ?_)
      refine L_go rfl (X_wr (w_callP rfl rfl rfl (fun w hg => rtick_c _ w)) ?_)
      rintro _ _ ⟨rfl, rfl⟩
      refine L_go rfl (X_p (p_not rfl rfl) ?_)
      refine L_go rfl (X_p (p_move rfl rfl) ?_)
      refine L_cases (d := 23) rfl ?_ ?_
      · intro g2; have g2' := g2; try simp only [td] at g2'
        refine L_no rfl rfl rfl g2 ?_
        refine L_no rfl rfl rfl g2 ?_
        refine L_no rfl rfl rfl g2 ?_
        refine L_no rfl rfl rfl g2 ?_
        refine L_go rfl (X_p (p_pick_t rfl rfl g2 rfl) ?_)
        refine L_go rfl (X_p (p_move rfl rfl) ?_)
        refine L_no rfl rfl rfl rfl ?_
        refine L_no rfl rfl rfl rfl ?_
        refine L_no rfl rfl rfl rfl ?_
        refine L_no rfl rfl rfl rfl ?_
        refine L_go rfl (X_p (p_pick_t rfl rfl rfl rfl) ?_)
        refine L_then (.cons (k := 1) rfl (.cons (k := 34) rfl .nil)) ?_
        refine V_cond_t rfl rfl ?_
        refine V_seq (V_region rfl ?_)
        refine L_go rfl (X_p (p_assign rfl rfl) ?_)
        refine L_go rfl (X_p (p_assign rfl rfl) ?_)
        refine L_go rfl (X_p (p_assign rfl rfl) ?_)
        refine L_then (.cons (k := 2) rfl (.cons (k := 3) rfl (.cons (k := 4) rfl .nil))) ?_
        refine V_ret (then_r ?_)
        refine Leave.nil (.tmp rfl (.tmp rfl (.tmp rfl .nil))) ?_
        rw [checkT_range (by omega) (by omega) (by simp [*])]; rfl
      · intro g2; have g2' := g2; try simp only [td] at g2'
        refine L_yes rfl rfl rfl g2 (X_p (p_fieldo fo25_1 rfl rfl) ?_)
        refine L_yes rfl rfl rfl g2 (X_rd (r_load ag3 rfl rfl (by repeat first | exact mH | apply mT) rfl) ?_)
        refine L_yes rfl rfl rfl g2 (X_wr (w_callP rfl rfl rfl (fun w hg => rin_c _ _ _ w)) ?_)
        rintro _ _ ⟨rfl, rfl⟩
        refine L_yes rfl rfl rfl g2 (X_p (p_not rfl rfl) ?_)
        refine L_go rfl (X_p (p_pick_f rfl rfl g2 rfl) ?_)
        refine L_go rfl (X_p (p_move rfl rfl) ?_)
        refine L_cases (d := 29) rfl ?_ ?_
        · intro g3; have g3' := g3; try simp only [td] at g3'
          refine L_no rfl rfl rfl g3 ?_
          refine L_no rfl rfl rfl g3 ?_
          refine L_no rfl rfl rfl g3 ?_
          refine L_no rfl rfl rfl g3 ?_
          refine L_go rfl (X_p (p_pick_t rfl rfl g3 rfl) ?_)
          refine L_then (.cons (k := 1) rfl (.cons (k := 34) rfl .nil)) ?_
          refine V_cond_t rfl rfl ?_
          refine V_seq (V_region rfl ?_)
          refine L_go rfl (X_p (p_assign rfl rfl) ?_)
          refine L_go rfl (X_p (p_assign rfl rfl) ?_)
          refine L_go rfl (X_p (p_assign rfl rfl) ?_)
          refine L_then (.cons (k := 2) rfl (.cons (k := 3) rfl (.cons (k := 4) rfl .nil))) ?_
          refine V_ret (then_r ?_)
          refine Leave.nil (.tmp rfl (.tmp rfl (.tmp rfl .nil))) ?_
          rw [checkT_range (by omega) (by omega) (by simp [*])]; rfl
        · intro g3; have g3' := g3; try simp only [td] at g3'
          refine L_yes rfl rfl rfl g3 (X_p (p_fieldo fo25_2 rfl rfl) ?_)
          refine L_yes rfl rfl rfl g3 (X_rd (r_load ag3 rfl rfl (by repeat first | exact mH | apply mT) rfl) ?_)
          refine L_yes rfl rfl rfl g3 (X_wr (w_callP rfl rfl rfl (fun w hg => rin_c _ _ _ w)) ?_)
          rintro _ _ ⟨rfl, rfl⟩
          refine L_yes rfl rfl rfl g3 (X_p (p_not rfl rfl) ?_)
          refine L_go rfl (X_p (p_pick_f rfl rfl g3 rfl) ?_)
          refine L_then (.cons (k := 1) rfl (.cons (k := 34) rfl .nil)) ?_
          refine V_cond rfl ?_ ?_
          · intro c2; try simp only [td] at c2
            refine V_seq (V_region rfl ?_)
            refine L_go rfl (X_p (p_assign rfl rfl) ?_)
            refine L_go rfl (X_p (p_assign rfl rfl) ?_)
            refine L_go rfl (X_p (p_assign rfl rfl) ?_)
            refine L_then (.cons (k := 2) rfl (.cons (k := 3) rfl (.cons (k := 4) rfl .nil))) ?_
            refine V_ret (then_r ?_)
            refine Leave.nil (.tmp rfl (.tmp rfl (.tmp rfl .nil))) ?_
            rw [checkT_range (by omega) (by omega) (by simp [*])]; rfl
          · intro c2; try simp only [td] at c2
            refine V_skip (then_n ?_)
            refine V_seq ?_
            refine V_seq (V_region rfl ?_)
            refine L_go rfl (X_p (p_assign rfl rfl) ?_)
            refine L_then (.cons (k := 1) rfl (.cons (k := 5) rfl .nil)) ?_
            refine V_block ?_
            refine V_loop0 (γ := Int) (.cons (k := 1) rfl .nil) (fun k => [(5, .int .i64 k)]) (fun k => 0 ≤ k ∧ k ≤ t.trackers.length ∧ ∀ j : Nat, (j : Int) < k → errTr t j = 0) (fun k => (t.trackers.length - k).toNat) (0) (.cons rfl (.nil _)) (⟨by omega, by omega, fun j hj => by omega⟩) ?_
            rintro k hi
            obtain ⟨hk0, hk1, hkp⟩ := hi
            refine V_seq ?_
            refine V_seq (V_region rfl ?_)
            refine L_go rfl (X_p (p_move rfl rfl) ?_)
            refine L_go rfl (X_p (p_fieldo fo25_3 rfl rfl) ?_)
            refine L_go rfl (X_rd (r_load ag22 rfl rfl (by repeat first | exact mH | apply mT) rfl) ?_)
            refine L_go rfl (X_p (p_len isl22 rfl rfl) ?_)
            refine L_go rfl (X_p (p_lss rfl rfl rfl) ?_)
            refine L_then (.cons (k := 1) rfl (.cons (k := 5) rfl (.cons (k := 39) rfl .nil))) ?_
            refine V_cond rfl ?_ ?_
            · intro c3; try simp only [td] at c3
              refine V_skip (then_n ?_)
              refine V_seq ?_
              refine V_block ?_
              refine V_seq (V_region rfl ?_)
              refine L_go rfl (X_rd (r_loadA (vs := [_, _, _, _, _]) ag25 sz25 rfl rfl (by repeat first | exact mH | apply mT) rfl) ?_)
              refine L_go rfl (X_p (p_move rfl rfl) ?_)
              refine L_go rfl (X_wr (w_callP rfl rfl rfl (fun w hg => rtracker_c t _ k hk0 (by omega) w (hT.good hg))) ?_)
              rintro _ _ ⟨rfl, rfl⟩
              refine L_go rfl (X_p (p_assign rfl rfl) ?_)
              refine L_then (.cons (k := 1) rfl (.cons (k := 5) rfl (.cons (k := 6) rfl .nil))) ?_
              refine V_seq (V_region rfl ?_)
              refine L_go rfl (X_p (p_move rfl rfl) ?_)
              refine L_go rfl (X_p (p_neq rfl rfl rfl) ?_)
              refine L_then (.cons (k := 1) rfl (.cons (k := 5) rfl (.cons (k := 6) rfl (.cons (k := 46) rfl .nil)))) ?_
              refine V_cond rfl ?_ ?_
              · intro c4; try simp only [td] at c4
                refine V_seq (V_region rfl ?_)
                refine L_go rfl (X_p (p_move rfl rfl) ?_)
                refine L_go rfl (X_p (p_move rfl rfl) ?_)
                refine L_go rfl (X_p (p_assign rfl rfl) ?_)
                refine L_go rfl (X_p (p_assign rfl rfl) ?_)
                refine L_go rfl (X_p (p_assign rfl rfl) ?_)
                refine L_then (.cons (k := 2) rfl (.cons (k := 3) rfl (.cons (k := 4) rfl .nil))) ?_
                refine V_ret (blk_r (then_r (then_r (blk_r (then_r ?_)))))
                refine Leave.nil (.tmp rfl (.tmp rfl (.tmp rfl .nil))) ?_
                rw [checkT_tr (k := k) (⟨by omega, by omega, by assumption, by assumption, by assumption⟩) (by omega) (by omega) hkp rfl c4]; rfl
              · intro c4; try simp only [td] at c4
                refine V_skip (blk_n (then_n ?_))
                refine V_region rfl ?_
                refine L_go rfl (X_p (p_move rfl rfl) ?_)
                first | refine L_go rfl (X_p (p_add' rfl rfl rfl (by unfold InI; omega)) ?_) | refine L_go rfl (X_p (p_add rfl rfl rfl) ?_)
                refine L_go rfl (X_p (p_assign rfl rfl) ?_)
                refine L_keep (.cons (k := 1) rfl (.cons (k := 5) rfl .nil)) (then_n ?_)
                refine ⟨k + 1, ?_, ?_, (.cons rfl (.cons rfl (.nil _))), (by repeat (first | exact List.Sublist.refl _ | apply List.Sublist.cons_cons | apply List.Sublist.cons | apply List.sublist_append_of_sublist_right)), rfl⟩
                · refine ⟨by omega, by omega, fun j hj => ?_⟩; by_cases e : (j : Int) < k
                  · exact hkp j e
                  · have ej : j = k.toNat := by omega
                    rw [ej]; exact c4
                · omega
            · intro c3; try simp only [td] at c3
              have htr0 : ∀ j : Nat, j < t.trackers.length → errTr t j = 0 := fun j hj => hkp j (by omega)
              refine V_exit (then_e (then_e (blk_e rfl (then_n ?_))))
              refine V_seq ?_
              refine V_seq (V_region rfl ?_)
              refine L_go rfl (X_p (p_assign rfl rfl) ?_)
              refine L_then (.cons (k := 1) rfl (.cons (k := 7) rfl .nil)) ?_
              refine V_block ?_
              refine V_loop0 (γ := Int) (.cons (k := 1) rfl .nil) (fun k => [(7, .int .i64 k)]) (fun k => 0 ≤ k ∧ k ≤ t.plots.length ∧ ∀ j : Nat, (j : Int) < k → errPl t j = 0) (fun k => (t.plots.length - k).toNat) (0) (.cons rfl (.nil _)) (⟨by omega, by omega, fun j hj => by omega⟩) ?_
              rintro k hi
              obtain ⟨hk0, hk1, hkp⟩ := hi
              refine V_seq ?_
              refine V_seq (V_region rfl ?_)
              refine L_go rfl (X_p (p_move rfl rfl) ?_)
              refine L_go rfl (X_p (p_fieldo fo25_4 rfl rfl) ?_)
              refine L_go rfl (X_rd (r_load ag23 rfl rfl (by repeat first | exact mH | apply mT) rfl) ?_)
              refine L_go rfl (X_p (p_len isl23 rfl rfl) ?_)
              refine L_go rfl (X_p (p_lss rfl rfl rfl) ?_)
              refine L_then (.cons (k := 1) rfl (.cons (k := 7) rfl (.cons (k := 53) rfl .nil))) ?_
              refine V_cond rfl ?_ ?_
              · intro c5; try simp only [td] at c5
                refine V_skip (then_n ?_)
                refine V_seq ?_
                refine V_block ?_
                refine V_seq (V_region rfl ?_)
                refine L_go rfl (X_rd (r_loadA (vs := [_, _, _, _, _]) ag25 sz25 rfl rfl (by repeat first | exact mH | apply mT) rfl) ?_)
                refine L_go rfl (X_p (p_move rfl rfl) ?_)
                refine L_go rfl (X_wr (w_callP rfl rfl rfl (fun w hg => rplot_c t _ k hk0 (by omega) w (hT.good hg))) ?_)
                rintro _ _ ⟨rfl, rfl⟩
                refine L_go rfl (X_p (p_assign rfl rfl) ?_)
                refine L_then (.cons (k := 1) rfl (.cons (k := 7) rfl (.cons (k := 8) rfl .nil))) ?_
                refine V_seq (V_region rfl ?_)
                refine L_go rfl (X_p (p_move rfl rfl) ?_)
                refine L_go rfl (X_p (p_neq rfl rfl rfl) ?_)
                refine L_then (.cons (k := 1) rfl (.cons (k := 7) rfl (.cons (k := 8) rfl (.cons (k := 60) rfl .nil)))) ?_
                refine V_cond rfl ?_ ?_
                · intro c6; try simp only [td] at c6
                  refine V_seq (V_region rfl ?_)
                  refine L_go rfl (X_p (p_move rfl rfl) ?_)
                  refine L_go rfl (X_p (p_move rfl rfl) ?_)
                  refine L_go rfl (X_p (p_assign rfl rfl) ?_)
                  refine L_go rfl (X_p (p_assign rfl rfl) ?_)
                  refine L_go rfl (X_p (p_assign rfl rfl) ?_)
                  refine L_then (.cons (k := 2) rfl (.cons (k := 3) rfl (.cons (k := 4) rfl .nil))) ?_
                  refine V_ret (blk_r (then_r (then_r (blk_r (then_r ?_)))))
                  refine Leave.nil (.tmp rfl (.tmp rfl (.tmp rfl .nil))) ?_
                  rw [checkT_pl (k := k) (⟨by omega, by omega, by assumption, by assumption, by assumption⟩) htr0 (by omega) (by omega) hkp rfl c6]; rfl
                · intro c6; try simp only [td] at c6
                  refine V_skip (blk_n (then_n ?_))
                  refine V_region rfl ?_
                  refine L_go rfl (X_p (p_move rfl rfl) ?_)
                  first | refine L_go rfl (X_p (p_add' rfl rfl rfl (by unfold InI; omega)) ?_) | refine L_go rfl (X_p (p_add rfl rfl rfl) ?_)
                  refine L_go rfl (X_p (p_assign rfl rfl) ?_)
                  refine L_keep (.cons (k := 1) rfl (.cons (k := 7) rfl .nil)) (then_n ?_)
                  refine ⟨k + 1, ?_, ?_, (.cons rfl (.cons rfl (.nil _))), (by repeat (first | exact List.Sublist.refl _ | apply List.Sublist.cons_cons | apply List.Sublist.cons | apply List.sublist_append_of_sublist_right)), rfl⟩
                  · refine ⟨by omega, by omega, fun j hj => ?_⟩; by_cases e : (j : Int) < k
                    · exact hkp j e
                    · have ej : j = k.toNat := by omega
                      rw [ej]; exact c6
                  · omega
              · intro c5; try simp only [td] at c5
                refine V_exit (then_e (then_e (blk_e rfl (then_n ?_))))
                refine V_seq (V_region rfl ?_)
                refine L_go rfl (X_p (p_assign rfl rfl) ?_)
                refine L_go rfl (X_p (p_assign rfl rfl) ?_)
                refine L_go rfl (X_p (p_assign rfl rfl) ?_)
                refine L_then (.cons (k := 2) rfl (.cons (k := 3) rfl (.cons (k := 4) rfl .nil))) ?_
                refine V_ret ?_
                refine Leave.nil (.tmp rfl (.tmp rfl (.tmp rfl .nil))) ?_
                rw [checkT_ok (⟨by omega, by omega, by assumption, by assumption, by assumption⟩) htr0 (fun j hj => hkp j (by omega))]; rfl
theorem asked_c (t : Task) (l : List Int) (v sv : Value) (w : World) (ht : TaskR w v t) (hv : SliceR w 1 sv (l.map fun n => [Value.int .i64 n])) (hl : (l.length : Int) ≤ 9223372036854775806) : FnP Try.prog 32 [v, sv] w (.int .i64 (askedT t l)) := by
  have hT := ht
  obtain ⟨tv, pv, rfl, htr, hpl⟩ := ht.ex
  obtain ⟨ta, tc, rfl, htc, hte⟩ := htr.ex
  obtain ⟨pa, pc, rfl, hpc, hpe⟩ := hpl.ex
  have hltr := hT.ltr
  have hlpl := hT.lpl
  simp only [List.length_map] at hT htc hpc ⊢
  refine fn_pure Try.func32 rfl (by kernel_rfl) Try.ntmps32 Try.results32 rfl ?_
  refine V_seq (V_region rfl ?_)
  refine L_go rfl (X_wr (w_box rfl rfl) ?_)
  rintro _ _ ⟨b1, hb1, rfl, rfl⟩
  refine L_go rfl (X_p (p_assign rfl rfl) ?_)
  refine L_then (.cons (k := 1) rfl (.cons (k := 2) rfl .nil)) ?_
  refine V_seq (V_region rfl ?_)
  refine L_go rfl (X_rd (r_loadA (vs := [_, _, _, _, _]) ag25 sz25 rfl rfl (by repeat first | exact mH | apply mT) rfl) ?_)
  refine L_go rfl (X_wr (w_callP rfl rfl rfl (fun w hg => check_c t _ w (hT.good hg))) ?_)
  rintro _ _ ⟨rfl, rfl⟩
  refine L_go rfl (X_p (p_move rfl rfl) ?_)
  refine L_go rfl (X_p (p_ext rfl rfl rfl) ?_)
  refine L_go rfl (X_p (p_ext rfl rfl rfl) ?_)
  refine L_go rfl (X_p (p_ext rfl rfl rfl) ?_)
  refine L_go rfl (X_p (p_assign rfl rfl) ?_)
  refine L_go rfl (X_p (p_assign rfl rfl) ?_)
  refine L_go rfl (X_p (p_assign rfl rfl) ?_)
  refine L_then (.cons (k := 1) rfl (.cons (k := 7) rfl .nil)) ?_
  refine V_seq ?_
  refine V_seq (V_region rfl ?_)
  refine L_go rfl (X_p (p_move rfl rfl) ?_)
  refine L_go rfl (X_p (p_eql rfl rfl rfl) ?_)
  refine L_go rfl (X_p (p_move rfl rfl) ?_)
  refine L_cases (d := 16) rfl ?_ ?_
  · intro g1; have g1' := g1; try simp only [td] at g1'
    refine L_yes rfl rfl rfl g1 (X_p (p_move rfl rfl) ?_)
    refine L_yes rfl rfl rfl g1 (X_wr (w_callP rfl rfl rfl (fun w hg => never_c l _ w (hv.good hg) hl)) ?_)
    rintro _ _ ⟨rfl, rfl⟩
    refine L_go rfl (X_p (p_pick_t rfl rfl g1 rfl) ?_)
    refine L_then (.cons (k := 7) rfl (.cons (k := 19) rfl .nil)) ?_
    refine V_cond rfl ?_ ?_
    · intro c1; try simp only [td] at c1
      refine V_seq (V_region rfl ?_)
      refine L_go rfl (X_p (p_assign rfl rfl) ?_)
      refine L_then (.cons (k := 4) rfl .nil) ?_
      refine V_ret (then_r ?_)
      refine Leave.nil (.tmp rfl .nil) ?_
      show Value.int .i64 _ = _; simp [askedT, *]
    · intro c1; try simp only [td] at c1
      refine V_skip (then_n ?_)
      refine V_seq (V_region rfl ?_)
      refine L_go rfl (X_p (p_move rfl rfl) ?_)
      refine L_go rfl (X_p (p_assign rfl rfl) ?_)
      refine L_then (.cons (k := 4) rfl .nil) ?_
      refine V_ret ?_
      refine Leave.nil (.tmp rfl .nil) ?_
      show Value.int .i64 _ = _; simp [askedT, *]
  · intro g1; have g1' := g1; try simp only [td] at g1'
    refine L_no rfl rfl rfl g1 ?_
    refine L_no rfl rfl rfl g1 ?_
    refine L_go rfl (X_p (p_pick_f rfl rfl g1 rfl) ?_)
    refine L_then (.cons (k := 7) rfl (.cons (k := 19) rfl .nil)) ?_
    refine V_cond_f rfl rfl ?_
    refine V_skip (then_n ?_)
    refine V_seq (V_region rfl ?_)
    refine L_go rfl (X_p (p_move rfl rfl) ?_)
    refine L_go rfl (X_p (p_assign rfl rfl) ?_)
    refine L_then (.cons (k := 4) rfl .nil) ?_
    refine V_ret ?_
    refine Leave.nil (.tmp rfl .nil) ?_
    show Value.int .i64 _ = _; simp [askedT, *]

end Go.Proofs.Ytclbbchehjapjab
