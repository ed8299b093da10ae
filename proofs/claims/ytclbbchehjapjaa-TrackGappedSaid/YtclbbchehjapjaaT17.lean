/- Ytclbbchehjapjaa: the reference's Where and Alone. -/
import Derived.Test.YtclbbchehjapjaaT14
import Derived.Test.YtclbbchehjapjaaT16
set_option linter.all false
namespace Go.Proofs.Ytclbbchehjapjaa
open Go.Vc Go.Tk
set_option maxRecDepth 100000
theorem rby_c (t : Task) (v : Value) (w : World) (ht : TaskR w v t) (hG : GoodT t) (but alone now : Int) : FnC Try.prog 74 [v, .int .i64 but, .int .i64 alone, .int .i64 now] w fun v w' => ∃ Hc, Vc.Good w [] Hc w' ∧ ∃ A G, Hc = A ++ G ∧ ListOut 3 (byT t now (wantR but alone)) (fun sv => sv) v A G := by
  have hT := ht
  obtain ⟨tv, pv, rfl, htr, hpl⟩ := ht.ex
  obtain ⟨ta, tc, rfl, htc, hte⟩ := htr.ex
  obtain ⟨pa, pc, rfl, hpc, hpe⟩ := hpl.ex
  have hltr := hT.ltr
  have hlpl := hT.lpl
  simp only [List.length_map] at hT htc hpc ⊢
  have hpl60 := hG.h2
  refine fn_new Try.func74 rfl (by kernel_rfl) Try.ntmps74 Try.results74 rfl ?_
  refine V_seq (V_region rfl ?_)
  refine L_go rfl (X_wr (w_box rfl rfl) ?_)
  rintro _ _ ⟨b1, hb1, rfl, rfl⟩
  refine L_go rfl (X_p (p_assign rfl rfl) ?_)
  refine L_then (.cons (k := 1) rfl (.cons (k := 2) rfl (.cons (k := 3) rfl (.cons (k := 4) rfl .nil)))) ?_
  refine V_seq (V_region rfl ?_)
  refine L_go rfl (X_p (p_assign rfl rfl) ?_)
  refine L_then (.cons (k := 1) rfl (.cons (k := 2) rfl (.cons (k := 3) rfl (.cons (k := 4) rfl (.cons (k := 9) rfl .nil))))) ?_
  refine V_seq ?_
  refine V_seq (V_region rfl ?_)
  refine L_go rfl (X_p (p_assign rfl rfl) ?_)
  refine L_then (.cons (k := 1) rfl (.cons (k := 2) rfl (.cons (k := 3) rfl (.cons (k := 4) rfl (.cons (k := 9) rfl (.cons (k := 10) rfl .nil)))))) ?_
  refine V_block ?_
  refine V_loop1 (γ := Int × Value × Heap) (.cons (k := 1) rfl (.cons (k := 2) rfl (.cons (k := 3) rfl (.cons (k := 4) rfl .nil)))) (fun (k, sv, G) => [(10, .int .i64 k), (9, sv)]) (fun (k, sv, G) => (b1, t.obj (.slice ta t.trackers.length tc) (.slice pa t.plots.length pc) 25) :: G) (fun (k, sv, G) => 0 ≤ k ∧ k ≤ t.plots.length ∧ Grow 3 1 sv (byN t now (wantR but alone) k.toNat).length (iiL (byN t now (wantR but alone) k.toNat)) G) (fun (k, sv, G) => (t.plots.length - k).toNat) ((0, .slice none 0 0, [])) (.cons rfl (.cons rfl (.nil _))) (by repeat (first | exact List.Sublist.refl _ | apply List.Sublist.cons_cons | apply List.Sublist.cons)) (⟨by omega, by omega, .nil⟩) ?_
  rintro ⟨k, sv, G⟩ hi
  obtain ⟨hk0, hk1, hgr⟩ := hi
  have hkl := byN_len (t := t) (now := now) (want := wantR but alone) k.toNat
  refine V_seq ?_
  refine V_seq (V_region rfl ?_)
  refine L_go rfl (X_p (p_move rfl rfl) ?_)
  refine L_go rfl (X_p (p_fieldo fo25_4 rfl rfl) ?_)
  refine L_go rfl (X_rd (r_load ag23 rfl rfl (by repeat first | exact mH | apply mT) rfl) ?_)
  refine L_go rfl (X_p (p_len isl23 rfl rfl) ?_)
  refine L_go rfl (X_p (p_lss rfl rfl rfl) ?_)
  refine L_then (.cons (k := 1) rfl (.cons (k := 2) rfl (.cons (k := 3) rfl (.cons (k := 4) rfl (.cons (k := 9) rfl (.cons (k := 10) rfl (.cons (k := 16) rfl .nil))))))) ?_
  refine V_cond rfl ?_ ?_
  · intro c1; try simp only [td] at c1
    obtain ⟨pb, rfl, hcp⟩ := hpe k.toNat _ (getD_cells (d := plZ) (by omega))
    refine V_skip (then_n ?_)
    refine V_seq ?_
    refine V_block ?_
    refine V_seq (V_region rfl ?_)
    refine L_go rfl (X_p (p_fieldo fo25_4 rfl rfl) ?_)
    refine L_go rfl (X_rd (r_load ag23 rfl rfl (by repeat first | exact mH | apply mT) rfl) ?_)
    refine L_go rfl (X_p (p_move rfl rfl) ?_)
    refine L_go rfl (X_p (p_idx es23 rfl rfl rfl (by omega) (by omega)) ?_)
    refine L_go rfl (X_p (p_field fo64_0 rfl rfl) ?_)
    refine L_go rfl (X_rd (r_loadB ag3 rfl rfl (hcp 0 _ rfl) List.not_mem_nil) ?_)
    refine L_go rfl (X_p (p_assign rfl rfl) ?_)
    refine L_then (.cons (k := 1) rfl (.cons (k := 2) rfl (.cons (k := 3) rfl (.cons (k := 4) rfl (.cons (k := 9) rfl (.cons (k := 10) rfl (.cons (k := 11) rfl .nil))))))) ?_
    refine V_seq (V_region rfl ?_)
    refine L_go rfl (X_rd (r_loadA (vs := [_, _, _, _, _]) ag25 sz25 rfl rfl (by repeat first | exact mH | apply mT) rfl) ?_)
    refine L_go rfl (X_p (p_move rfl rfl) ?_)
    refine L_go rfl (X_p (p_move rfl rfl) ?_)
    refine L_go rfl (X_wr (w_callP rfl rfl rfl (fun w hg => rknown_c t _ w (hT.good hg) hG _ _ (by omega) (by omega))) ?_)
    rintro _ _ ⟨rfl, rfl⟩
    refine L_go rfl (X_p (p_move rfl rfl) ?_)
    refine L_cases (d := 29) rfl ?_ ?_
    · intro g1; have g1' := g1; try simp only [td] at g1'
      refine L_yes rfl rfl rfl g1 (X_p (p_move rfl rfl) ?_)
      refine L_yes rfl rfl rfl g1 (X_p (p_move rfl rfl) ?_)
      refine L_yes rfl rfl rfl g1 (X_p (p_neq rfl rfl rfl) ?_)
      refine L_go rfl (X_p (p_pick_t rfl rfl g1 rfl) ?_)
      refine L_go rfl (X_p (p_move rfl rfl) ?_)
      refine L_cases (d := 34) rfl ?_ ?_
      · intro g2; have g2' := g2; try simp only [td] at g2'
        refine L_yes rfl rfl rfl g2 (X_p (p_move rfl rfl) ?_)
        refine L_yes rfl rfl rfl g2 (X_p (p_eql rfl rfl rfl) ?_)
        refine L_yes rfl rfl rfl g2 (X_p (p_move rfl rfl) ?_)
        refine L_cases (d := 37) rfl ?_ ?_
        · intro g3; have g3' := g3; try simp only [td] at g3'
          refine L_no rfl rfl rfl g3 ?_
          refine L_no rfl rfl rfl g3 ?_
          refine L_no rfl rfl rfl g3 ?_
          refine L_yes rfl rfl rfl g2 (X_p (p_pick_t rfl rfl g3 rfl) ?_)
          refine L_go rfl (X_p (p_pick_t rfl rfl g2 rfl) ?_)
          refine L_then (.cons (k := 1) rfl (.cons (k := 2) rfl (.cons (k := 3) rfl (.cons (k := 4) rfl (.cons (k := 9) rfl (.cons (k := 10) rfl (.cons (k := 42) rfl .nil))))))) ?_
          refine V_cond_t rfl rfl ?_
          refine V_region rfl ?_
          refine L_go rfl (X_p (p_move rfl rfl) ?_)
          refine L_go rfl (X_p (p_move rfl rfl) ?_)
          refine L_go rfl (X_wr (w_slice (r := [_]) un57 sz3 zr3 rfl (by decide) rfl (by decide) rfl rfl) ?_)
          rintro _ _ ⟨b2, hb2, rfl, rfl⟩
          refine L_go rfl (X_wr (w_app (pre := [_, _]) (G := G) (post := []) ap57 rfl rfl rfl hgr (by rw [List.append_nil]; rfl) rfl (news_own (by repeat first | exact mH | apply mT)) (by simp [Value.oneCell']) (by omega) (by simp only [maxLen]; omega)) ?_)
          rintro _ _ ⟨G1a, G1c, G1, rfl, rfl, hgr1⟩
          try simp only [List.cons_append, List.nil_append, List.append_nil]
          refine L_go rfl (X_p (p_assign rfl rfl) ?_)
          refine L_keep (.cons (k := 1) rfl (.cons (k := 2) rfl (.cons (k := 3) rfl (.cons (k := 4) rfl (.cons (k := 9) rfl (.cons (k := 10) rfl .nil)))))) (blk_n (then_n ?_))
          refine V_region rfl ?_
          refine L_go rfl (X_p (p_move rfl rfl) ?_)
          first | refine L_go rfl (X_p (p_add' rfl rfl rfl (by unfold InI; omega)) ?_) | refine L_go rfl (X_p (p_add rfl rfl rfl) ?_)
          refine L_go rfl (X_p (p_assign rfl rfl) ?_)
          refine L_keep (.cons (k := 1) rfl (.cons (k := 2) rfl (.cons (k := 3) rfl (.cons (k := 4) rfl (.cons (k := 9) rfl (.cons (k := 10) rfl .nil)))))) (then_n ?_)
          refine ⟨(k + 1, _, G1), ?_, ?_, (.cons rfl (.cons rfl (.cons rfl (.cons rfl (.cons rfl (.cons rfl (.nil _))))))), (by repeat (first | exact List.Sublist.refl _ | apply List.Sublist.cons_cons | apply List.Sublist.cons | apply List.sublist_append_of_sublist_right)), rfl⟩
          · refine ⟨by omega, by omega, ?_⟩
            rw [byN_yes hk0 (by assumption) (wantR_yes (x := (t.plots.getD k.toNat plZ).tracker) (by assumption) (by first | exact .inl (by assumption) | exact .inr (by assumption))), List.length_append, iiL, List.map_append]; exact hgr1
          · dsimp only; omega
        · intro g3; have g3' := g3; try simp only [td] at g3'
          refine L_yes rfl rfl rfl g3 (X_p (p_move rfl rfl) ?_)
          refine L_yes rfl rfl rfl g3 (X_p (p_move rfl rfl) ?_)
          refine L_yes rfl rfl rfl g3 (X_p (p_eql rfl rfl rfl) ?_)
          refine L_yes rfl rfl rfl g2 (X_p (p_pick_f rfl rfl g3 rfl) ?_)
          refine L_go rfl (X_p (p_pick_t rfl rfl g2 rfl) ?_)
          refine L_then (.cons (k := 1) rfl (.cons (k := 2) rfl (.cons (k := 3) rfl (.cons (k := 4) rfl (.cons (k := 9) rfl (.cons (k := 10) rfl (.cons (k := 42) rfl .nil))))))) ?_
          refine V_cond rfl ?_ ?_
          · intro c2; try simp only [td] at c2
            refine V_region rfl ?_
            refine L_go rfl (X_p (p_move rfl rfl) ?_)
            refine L_go rfl (X_p (p_move rfl rfl) ?_)
            refine L_go rfl (X_wr (w_slice (r := [_]) un57 sz3 zr3 rfl (by decide) rfl (by decide) rfl rfl) ?_)
            rintro _ _ ⟨b2, hb2, rfl, rfl⟩
            refine L_go rfl (X_wr (w_app (pre := [_, _]) (G := G) (post := []) ap57 rfl rfl rfl hgr (by rw [List.append_nil]; rfl) rfl (news_own (by repeat first | exact mH | apply mT)) (by simp [Value.oneCell']) (by omega) (by simp only [maxLen]; omega)) ?_)
            rintro _ _ ⟨G1a, G1c, G1, rfl, rfl, hgr1⟩
            try simp only [List.cons_append, List.nil_append, List.append_nil]
            refine L_go rfl (X_p (p_assign rfl rfl) ?_)
            refine L_keep (.cons (k := 1) rfl (.cons (k := 2) rfl (.cons (k := 3) rfl (.cons (k := 4) rfl (.cons (k := 9) rfl (.cons (k := 10) rfl .nil)))))) (blk_n (then_n ?_))
            refine V_region rfl ?_
            refine L_go rfl (X_p (p_move rfl rfl) ?_)
            first | refine L_go rfl (X_p (p_add' rfl rfl rfl (by unfold InI; omega)) ?_) | refine L_go rfl (X_p (p_add rfl rfl rfl) ?_)
            refine L_go rfl (X_p (p_assign rfl rfl) ?_)
            refine L_keep (.cons (k := 1) rfl (.cons (k := 2) rfl (.cons (k := 3) rfl (.cons (k := 4) rfl (.cons (k := 9) rfl (.cons (k := 10) rfl .nil)))))) (then_n ?_)
            refine ⟨(k + 1, _, G1), ?_, ?_, (.cons rfl (.cons rfl (.cons rfl (.cons rfl (.cons rfl (.cons rfl (.nil _))))))), (by repeat (first | exact List.Sublist.refl _ | apply List.Sublist.cons_cons | apply List.Sublist.cons | apply List.sublist_append_of_sublist_right)), rfl⟩
            · refine ⟨by omega, by omega, ?_⟩
              rw [byN_yes hk0 (by assumption) (wantR_yes (x := (t.plots.getD k.toNat plZ).tracker) (by assumption) (by first | exact .inl (by assumption) | exact .inr (by assumption))), List.length_append, iiL, List.map_append]; exact hgr1
            · dsimp only; omega
          · intro c2; try simp only [td] at c2
            refine V_skip (blk_n (then_n ?_))
            refine V_region rfl ?_
            refine L_go rfl (X_p (p_move rfl rfl) ?_)
            first | refine L_go rfl (X_p (p_add' rfl rfl rfl (by unfold InI; omega)) ?_) | refine L_go rfl (X_p (p_add rfl rfl rfl) ?_)
            refine L_go rfl (X_p (p_assign rfl rfl) ?_)
            refine L_keep (.cons (k := 1) rfl (.cons (k := 2) rfl (.cons (k := 3) rfl (.cons (k := 4) rfl (.cons (k := 9) rfl (.cons (k := 10) rfl .nil)))))) (then_n ?_)
            refine ⟨(k + 1, sv, G), ?_, ?_, (.cons rfl (.cons rfl (.cons rfl (.cons rfl (.cons rfl (.cons rfl (.nil _))))))), (by repeat (first | exact List.Sublist.refl _ | apply List.Sublist.cons_cons | apply List.Sublist.cons | apply List.sublist_append_of_sublist_right)), rfl⟩
            · refine ⟨by omega, by omega, ?_⟩
              rw [byN_no hk0 (by first | exact .inl (by assumption) | exact .inr (wantR_no1 (x := (t.plots.getD k.toNat plZ).tracker) (by assumption)) | exact .inr (wantR_no2 (x := (t.plots.getD k.toNat plZ).tracker) (by assumption) (by assumption)))]; exact hgr
            · dsimp only; omega
      · intro g2; have g2' := g2; try simp only [td] at g2'
        refine L_no rfl rfl rfl g2 ?_
        refine L_no rfl rfl rfl g2 ?_
        refine L_no rfl rfl rfl g2 ?_
        refine L_nou rfl rfl rfl ?_
        refine L_nou rfl rfl rfl ?_
        refine L_nou rfl rfl rfl ?_
        refine L_no rfl rfl rfl g2 ?_
        refine L_go rfl (X_p (p_pick_f rfl rfl g2 rfl) ?_)
        refine L_then (.cons (k := 1) rfl (.cons (k := 2) rfl (.cons (k := 3) rfl (.cons (k := 4) rfl (.cons (k := 9) rfl (.cons (k := 10) rfl (.cons (k := 42) rfl .nil))))))) ?_
        refine V_cond_f rfl rfl ?_
        refine V_skip (blk_n (then_n ?_))
        refine V_region rfl ?_
        refine L_go rfl (X_p (p_move rfl rfl) ?_)
        first | refine L_go rfl (X_p (p_add' rfl rfl rfl (by unfold InI; omega)) ?_) | refine L_go rfl (X_p (p_add rfl rfl rfl) ?_)
        refine L_go rfl (X_p (p_assign rfl rfl) ?_)
        refine L_keep (.cons (k := 1) rfl (.cons (k := 2) rfl (.cons (k := 3) rfl (.cons (k := 4) rfl (.cons (k := 9) rfl (.cons (k := 10) rfl .nil)))))) (then_n ?_)
        refine ⟨(k + 1, sv, G), ?_, ?_, (.cons rfl (.cons rfl (.cons rfl (.cons rfl (.cons rfl (.cons rfl (.nil _))))))), (by repeat (first | exact List.Sublist.refl _ | apply List.Sublist.cons_cons | apply List.Sublist.cons | apply List.sublist_append_of_sublist_right)), rfl⟩
        · refine ⟨by omega, by omega, ?_⟩
          rw [byN_no hk0 (by first | exact .inl (by assumption) | exact .inr (wantR_no1 (x := (t.plots.getD k.toNat plZ).tracker) (by assumption)) | exact .inr (wantR_no2 (x := (t.plots.getD k.toNat plZ).tracker) (by assumption) (by assumption)))]; exact hgr
        · dsimp only; omega
    · intro g1; have g1' := g1; try simp only [td] at g1'
      refine L_no rfl rfl rfl g1 ?_
      refine L_no rfl rfl rfl g1 ?_
      refine L_no rfl rfl rfl g1 ?_
      refine L_go rfl (X_p (p_pick_f rfl rfl g1 rfl) ?_)
      refine L_go rfl (X_p (p_move rfl rfl) ?_)
      refine L_no rfl rfl rfl rfl ?_
      refine L_no rfl rfl rfl rfl ?_
      refine L_no rfl rfl rfl rfl ?_
      refine L_nou rfl rfl rfl ?_
      refine L_nou rfl rfl rfl ?_
      refine L_nou rfl rfl rfl ?_
      refine L_no rfl rfl rfl rfl ?_
      refine L_go rfl (X_p (p_pick_f rfl rfl rfl rfl) ?_)
      refine L_then (.cons (k := 1) rfl (.cons (k := 2) rfl (.cons (k := 3) rfl (.cons (k := 4) rfl (.cons (k := 9) rfl (.cons (k := 10) rfl (.cons (k := 42) rfl .nil))))))) ?_
      refine V_cond_f rfl rfl ?_
      refine V_skip (blk_n (then_n ?_))
      refine V_region rfl ?_
      refine L_go rfl (X_p (p_move rfl rfl) ?_)
      first | refine L_go rfl (X_p (p_add' rfl rfl rfl (by unfold InI; omega)) ?_) | refine L_go rfl (X_p (p_add rfl rfl rfl) ?_)
      refine L_go rfl (X_p (p_assign rfl rfl) ?_)
      refine L_keep (.cons (k := 1) rfl (.cons (k := 2) rfl (.cons (k := 3) rfl (.cons (k := 4) rfl (.cons (k := 9) rfl (.cons (k := 10) rfl .nil)))))) (then_n ?_)
      refine ⟨(k + 1, sv, G), ?_, ?_, (.cons rfl (.cons rfl (.cons rfl (.cons rfl (.cons rfl (.cons rfl (.nil _))))))), (by repeat (first | exact List.Sublist.refl _ | apply List.Sublist.cons_cons | apply List.Sublist.cons | apply List.sublist_append_of_sublist_right)), rfl⟩
      · refine ⟨by omega, by omega, ?_⟩
        rw [byN_no hk0 (by first | exact .inl (by assumption) | exact .inr (wantR_no1 (x := (t.plots.getD k.toNat plZ).tracker) (by assumption)) | exact .inr (wantR_no2 (x := (t.plots.getD k.toNat plZ).tracker) (by assumption) (by assumption)))]; exact hgr
      · dsimp only; omega
  · intro c1; try simp only [td] at c1
    refine V_exit (then_e (then_e (blk_e rfl (then_n ?_))))
    refine V_seq (V_region rfl ?_)
    refine L_go rfl (X_p (p_move rfl rfl) ?_)
    refine L_go rfl (X_p (p_assign rfl rfl) ?_)
    refine L_then (.cons (k := 8) rfl .nil) ?_
    refine V_ret ?_
    refine Leave.nil (.tmp rfl .nil) ?_
    have ek : k.toNat = t.plots.length := by omega
    rw [ek] at hgr
    exact ⟨G, (by (try dsimp only); repeat (first | exact HSub.nil _ | refine HSub.take (by repeat first | exact Take.head | apply Take.tail) ?_ | exact HSub.refl _ | refine HSub.drop ?_ | refine HSub.app ?_)), [], G, rfl, sv, rfl, rfl, hgr⟩
theorem rasked_c (t : Task) (v : Value) (w : World) (ht : TaskR w v t) (u now : Int) : FnP Try.prog 72 [v, .int .i64 u, .int .i64 now] w (.int .i64 (askedT t [u, now])) := by
  have hT := ht
  obtain ⟨tv, pv, rfl, htr, hpl⟩ := ht.ex
  obtain ⟨ta, tc, rfl, htc, hte⟩ := htr.ex
  obtain ⟨pa, pc, rfl, hpc, hpe⟩ := hpl.ex
  have hltr := hT.ltr
  have hlpl := hT.lpl
  simp only [List.length_map] at hT htc hpc ⊢
  refine fn_pure Try.func72 rfl (by kernel_rfl) Try.ntmps72 Try.results72 rfl ?_
  refine V_seq (V_region rfl ?_)
  refine L_go rfl (X_wr (w_box rfl rfl) ?_)
  rintro _ _ ⟨b1, hb1, rfl, rfl⟩
  refine L_go rfl (X_p (p_assign rfl rfl) ?_)
  refine L_then (.cons (k := 1) rfl (.cons (k := 2) rfl (.cons (k := 3) rfl .nil))) ?_
  refine V_seq (V_region rfl ?_)
  refine L_go rfl (X_rd (r_loadA (vs := [_, _, _, _, _]) ag25 sz25 rfl rfl (by repeat first | exact mH | apply mT) rfl) ?_)
  refine L_go rfl (X_wr (w_callP rfl rfl rfl (fun w hg => rvalid_c t _ w (hT.good hg))) ?_)
  rintro _ _ ⟨rfl, rfl⟩
  refine L_go rfl (X_p (p_assign rfl rfl) ?_)
  refine L_then (.cons (k := 1) rfl (.cons (k := 2) rfl (.cons (k := 7) rfl .nil))) ?_
  refine V_seq ?_
  refine V_seq (V_region rfl ?_)
  refine L_go rfl (X_p (p_move rfl rfl) ?_)
  refine L_go rfl (X_p (p_eql rfl rfl rfl) ?_)
  refine L_go rfl (X_p (p_move rfl rfl) ?_)
  refine L_cases (d := 12) rfl ?_ ?_
  · intro g1; have g1' := g1; try simp only [td] at g1'
    refine L_yes rfl rfl rfl g1 (X_p (p_move rfl rfl) ?_)
    refine L_yes rfl rfl rfl g1 (X_wr (w_callP rfl rfl rfl (fun w hg => rtick_c _ w)) ?_)
    rintro _ _ ⟨rfl, rfl⟩
    refine L_yes rfl rfl rfl g1 (X_p (p_not rfl rfl) ?_)
    refine L_yes rfl rfl rfl g1 (X_p (p_move rfl rfl) ?_)
    refine L_cases (d := 16) rfl ?_ ?_
    · intro g2; have g2' := g2; try simp only [td] at g2'
      refine L_no rfl rfl rfl g2 ?_
      refine L_no rfl rfl rfl g2 ?_
      refine L_no rfl rfl rfl g2 ?_
      refine L_yes rfl rfl rfl g1 (X_p (p_pick_t rfl rfl g2 rfl) ?_)
      refine L_go rfl (X_p (p_pick_t rfl rfl g1 rfl) ?_)
      refine L_then (.cons (k := 7) rfl (.cons (k := 21) rfl .nil)) ?_
      refine V_cond_t rfl rfl ?_
      refine V_region rfl ?_
      refine L_go rfl (X_p (p_assign rfl rfl) ?_)
      refine L_then (.cons (k := 7) rfl .nil) ?_
      refine V_seq (V_region rfl ?_)
      refine L_go rfl (X_p (p_move rfl rfl) ?_)
      refine L_go rfl (X_p (p_assign rfl rfl) ?_)
      refine L_then (.cons (k := 6) rfl .nil) ?_
      refine V_ret ?_
      refine Leave.nil (.tmp rfl .nil) ?_
      show Value.int .i64 _ = _
      rw [asked_any g1' (by simp [g2'])]
    · intro g2; have g2' := g2; try simp only [td] at g2'
      refine L_yes rfl rfl rfl g2 (X_p (p_move rfl rfl) ?_)
      refine L_yes rfl rfl rfl g2 (X_wr (w_callP rfl rfl rfl (fun w hg => rtick_c _ w)) ?_)
      rintro _ _ ⟨rfl, rfl⟩
      refine L_yes rfl rfl rfl g2 (X_p (p_not rfl rfl) ?_)
      refine L_yes rfl rfl rfl g1 (X_p (p_pick_f rfl rfl g2 rfl) ?_)
      refine L_go rfl (X_p (p_pick_t rfl rfl g1 rfl) ?_)
      refine L_then (.cons (k := 7) rfl (.cons (k := 21) rfl .nil)) ?_
      refine V_cond rfl ?_ ?_
      · intro c1; try simp only [td] at c1
        refine V_region rfl ?_
        refine L_go rfl (X_p (p_assign rfl rfl) ?_)
        refine L_then (.cons (k := 7) rfl .nil) ?_
        refine V_seq (V_region rfl ?_)
        refine L_go rfl (X_p (p_move rfl rfl) ?_)
        refine L_go rfl (X_p (p_assign rfl rfl) ?_)
        refine L_then (.cons (k := 6) rfl .nil) ?_
        refine V_ret ?_
        refine Leave.nil (.tmp rfl .nil) ?_
        show Value.int .i64 _ = _
        rw [asked_any g1' (by simp [c1])]
      · intro c1; try simp only [td] at c1
        refine V_skip (then_n ?_)
        refine V_seq (V_region rfl ?_)
        refine L_go rfl (X_p (p_move rfl rfl) ?_)
        refine L_go rfl (X_p (p_assign rfl rfl) ?_)
        refine L_then (.cons (k := 6) rfl .nil) ?_
        refine V_ret ?_
        refine Leave.nil (.tmp rfl .nil) ?_
        show Value.int .i64 _ = _
        rw [asked_same (fun _ => by simp [g2', c1])]
  · intro g1; have g1' := g1; try simp only [td] at g1'
    refine L_no rfl rfl rfl g1 ?_
    refine L_no rfl rfl rfl g1 ?_
    refine L_no rfl rfl rfl g1 ?_
    refine L_no rfl rfl rfl g1 ?_
    refine L_nou rfl rfl rfl ?_
    refine L_nou rfl rfl rfl ?_
    refine L_nou rfl rfl rfl ?_
    refine L_no rfl rfl rfl g1 ?_
    refine L_go rfl (X_p (p_pick_f rfl rfl g1 rfl) ?_)
    refine L_then (.cons (k := 7) rfl (.cons (k := 21) rfl .nil)) ?_
    refine V_cond_f rfl rfl ?_
    refine V_skip (then_n ?_)
    refine V_seq (V_region rfl ?_)
    refine L_go rfl (X_p (p_move rfl rfl) ?_)
    refine L_go rfl (X_p (p_assign rfl rfl) ?_)
    refine L_then (.cons (k := 6) rfl .nil) ?_
    refine V_ret ?_
    refine Leave.nil (.tmp rfl .nil) ?_
    show Value.int .i64 _ = _
    rw [asked_bad g1']
set_option maxHeartbeats 4000000 in
theorem rwhere_c (t : Task) (v : Value) (w : World) (ht : TaskR w v t) (u now : Int) : FnP Try.prog 38 [v, .int .i64 u, .int .i64 now] w (.tuple #[.agg (Box.cells (whereP t u now).1).toArray, .int .i64 (whereP t u now).2]) := by
  have hT := ht
  obtain ⟨tv, pv, rfl, htr, hpl⟩ := ht.ex
  obtain ⟨ta, tc, rfl, htc, hte⟩ := htr.ex
  obtain ⟨pa, pc, rfl, hpc, hpe⟩ := hpl.ex
  have hltr := hT.ltr
  have hlpl := hT.lpl
  simp only [List.length_map] at hT htc hpc ⊢
  refine fn_pure Try.func38 rfl (by kernel_rfl) Try.ntmps38 Try.results38 rfl ?_
  refine V_seq (V_region rfl ?_)
  refine L_go rfl (X_wr (w_box rfl rfl) ?_)
  rintro _ _ ⟨b1, hb1, rfl, rfl⟩
  refine L_go rfl (X_wr (w_alloc zr35 rfl) ?_)
  rintro _ _ ⟨b2, hb2, rfl, rfl⟩
  refine L_go rfl (X_p (p_assign rfl rfl) ?_)
  refine L_then (.cons (k := 1) rfl (.cons (k := 2) rfl (.cons (k := 3) rfl (.cons (k := 6) rfl .nil)))) ?_
  refine V_seq (V_region rfl ?_)
  refine L_go rfl (X_rd (r_loadA (vs := [_, _, _, _, _]) ag25 sz25 rfl rfl (by repeat first | exact mH | apply mT) rfl) ?_)
  refine L_go rfl (X_p (p_move rfl rfl) ?_)
  refine L_go rfl (X_p (p_move rfl rfl) ?_)
  refine L_go rfl (X_wr (w_callP rfl rfl rfl (fun w hg => rasked_c t _ w (hT.good hg) _ _)) ?_)
  rintro _ _ ⟨rfl, rfl⟩
  refine L_go rfl (X_p (p_assign rfl rfl) ?_)
  refine L_then (.cons (k := 1) rfl (.cons (k := 2) rfl (.cons (k := 3) rfl (.cons (k := 6) rfl (.cons (k := 8) rfl .nil))))) ?_
  refine V_seq ?_
  refine V_seq (V_region rfl ?_)
  refine L_go rfl (X_p (p_move rfl rfl) ?_)
  refine L_go rfl (X_p (p_neq rfl rfl rfl) ?_)
  refine L_then (.cons (k := 1) rfl (.cons (k := 2) rfl (.cons (k := 3) rfl (.cons (k := 6) rfl (.cons (k := 8) rfl (.cons (k := 16) rfl .nil)))))) ?_
  refine V_cond rfl ?_ ?_
  · intro c1; try simp only [td] at c1
    refine V_seq (V_region rfl ?_)
    refine L_go rfl (X_p (p_build (r := [_, _, _, _, _, _, _, _, _, _, _, _, _]) pl35 zr35 rfl rfl rfl) ?_)
    refine L_go rfl (X_p (p_move rfl rfl) ?_)
    refine L_go rfl (X_wr (w_store (cs' := [_, _, _, _, _, _, _, _, _, _, _, _, _]) sz35 rfl rfl rfl rfl rfl (by repeat first | exact .head | apply SetAt.tail) (Nat.le_of_ble_eq_true rfl) rfl) ?_)
    rintro _ _ ⟨rfl, rfl⟩
    refine L_go rfl (X_p (p_assign rfl rfl) ?_)
    refine L_then (.cons (k := 6) rfl (.cons (k := 7) rfl .nil)) ?_
    refine V_ret (then_r ?_)
    refine Leave.nil (.cellA (us := [_, _, _, _, _, _, _, _, _, _, _, _, _]) rfl ag35 sz35 (by repeat first | exact mH | apply mT) rfl (.tmp rfl .nil)) ?_
    rw [whereP, if_pos c1]; rfl
  · intro c1; try simp only [td] at c1
    obtain ⟨hG, hn⟩ := asked_zero c1
    have hu := hn u (.head _)
    have hw := whereP_ref hG c1
    refine V_skip (then_n ?_)
    refine V_mid (γ := Nat) (.cons (k := 6) rfl .nil) (fun x9 => [(9, .pointer (some ⟨x9, 0, none⟩)), (10, .bool (boxT t (byT t now (wantR (-1) (-1))) u).isSome)]) (fun x9 => [(x9, .cells (Box.cells ((boxT t (byT t now (wantR (-1) (-1))) u).getD boxZ)).toArray 35), (b2, .cells (Box.cells boxZ).toArray 35), (b1, t.obj (.slice ta t.trackers.length tc) (.slice pa t.plots.length pc) 25)]) (fun x9 => True) ?_ ?_
    · refine V_draw (.rd 0 (.rd 1 (.rd 2 (.rd 4 (.wr2 3 [4, 0] (.wr2 5 [2, 1] (.rd 6 (.rd 7 (.rd 8 (.wr 9 [8, 7, 6, 4, 2, 1, 0] (.wr 10 [8] (.rd 11 .done)))))) 9 [4, 2, 1, 0] (.wr 5 [2, 1] (.rd 6 (.rd 7 (.rd 8 (.wr 10 [8] (.rd 11 .done))))))) 9 [4, 2, 1, 0] (.wr 3 [4, 0] (.wr 5 [2, 1] (.rd 6 (.rd 7 (.rd 8 (.wr 10 [8] (.rd 11 .done)))))))))))) mixed (by kernel_rfl) rfl ?_
      refine D_rd rfl (.plain rfl) (r_loadA (vs := [_, _, _, _, _]) ag25 sz25 rfl rfl (by repeat first | exact mH | apply mT) rfl) ?_
      refine D_rd rfl (.plain rfl) (r_loadA (vs := [_, _, _, _, _]) ag25 sz25 rfl rfl (by repeat first | exact mH | apply mT) rfl) ?_
      refine D_p rfl (.plain rfl) (p_move rfl rfl) ?_
      refine D_p rfl (.plain rfl) (p_move rfl rfl) ?_
      refine D_wr2 rfl ?_ ?_
      · refine (.go (E' := [(0, _)]) rfl (.plain rfl) (w_callG (pre := [_, _]) rfl rfl rfl rfl (fun w hg => rby_c t _ w (hT.good hg) hG (-1) (-1) now)) rfl ?_)
        rintro _ _ ⟨_, Gb, rfl, hfrb, svb, rfl, rfl, hgrb⟩
        try dsimp only at hgrb
        try simp only [List.cons_append, List.nil_append, List.append_nil]
        refine ⟨(.cons rfl (.plain rfl) (r_loadA (vs := [_, _, _, _, _]) ag25 sz25 rfl rfl (by repeat first | exact mH | apply mT) rfl) .nil), ?_⟩
        refine D_wr2 rfl ?_ ?_
        · refine (.go (E' := []) rfl (.plain rfl) (w_callP rfl rfl rfl (fun w hg => rbox_c t _ (byT t now (wantR (-1) (-1))) _ w (hT.good hg) (Grow.slice hgrb (fun p hp => hg.own p (by repeat first | exact hp | exact List.mem_append_left _ hp | apply List.mem_append_right | apply mT))) hG byT_bnd (Nat.le_trans byT_len hG.h2) u hu)) rfl ?_)
          rintro _ _ ⟨rfl, rfl⟩
          refine ⟨.nil, ?_⟩
          refine D_p rfl (.plain rfl) (p_move rfl rfl) ?_
          refine D_p rfl (.plain rfl) (p_ext rfl rfl rfl) ?_
          refine D_p rfl (.plain rfl) (p_ext rfl rfl rfl) ?_
          refine D_wr (.go (E' := []) rfl (.plain rfl) (w_alloc zr35 rfl) rfl ?_)
          rintro _ _ ⟨b4, hb4, rfl, rfl⟩
          refine ⟨.nil, ?_⟩
          refine D_wr (.go (E' := []) rfl (.plain rfl) (w_store (cs' := [_, _, _, _, _, _, _, _, _, _, _, _, _]) sz35 rfl rfl rfl rfl rfl (by repeat first | exact .head | apply SetAt.tail) (Nat.le_of_ble_eq_true rfl) rfl) rfl ?_)
          rintro _ _ ⟨rfl, rfl⟩
          refine ⟨.nil, ?_⟩
          refine D_p rfl (.plain rfl) (p_assign rfl rfl) ?_
          refine D_then (.cons (k := 6) rfl (.cons (k := 9) rfl (.cons (k := 10) rfl .nil))) ?_
          refine ⟨b4, trivial, (.cons rfl (.cons rfl (.cons rfl (.nil _)))), (by (try dsimp only); repeat (first | exact HSub.nil _ | refine HSub.take (by repeat first | exact Take.head | apply Take.tail) ?_ | exact HSub.refl _ | refine HSub.drop ?_ | refine HSub.app ?_)), rfl⟩
        · refine (.go (E' := [(0, _)]) rfl (.plain rfl) (w_alloc zr35 rfl) rfl ?_)
          rintro _ _ ⟨b4, hb4, rfl, rfl⟩
          refine ⟨(.cons rfl (.plain rfl) (r_loadA (vs := [_, _, _, _, _]) ag25 sz25 rfl rfl (by repeat first | exact mH | apply mT) rfl) .nil), ?_⟩
          refine D_wr (.go (E' := []) rfl (.plain rfl) (w_callP rfl rfl rfl (fun w hg => rbox_c t _ (byT t now (wantR (-1) (-1))) _ w (hT.good hg) (Grow.slice hgrb (fun p hp => hg.own p (by repeat first | exact hp | exact List.mem_append_left _ hp | apply List.mem_append_right | apply mT))) hG byT_bnd (Nat.le_trans byT_len hG.h2) u hu)) rfl ?_)
          rintro _ _ ⟨rfl, rfl⟩
          refine ⟨.nil, ?_⟩
          refine D_p rfl (.plain rfl) (p_move rfl rfl) ?_
          refine D_p rfl (.plain rfl) (p_ext rfl rfl rfl) ?_
          refine D_p rfl (.plain rfl) (p_ext rfl rfl rfl) ?_
          refine D_wr (.go (E' := []) rfl (.plain rfl) (w_store (cs' := [_, _, _, _, _, _, _, _, _, _, _, _, _]) sz35 rfl rfl rfl rfl rfl (by repeat first | exact .head | apply SetAt.tail) (Nat.le_of_ble_eq_true rfl) rfl) rfl ?_)
          rintro _ _ ⟨rfl, rfl⟩
          refine ⟨.nil, ?_⟩
          refine D_p rfl (.plain rfl) (p_assign rfl rfl) ?_
          refine D_then (.cons (k := 6) rfl (.cons (k := 9) rfl (.cons (k := 10) rfl .nil))) ?_
          refine ⟨b4, trivial, (.cons rfl (.cons rfl (.cons rfl (.nil _)))), (by (try dsimp only); repeat (first | exact HSub.nil _ | refine HSub.take (by repeat first | exact Take.head | apply Take.tail) ?_ | exact HSub.refl _ | refine HSub.drop ?_ | refine HSub.app ?_)), rfl⟩
      · refine (.go (E' := [(1, _), (0, _)]) rfl (.plain rfl) (w_alloc zr35 rfl) rfl ?_)
        rintro _ _ ⟨b3, hb3, rfl, rfl⟩
        refine ⟨(.cons rfl (.plain rfl) (r_loadA (vs := [_, _, _, _, _]) ag25 sz25 rfl rfl (by repeat first | exact mH | apply mT) rfl) (.cons rfl (.plain rfl) (r_loadA (vs := [_, _, _, _, _]) ag25 sz25 rfl rfl (by repeat first | exact mH | apply mT) rfl) .nil)), ?_⟩
        refine D_wr (.go (E' := [(0, _)]) rfl (.plain rfl) (w_callG (pre := [_, _, _]) rfl rfl rfl rfl (fun w hg => rby_c t _ w (hT.good hg) hG (-1) (-1) now)) rfl ?_)
        rintro _ _ ⟨_, Gb, rfl, hfrb, svb, rfl, rfl, hgrb⟩
        try dsimp only at hgrb
        try simp only [List.cons_append, List.nil_append, List.append_nil]
        refine ⟨(.cons rfl (.plain rfl) (r_loadA (vs := [_, _, _, _, _]) ag25 sz25 rfl rfl (by repeat first | exact mH | apply mT) rfl) .nil), ?_⟩
        refine D_wr (.go (E' := []) rfl (.plain rfl) (w_callP rfl rfl rfl (fun w hg => rbox_c t _ (byT t now (wantR (-1) (-1))) _ w (hT.good hg) (Grow.slice hgrb (fun p hp => hg.own p (by repeat first | exact hp | exact List.mem_append_left _ hp | apply List.mem_append_right | apply mT))) hG byT_bnd (Nat.le_trans byT_len hG.h2) u hu)) rfl ?_)
        rintro _ _ ⟨rfl, rfl⟩
        refine ⟨.nil, ?_⟩
        refine D_p rfl (.plain rfl) (p_move rfl rfl) ?_
        refine D_p rfl (.plain rfl) (p_ext rfl rfl rfl) ?_
        refine D_p rfl (.plain rfl) (p_ext rfl rfl rfl) ?_
        refine D_wr (.go (E' := []) rfl (.plain rfl) (w_store (cs' := [_, _, _, _, _, _, _, _, _, _, _, _, _]) sz35 rfl rfl rfl rfl rfl (by repeat first | exact .head | apply SetAt.tail) (Nat.le_of_ble_eq_true rfl) rfl) rfl ?_)
        rintro _ _ ⟨rfl, rfl⟩
        refine ⟨.nil, ?_⟩
        refine D_p rfl (.plain rfl) (p_assign rfl rfl) ?_
        refine D_then (.cons (k := 6) rfl (.cons (k := 9) rfl (.cons (k := 10) rfl .nil))) ?_
        refine ⟨b3, trivial, (.cons rfl (.cons rfl (.cons rfl (.nil _)))), (by (try dsimp only); repeat (first | exact HSub.nil _ | refine HSub.take (by repeat first | exact Take.head | apply Take.tail) ?_ | exact HSub.refl _ | refine HSub.drop ?_ | refine HSub.app ?_)), rfl⟩
    · rintro x9 _
      refine V_seq ?_
      refine V_seq (V_region rfl ?_)
      refine L_go rfl (X_p (p_move rfl rfl) ?_)
      refine L_go rfl (X_p (p_not rfl rfl) ?_)
      refine L_then (.cons (k := 6) rfl (.cons (k := 9) rfl (.cons (k := 29) rfl .nil))) ?_
      refine V_cond rfl ?_ ?_
      · intro c2; try simp only [td] at c2
        refine V_seq (V_region rfl ?_)
        refine L_go rfl (X_p (p_build (r := [_, _, _, _, _, _, _, _, _, _, _, _, _]) pl35 zr35 rfl rfl rfl) ?_)
        refine L_go rfl (X_wr (w_store (cs' := [_, _, _, _, _, _, _, _, _, _, _, _, _]) sz35 rfl rfl rfl rfl rfl (by repeat first | exact .head | apply SetAt.tail) (Nat.le_of_ble_eq_true rfl) rfl) ?_)
        rintro _ _ ⟨rfl, rfl⟩
        refine L_go rfl (X_p (p_assign rfl rfl) ?_)
        refine L_then (.cons (k := 6) rfl (.cons (k := 7) rfl .nil)) ?_
        refine V_ret (then_r ?_)
        refine Leave.nil (.cellA (us := [_, _, _, _, _, _, _, _, _, _, _, _, _]) rfl ag35 sz35 (by repeat first | exact mH | apply mT) rfl (.tmp rfl .nil)) ?_
        rw [hw, isSome_none c2]; rfl
      · intro c2; try simp only [td] at c2
        refine V_skip (then_n ?_)
        refine V_seq (V_region rfl ?_)
        refine L_go rfl (X_rd (r_loadA (vs := [_, _, _, _, _, _, _, _, _, _, _, _, _]) ag35 sz35 rfl rfl (by repeat first | exact mH | apply mT) rfl) ?_)
        refine L_go rfl (X_wr (w_store (cs' := [_, _, _, _, _, _, _, _, _, _, _, _, _]) sz35 rfl rfl rfl rfl rfl (by repeat first | exact .head | apply SetAt.tail) (Nat.le_of_ble_eq_true rfl) rfl) ?_)
        rintro _ _ ⟨rfl, rfl⟩
        refine L_go rfl (X_p (p_assign rfl rfl) ?_)
        refine L_then (.cons (k := 6) rfl (.cons (k := 7) rfl .nil)) ?_
        refine V_ret ?_
        refine Leave.nil (.cellA (us := [_, _, _, _, _, _, _, _, _, _, _, _, _]) rfl ag35 sz35 (by repeat first | exact mH | apply mT) rfl (.tmp rfl .nil)) ?_
        rw [hw, isSome_get c2]; rfl
set_option maxHeartbeats 4000000 in
theorem ralone_c (t : Task) (v : Value) (w : World) (ht : TaskR w v t) (tr u now : Int) : FnP Try.prog 40 [v, .int .i64 tr, .int .i64 u, .int .i64 now] w (.tuple #[.agg (Box.cells (aloneP t tr u now).1).toArray, .int .i64 (aloneP t tr u now).2]) := by
  have hT := ht
  obtain ⟨tv, pv, rfl, htr, hpl⟩ := ht.ex
  obtain ⟨ta, tc, rfl, htc, hte⟩ := htr.ex
  obtain ⟨pa, pc, rfl, hpc, hpe⟩ := hpl.ex
  have hltr := hT.ltr
  have hlpl := hT.lpl
  simp only [List.length_map] at hT htc hpc ⊢
  refine fn_pure Try.func40 rfl (by kernel_rfl) Try.ntmps40 Try.results40 rfl ?_
  refine V_seq (V_region rfl ?_)
  refine L_go rfl (X_wr (w_box rfl rfl) ?_)
  rintro _ _ ⟨b1, hb1, rfl, rfl⟩
  refine L_go rfl (X_wr (w_alloc zr35 rfl) ?_)
  rintro _ _ ⟨b2, hb2, rfl, rfl⟩
  refine L_go rfl (X_p (p_assign rfl rfl) ?_)
  refine L_then (.cons (k := 1) rfl (.cons (k := 2) rfl (.cons (k := 3) rfl (.cons (k := 4) rfl (.cons (k := 8) rfl .nil))))) ?_
  refine V_seq (V_region rfl ?_)
  refine L_go rfl (X_rd (r_loadA (vs := [_, _, _, _, _]) ag25 sz25 rfl rfl (by repeat first | exact mH | apply mT) rfl) ?_)
  refine L_go rfl (X_wr (w_callP rfl rfl rfl (fun w hg => rvalid_c t _ w (hT.good hg))) ?_)
  rintro _ _ ⟨rfl, rfl⟩
  refine L_go rfl (X_p (p_assign rfl rfl) ?_)
  refine L_then (.cons (k := 1) rfl (.cons (k := 2) rfl (.cons (k := 3) rfl (.cons (k := 4) rfl (.cons (k := 8) rfl (.cons (k := 10) rfl .nil)))))) ?_
  refine V_seq ?_
  refine V_seq (V_region rfl ?_)
  refine L_go rfl (X_p (p_move rfl rfl) ?_)
  refine L_go rfl (X_p (p_eql rfl rfl rfl) ?_)
  refine L_go rfl (X_p (p_move rfl rfl) ?_)
  refine L_cases (d := 17) rfl ?_ ?_
  · intro g1; have g1' := g1; try simp only [td] at g1'
    refine L_yes rfl rfl rfl g1 (X_p (p_move rfl rfl) ?_)
    refine L_yes rfl rfl rfl g1 (X_p (p_fieldo fo25_3 rfl rfl) ?_)
    refine L_yes rfl rfl rfl g1 (X_rd (r_load ag22 rfl rfl (by repeat first | exact mH | apply mT) rfl) ?_)
    refine L_yes rfl rfl rfl g1 (X_p (p_len isl22 rfl rfl) ?_)
    first | refine L_yes rfl rfl rfl g1 (X_p (p_sub' rfl rfl rfl (by unfold InI; omega)) ?_) | refine L_yes rfl rfl rfl g1 (X_p (p_sub rfl rfl rfl) ?_)
    refine L_yes rfl rfl rfl g1 (X_wr (w_callP rfl rfl rfl (fun w hg => rin_c _ _ _ w)) ?_)
    rintro _ _ ⟨rfl, rfl⟩
    refine L_yes rfl rfl rfl g1 (X_p (p_not rfl rfl) ?_)
    refine L_go rfl (X_p (p_pick_t rfl rfl g1 rfl) ?_)
    refine L_then (.cons (k := 1) rfl (.cons (k := 2) rfl (.cons (k := 3) rfl (.cons (k := 4) rfl (.cons (k := 8) rfl (.cons (k := 10) rfl (.cons (k := 25) rfl .nil))))))) ?_
    refine V_cond rfl ?_ ?_
    · intro c1; try simp only [td] at c1
      refine V_region rfl ?_
      refine L_go rfl (X_p (p_assign rfl rfl) ?_)
      refine L_then (.cons (k := 1) rfl (.cons (k := 2) rfl (.cons (k := 3) rfl (.cons (k := 4) rfl (.cons (k := 8) rfl (.cons (k := 10) rfl .nil)))))) ?_
      refine V_seq ?_
      refine V_seq (V_region rfl ?_)
      refine L_go rfl (X_p (p_move rfl rfl) ?_)
      refine L_go rfl (X_p (p_eql rfl rfl rfl) ?_)
      refine L_then (.cons (k := 1) rfl (.cons (k := 2) rfl (.cons (k := 3) rfl (.cons (k := 4) rfl (.cons (k := 8) rfl (.cons (k := 10) rfl (.cons (k := 27) rfl .nil))))))) ?_
      refine V_cond_f rfl rfl ?_
      refine V_skip (then_n ?_)
      refine V_seq ?_
      refine V_seq (V_region rfl ?_)
      refine L_go rfl (X_p (p_move rfl rfl) ?_)
      refine L_go rfl (X_p (p_neq rfl rfl rfl) ?_)
      refine L_then (.cons (k := 1) rfl (.cons (k := 2) rfl (.cons (k := 3) rfl (.cons (k := 4) rfl (.cons (k := 8) rfl (.cons (k := 10) rfl (.cons (k := 33) rfl .nil))))))) ?_
      refine V_cond_t rfl rfl ?_
      refine V_seq (V_region rfl ?_)
      refine L_go rfl (X_p (p_build (r := [_, _, _, _, _, _, _, _, _, _, _, _, _]) pl35 zr35 rfl rfl rfl) ?_)
      refine L_go rfl (X_p (p_move rfl rfl) ?_)
      refine L_go rfl (X_wr (w_store (cs' := [_, _, _, _, _, _, _, _, _, _, _, _, _]) sz35 rfl rfl rfl rfl rfl (by repeat first | exact .head | apply SetAt.tail) (Nat.le_of_ble_eq_true rfl) rfl) ?_)
      rintro _ _ ⟨rfl, rfl⟩
      refine L_go rfl (X_p (p_assign rfl rfl) ?_)
      refine L_then (.cons (k := 8) rfl (.cons (k := 9) rfl .nil)) ?_
      refine V_ret (then_r ?_)
      refine Leave.nil (.cellA (us := [_, _, _, _, _, _, _, _, _, _, _, _, _]) rfl ag35 sz35 (by repeat first | exact mH | apply mT) rfl (.tmp rfl .nil)) ?_
      rw [aloneP_2 (asked_ok g1' rfl) c1]; rfl
    · intro c1; try simp only [td] at c1
      refine V_skip (then_n ?_)
      refine V_seq ?_
      refine V_seq (V_region rfl ?_)
      refine L_go rfl (X_p (p_move rfl rfl) ?_)
      refine L_go rfl (X_p (p_eql rfl rfl rfl) ?_)
      refine L_then (.cons (k := 1) rfl (.cons (k := 2) rfl (.cons (k := 3) rfl (.cons (k := 4) rfl (.cons (k := 8) rfl (.cons (k := 10) rfl (.cons (k := 27) rfl .nil))))))) ?_
      refine V_cond rfl ?_ ?_
      · intro c2; try simp only [td] at c2
        refine V_region rfl ?_
        refine L_go rfl (X_rd (r_loadA (vs := [_, _, _, _, _]) ag25 sz25 rfl rfl (by repeat first | exact mH | apply mT) rfl) ?_)
        refine L_go rfl (X_p (p_move rfl rfl) ?_)
        refine L_go rfl (X_p (p_move rfl rfl) ?_)
        refine L_go rfl (X_wr (w_callP rfl rfl rfl (fun w hg => rasked_c t _ w (hT.good hg) _ _)) ?_)
        rintro _ _ ⟨rfl, rfl⟩
        refine L_go rfl (X_p (p_assign rfl rfl) ?_)
        refine L_then (.cons (k := 1) rfl (.cons (k := 2) rfl (.cons (k := 3) rfl (.cons (k := 4) rfl (.cons (k := 8) rfl (.cons (k := 10) rfl .nil)))))) ?_
        refine V_seq ?_
        refine V_seq (V_region rfl ?_)
        refine L_go rfl (X_p (p_move rfl rfl) ?_)
        refine L_go rfl (X_p (p_neq rfl rfl rfl) ?_)
        refine L_then (.cons (k := 1) rfl (.cons (k := 2) rfl (.cons (k := 3) rfl (.cons (k := 4) rfl (.cons (k := 8) rfl (.cons (k := 10) rfl (.cons (k := 33) rfl .nil))))))) ?_
        refine V_cond rfl ?_ ?_
        · intro c3; try simp only [td] at c3
          refine V_seq (V_region rfl ?_)
          refine L_go rfl (X_p (p_build (r := [_, _, _, _, _, _, _, _, _, _, _, _, _]) pl35 zr35 rfl rfl rfl) ?_)
          refine L_go rfl (X_p (p_move rfl rfl) ?_)
          refine L_go rfl (X_wr (w_store (cs' := [_, _, _, _, _, _, _, _, _, _, _, _, _]) sz35 rfl rfl rfl rfl rfl (by repeat first | exact .head | apply SetAt.tail) (Nat.le_of_ble_eq_true rfl) rfl) ?_)
          rintro _ _ ⟨rfl, rfl⟩
          refine L_go rfl (X_p (p_assign rfl rfl) ?_)
          refine L_then (.cons (k := 8) rfl (.cons (k := 9) rfl .nil)) ?_
          refine V_ret (then_r ?_)
          refine Leave.nil (.cellA (us := [_, _, _, _, _, _, _, _, _, _, _, _, _]) rfl ag35 sz35 (by repeat first | exact mH | apply mT) rfl (.tmp rfl .nil)) ?_
          obtain ⟨ha, h7⟩ := asked_ne g1' c3
          rw [aloneP_3 (asked_ok g1' rfl) c1 ha, h7]; rfl
        · intro c3; try simp only [td] at c3
          obtain ⟨hG, hn⟩ := asked_zero c3
          have hu := hn u (.head _)
          have hw := aloneP_ref hG (asked_ok g1' rfl) c1 (asked_any0 c3)
          refine V_skip (then_n ?_)
          refine V_mid (γ := Nat) (.cons (k := 8) rfl .nil) (fun x9 => [(11, .pointer (some ⟨x9, 0, none⟩)), (12, .bool (boxT t (byT t now (wantR (-1) (tr))) u).isSome)]) (fun x9 => [(x9, .cells (Box.cells ((boxT t (byT t now (wantR (-1) (tr))) u).getD boxZ)).toArray 35), (b2, .cells (Box.cells boxZ).toArray 35), (b1, t.obj (.slice ta t.trackers.length tc) (.slice pa t.plots.length pc) 25)]) (fun x9 => True) ?_ ?_
          · refine V_draw (.rd 0 (.rd 1 (.rd 2 (.rd 3 (.rd 5 (.wr2 4 [5, 0] (.wr2 6 [3, 2, 1] (.rd 7 (.rd 8 (.rd 9 (.wr 10 [9, 8, 7, 5, 3, 2, 1, 0] (.wr 11 [9] (.rd 12 .done)))))) 10 [5, 3, 2, 1, 0] (.wr 6 [3, 2, 1] (.rd 7 (.rd 8 (.rd 9 (.wr 11 [9] (.rd 12 .done))))))) 10 [5, 3, 2, 1, 0] (.wr 4 [5, 0] (.wr 6 [3, 2, 1] (.rd 7 (.rd 8 (.rd 9 (.wr 11 [9] (.rd 12 .done))))))))))))) mixed (by kernel_rfl) rfl ?_
            refine D_rd rfl (.plain rfl) (r_loadA (vs := [_, _, _, _, _]) ag25 sz25 rfl rfl (by repeat first | exact mH | apply mT) rfl) ?_
            refine D_rd rfl (.plain rfl) (r_loadA (vs := [_, _, _, _, _]) ag25 sz25 rfl rfl (by repeat first | exact mH | apply mT) rfl) ?_
            refine D_p rfl (.plain rfl) (p_move rfl rfl) ?_
            refine D_p rfl (.plain rfl) (p_move rfl rfl) ?_
            refine D_p rfl (.plain rfl) (p_move rfl rfl) ?_
            refine D_wr2 rfl ?_ ?_
            · refine (.go (E' := [(0, _)]) rfl (.plain rfl) (w_callG (pre := [_, _]) rfl rfl rfl rfl (fun w hg => rby_c t _ w (hT.good hg) hG (-1) (tr) now)) rfl ?_)
              rintro _ _ ⟨_, Gb, rfl, hfrb, svb, rfl, rfl, hgrb⟩
              try dsimp only at hgrb
              try simp only [List.cons_append, List.nil_append, List.append_nil]
              refine ⟨(.cons rfl (.plain rfl) (r_loadA (vs := [_, _, _, _, _]) ag25 sz25 rfl rfl (by repeat first | exact mH | apply mT) rfl) .nil), ?_⟩
              refine D_wr2 rfl ?_ ?_
              · refine (.go (E' := []) rfl (.plain rfl) (w_callP rfl rfl rfl (fun w hg => rbox_c t _ (byT t now (wantR (-1) (tr))) _ w (hT.good hg) (Grow.slice hgrb (fun p hp => hg.own p (by repeat first | exact hp | exact List.mem_append_left _ hp | apply List.mem_append_right | apply mT))) hG byT_bnd (Nat.le_trans byT_len hG.h2) u hu)) rfl ?_)
                rintro _ _ ⟨rfl, rfl⟩
                refine ⟨.nil, ?_⟩
                refine D_p rfl (.plain rfl) (p_move rfl rfl) ?_
                refine D_p rfl (.plain rfl) (p_ext rfl rfl rfl) ?_
                refine D_p rfl (.plain rfl) (p_ext rfl rfl rfl) ?_
                refine D_wr (.go (E' := []) rfl (.plain rfl) (w_alloc zr35 rfl) rfl ?_)
                rintro _ _ ⟨b4, hb4, rfl, rfl⟩
                refine ⟨.nil, ?_⟩
                refine D_wr (.go (E' := []) rfl (.plain rfl) (w_store (cs' := [_, _, _, _, _, _, _, _, _, _, _, _, _]) sz35 rfl rfl rfl rfl rfl (by repeat first | exact .head | apply SetAt.tail) (Nat.le_of_ble_eq_true rfl) rfl) rfl ?_)
                rintro _ _ ⟨rfl, rfl⟩
                refine ⟨.nil, ?_⟩
                refine D_p rfl (.plain rfl) (p_assign rfl rfl) ?_
                refine D_then (.cons (k := 8) rfl (.cons (k := 11) rfl (.cons (k := 12) rfl .nil))) ?_
                refine ⟨b4, trivial, (.cons rfl (.cons rfl (.cons rfl (.nil _)))), (by (try dsimp only); repeat (first | exact HSub.nil _ | refine HSub.take (by repeat first | exact Take.head | apply Take.tail) ?_ | exact HSub.refl _ | refine HSub.drop ?_ | refine HSub.app ?_)), rfl⟩
              · refine (.go (E' := [(0, _)]) rfl (.plain rfl) (w_alloc zr35 rfl) rfl ?_)
                rintro _ _ ⟨b4, hb4, rfl, rfl⟩
                refine ⟨(.cons rfl (.plain rfl) (r_loadA (vs := [_, _, _, _, _]) ag25 sz25 rfl rfl (by repeat first | exact mH | apply mT) rfl) .nil), ?_⟩
                refine D_wr (.go (E' := []) rfl (.plain rfl) (w_callP rfl rfl rfl (fun w hg => rbox_c t _ (byT t now (wantR (-1) (tr))) _ w (hT.good hg) (Grow.slice hgrb (fun p hp => hg.own p (by repeat first | exact hp | exact List.mem_append_left _ hp | apply List.mem_append_right | apply mT))) hG byT_bnd (Nat.le_trans byT_len hG.h2) u hu)) rfl ?_)
                rintro _ _ ⟨rfl, rfl⟩
                refine ⟨.nil, ?_⟩
                refine D_p rfl (.plain rfl) (p_move rfl rfl) ?_
                refine D_p rfl (.plain rfl) (p_ext rfl rfl rfl) ?_
                refine D_p rfl (.plain rfl) (p_ext rfl rfl rfl) ?_
                refine D_wr (.go (E' := []) rfl (.plain rfl) (w_store (cs' := [_, _, _, _, _, _, _, _, _, _, _, _, _]) sz35 rfl rfl rfl rfl rfl (by repeat first | exact .head | apply SetAt.tail) (Nat.le_of_ble_eq_true rfl) rfl) rfl ?_)
                rintro _ _ ⟨rfl, rfl⟩
                refine ⟨.nil, ?_⟩
                refine D_p rfl (.plain rfl) (p_assign rfl rfl) ?_
                refine D_then (.cons (k := 8) rfl (.cons (k := 11) rfl (.cons (k := 12) rfl .nil))) ?_
                refine ⟨b4, trivial, (.cons rfl (.cons rfl (.cons rfl (.nil _)))), (by (try dsimp only); repeat (first | exact HSub.nil _ | refine HSub.take (by repeat first | exact Take.head | apply Take.tail) ?_ | exact HSub.refl _ | refine HSub.drop ?_ | refine HSub.app ?_)), rfl⟩
            · refine (.go (E' := [(1, _), (0, _)]) rfl (.plain rfl) (w_alloc zr35 rfl) rfl ?_)
              rintro _ _ ⟨b3, hb3, rfl, rfl⟩
              refine ⟨(.cons rfl (.plain rfl) (r_loadA (vs := [_, _, _, _, _]) ag25 sz25 rfl rfl (by repeat first | exact mH | apply mT) rfl) (.cons rfl (.plain rfl) (r_loadA (vs := [_, _, _, _, _]) ag25 sz25 rfl rfl (by repeat first | exact mH | apply mT) rfl) .nil)), ?_⟩
              refine D_wr (.go (E' := [(0, _)]) rfl (.plain rfl) (w_callG (pre := [_, _, _]) rfl rfl rfl rfl (fun w hg => rby_c t _ w (hT.good hg) hG (-1) (tr) now)) rfl ?_)
              rintro _ _ ⟨_, Gb, rfl, hfrb, svb, rfl, rfl, hgrb⟩
              try dsimp only at hgrb
              try simp only [List.cons_append, List.nil_append, List.append_nil]
              refine ⟨(.cons rfl (.plain rfl) (r_loadA (vs := [_, _, _, _, _]) ag25 sz25 rfl rfl (by repeat first | exact mH | apply mT) rfl) .nil), ?_⟩
              refine D_wr (.go (E' := []) rfl (.plain rfl) (w_callP rfl rfl rfl (fun w hg => rbox_c t _ (byT t now (wantR (-1) (tr))) _ w (hT.good hg) (Grow.slice hgrb (fun p hp => hg.own p (by repeat first | exact hp | exact List.mem_append_left _ hp | apply List.mem_append_right | apply mT))) hG byT_bnd (Nat.le_trans byT_len hG.h2) u hu)) rfl ?_)
              rintro _ _ ⟨rfl, rfl⟩
              refine ⟨.nil, ?_⟩
              refine D_p rfl (.plain rfl) (p_move rfl rfl) ?_
              refine D_p rfl (.plain rfl) (p_ext rfl rfl rfl) ?_
              refine D_p rfl (.plain rfl) (p_ext rfl rfl rfl) ?_
              refine D_wr (.go (E' := []) rfl (.plain rfl) (w_store (cs' := [_, _, _, _, _, _, _, _, _, _, _, _, _]) sz35 rfl rfl rfl rfl rfl (by repeat first | exact .head | apply SetAt.tail) (Nat.le_of_ble_eq_true rfl) rfl) rfl ?_)
              rintro _ _ ⟨rfl, rfl⟩
              refine ⟨.nil, ?_⟩
              refine D_p rfl (.plain rfl) (p_assign rfl rfl) ?_
              refine D_then (.cons (k := 8) rfl (.cons (k := 11) rfl (.cons (k := 12) rfl .nil))) ?_
              refine ⟨b3, trivial, (.cons rfl (.cons rfl (.cons rfl (.nil _)))), (by (try dsimp only); repeat (first | exact HSub.nil _ | refine HSub.take (by repeat first | exact Take.head | apply Take.tail) ?_ | exact HSub.refl _ | refine HSub.drop ?_ | refine HSub.app ?_)), rfl⟩
          · rintro x9 _
            refine V_seq ?_
            refine V_seq (V_region rfl ?_)
            refine L_go rfl (X_p (p_move rfl rfl) ?_)
            refine L_go rfl (X_p (p_not rfl rfl) ?_)
            refine L_then (.cons (k := 8) rfl (.cons (k := 11) rfl (.cons (k := 47) rfl .nil))) ?_
            refine V_cond rfl ?_ ?_
            · intro c4; try simp only [td] at c4
              refine V_seq (V_region rfl ?_)
              refine L_go rfl (X_p (p_build (r := [_, _, _, _, _, _, _, _, _, _, _, _, _]) pl35 zr35 rfl rfl rfl) ?_)
              refine L_go rfl (X_wr (w_store (cs' := [_, _, _, _, _, _, _, _, _, _, _, _, _]) sz35 rfl rfl rfl rfl rfl (by repeat first | exact .head | apply SetAt.tail) (Nat.le_of_ble_eq_true rfl) rfl) ?_)
              rintro _ _ ⟨rfl, rfl⟩
              refine L_go rfl (X_p (p_assign rfl rfl) ?_)
              refine L_then (.cons (k := 8) rfl (.cons (k := 9) rfl .nil)) ?_
              refine V_ret (then_r ?_)
              refine Leave.nil (.cellA (us := [_, _, _, _, _, _, _, _, _, _, _, _, _]) rfl ag35 sz35 (by repeat first | exact mH | apply mT) rfl (.tmp rfl .nil)) ?_
              rw [hw, isSome_none c4]; rfl
            · intro c4; try simp only [td] at c4
              refine V_skip (then_n ?_)
              refine V_seq (V_region rfl ?_)
              refine L_go rfl (X_rd (r_loadA (vs := [_, _, _, _, _, _, _, _, _, _, _, _, _]) ag35 sz35 rfl rfl (by repeat first | exact mH | apply mT) rfl) ?_)
              refine L_go rfl (X_wr (w_store (cs' := [_, _, _, _, _, _, _, _, _, _, _, _, _]) sz35 rfl rfl rfl rfl rfl (by repeat first | exact .head | apply SetAt.tail) (Nat.le_of_ble_eq_true rfl) rfl) ?_)
              rintro _ _ ⟨rfl, rfl⟩
              refine L_go rfl (X_p (p_assign rfl rfl) ?_)
              refine L_then (.cons (k := 8) rfl (.cons (k := 9) rfl .nil)) ?_
              refine V_ret ?_
              refine Leave.nil (.cellA (us := [_, _, _, _, _, _, _, _, _, _, _, _, _]) rfl ag35 sz35 (by repeat first | exact mH | apply mT) rfl (.tmp rfl .nil)) ?_
              rw [hw, isSome_get c4]; rfl
      · intro c2; try simp only [td] at c2
        exfalso; omega
  · intro g1; have g1' := g1; try simp only [td] at g1'
    refine L_no rfl rfl rfl g1 ?_
    refine L_no rfl rfl rfl g1 ?_
    refine L_no rfl rfl rfl g1 ?_
    refine L_no rfl rfl rfl g1 ?_
    refine L_no rfl rfl rfl g1 ?_
    refine L_no rfl rfl rfl g1 ?_
    refine L_no rfl rfl rfl g1 ?_
    refine L_go rfl (X_p (p_pick_f rfl rfl g1 rfl) ?_)
    refine L_then (.cons (k := 1) rfl (.cons (k := 2) rfl (.cons (k := 3) rfl (.cons (k := 4) rfl (.cons (k := 8) rfl (.cons (k := 10) rfl (.cons (k := 25) rfl .nil))))))) ?_
    refine V_cond_f rfl rfl ?_
    refine V_skip (then_n ?_)
    refine V_seq ?_
    refine V_seq (V_region rfl ?_)
    refine L_go rfl (X_p (p_move rfl rfl) ?_)
    refine L_go rfl (X_p (p_eql rfl rfl rfl) ?_)
    refine L_then (.cons (k := 1) rfl (.cons (k := 2) rfl (.cons (k := 3) rfl (.cons (k := 4) rfl (.cons (k := 8) rfl (.cons (k := 10) rfl (.cons (k := 27) rfl .nil))))))) ?_
    refine V_cond rfl ?_ ?_
    · intro c5; try simp only [td] at c5
      exfalso; omega
    · intro c5; try simp only [td] at c5
      refine V_skip (then_n ?_)
      refine V_seq ?_
      refine V_seq (V_region rfl ?_)
      refine L_go rfl (X_p (p_move rfl rfl) ?_)
      refine L_go rfl (X_p (p_neq rfl rfl rfl) ?_)
      refine L_then (.cons (k := 1) rfl (.cons (k := 2) rfl (.cons (k := 3) rfl (.cons (k := 4) rfl (.cons (k := 8) rfl (.cons (k := 10) rfl (.cons (k := 33) rfl .nil))))))) ?_
      refine V_cond rfl ?_ ?_
      · intro c6; try simp only [td] at c6
        refine V_seq (V_region rfl ?_)
        refine L_go rfl (X_p (p_build (r := [_, _, _, _, _, _, _, _, _, _, _, _, _]) pl35 zr35 rfl rfl rfl) ?_)
        refine L_go rfl (X_p (p_move rfl rfl) ?_)
        refine L_go rfl (X_wr (w_store (cs' := [_, _, _, _, _, _, _, _, _, _, _, _, _]) sz35 rfl rfl rfl rfl rfl (by repeat first | exact .head | apply SetAt.tail) (Nat.le_of_ble_eq_true rfl) rfl) ?_)
        rintro _ _ ⟨rfl, rfl⟩
        refine L_go rfl (X_p (p_assign rfl rfl) ?_)
        refine L_then (.cons (k := 8) rfl (.cons (k := 9) rfl .nil)) ?_
        refine V_ret (then_r ?_)
        refine Leave.nil (.cellA (us := [_, _, _, _, _, _, _, _, _, _, _, _, _]) rfl ag35 sz35 (by repeat first | exact mH | apply mT) rfl (.tmp rfl .nil)) ?_
        rw [aloneP_1 (by rw [asked_bad g1']; exact g1'), asked_bad g1']; rfl
      · intro c6; try simp only [td] at c6
        exfalso; omega

end Go.Proofs.Ytclbbchehjapjaa
