/- Ytclbbchehjapjaa: the reference's Gaps, and lists of gaps compared. -/
import Derived.Test.YtclbbchehjapjaaT18
import Derived.Test.YtclbbchehjapjaaT19
set_option linter.all false
namespace Go.Proofs.Ytclbbchehjapjaa
open Go.Vc Go.Tk
set_option maxRecDepth 100000
set_option maxHeartbeats 8000000 in
theorem rgaps_c (t : Task) (v : Value) (w : World) (ht : TaskR w v t) (frm til now wd : Int) : FnC Try.prog 44 [v, .int .i64 frm, .int .i64 til, .int .i64 now, .int .i64 wd] w fun v w' => ∃ Hc, Vc.Good w [] Hc w' ∧ ∃ A G, Hc = A ++ G ∧ GapsOut 126 (gapsL t frm til now wd) (fun sv => .tuple #[sv, .int .i64 (gapsE t frm til now wd)]) v A G := by
  have hT := ht
  obtain ⟨tv, pv, rfl, htr, hpl⟩ := ht.ex
  obtain ⟨ta, tc, rfl, htc, hte⟩ := htr.ex
  obtain ⟨pa, pc, rfl, hpc, hpe⟩ := hpl.ex
  have hltr := hT.ltr
  have hlpl := hT.lpl
  simp only [List.length_map] at hT htc hpc ⊢
  refine fn_new Try.func44 rfl (by kernel_rfl) Try.ntmps44 Try.results44 rfl ?_
  refine V_seq (V_region rfl ?_)
  refine L_go rfl (X_wr (w_box rfl rfl) ?_)
  rintro _ _ ⟨b1, hb1, rfl, rfl⟩
  refine L_go rfl (X_p (p_assign rfl rfl) ?_)
  refine L_go rfl (X_p (p_assign rfl rfl) ?_)
  refine L_then (.cons (k := 1) rfl (.cons (k := 2) rfl (.cons (k := 3) rfl (.cons (k := 4) rfl (.cons (k := 5) rfl .nil))))) ?_
  refine V_seq (V_region rfl ?_)
  refine L_go rfl (X_rd (r_loadA (vs := [_, _, _, _, _]) ag25 sz25 rfl rfl (by repeat first | exact mH | apply mT) rfl) ?_)
  refine L_go rfl (X_p (p_move rfl rfl) ?_)
  refine L_go rfl (X_p (p_move rfl rfl) ?_)
  refine L_go rfl (X_wr (w_callP rfl rfl rfl (fun w hg => rasked_c t _ w (hT.good hg) _ _)) ?_)
  rintro _ _ ⟨rfl, rfl⟩
  refine L_go rfl (X_p (p_assign rfl rfl) ?_)
  refine L_then (.cons (k := 1) rfl (.cons (k := 2) rfl (.cons (k := 3) rfl (.cons (k := 4) rfl (.cons (k := 5) rfl (.cons (k := 12) rfl .nil)))))) ?_
  refine V_seq ?_
  refine V_seq (V_region rfl ?_)
  refine L_go rfl (X_p (p_move rfl rfl) ?_)
  refine L_go rfl (X_p (p_eql rfl rfl rfl) ?_)
  refine L_go rfl (X_p (p_move rfl rfl) ?_)
  refine L_cases (d := 23) rfl ?_ ?_
  · intro g1; have g1' := g1; try simp only [td] at g1'
    refine L_yes rfl rfl rfl g1 (X_p (p_move rfl rfl) ?_)
    refine L_yes rfl rfl rfl g1 (X_wr (w_callP rfl rfl rfl (fun w hg => rtick_c _ w)) ?_)
    rintro _ _ ⟨rfl, rfl⟩
    refine L_yes rfl rfl rfl g1 (X_p (p_not rfl rfl) ?_)
    refine L_yes rfl rfl rfl g1 (X_p (p_move rfl rfl) ?_)
    refine L_cases (d := 27) rfl ?_ ?_
    · intro g2; have g2' := g2; try simp only [td] at g2'
      refine L_no rfl rfl rfl g2 ?_
      refine L_no rfl rfl rfl g2 ?_
      refine L_no rfl rfl rfl g2 ?_
      refine L_yes rfl rfl rfl g1 (X_p (p_pick_t rfl rfl g2 rfl) ?_)
      refine L_yes rfl rfl rfl g1 (X_p (p_move rfl rfl) ?_)
      refine L_no rfl rfl rfl rfl ?_
      refine L_no rfl rfl rfl rfl ?_
      refine L_yes rfl rfl rfl g1 (X_p (p_pick_t rfl rfl rfl rfl) ?_)
      refine L_go rfl (X_p (p_pick_t rfl rfl g1 rfl) ?_)
      refine L_then (.cons (k := 1) rfl (.cons (k := 2) rfl (.cons (k := 3) rfl (.cons (k := 4) rfl (.cons (k := 5) rfl (.cons (k := 12) rfl (.cons (k := 36) rfl .nil))))))) ?_
      refine V_cond_t rfl rfl ?_
      refine V_region rfl ?_
      refine L_go rfl (X_p (p_assign rfl rfl) ?_)
      refine L_then (.cons (k := 1) rfl (.cons (k := 2) rfl (.cons (k := 3) rfl (.cons (k := 4) rfl (.cons (k := 5) rfl (.cons (k := 12) rfl .nil)))))) ?_
      refine V_seq ?_
      refine V_seq (V_region rfl ?_)
      refine L_go rfl (X_p (p_move rfl rfl) ?_)
      refine L_go rfl (X_p (p_eql rfl rfl rfl) ?_)
      refine L_go rfl (X_p (p_move rfl rfl) ?_)
      refine L_no rfl rfl rfl rfl ?_
      refine L_no rfl rfl rfl rfl ?_
      refine L_no rfl rfl rfl rfl ?_
      refine L_no rfl rfl rfl rfl ?_
      refine L_go rfl (X_p (p_pick_f rfl rfl rfl rfl) ?_)
      refine L_then (.cons (k := 1) rfl (.cons (k := 2) rfl (.cons (k := 3) rfl (.cons (k := 4) rfl (.cons (k := 5) rfl (.cons (k := 12) rfl (.cons (k := 44) rfl .nil))))))) ?_
      refine V_cond_f rfl rfl ?_
      refine V_skip (then_n ?_)
      refine V_seq ?_
      refine V_seq (V_region rfl ?_)
      refine L_go rfl (X_p (p_move rfl rfl) ?_)
      refine L_go rfl (X_p (p_neq rfl rfl rfl) ?_)
      refine L_then (.cons (k := 1) rfl (.cons (k := 2) rfl (.cons (k := 3) rfl (.cons (k := 4) rfl (.cons (k := 5) rfl (.cons (k := 12) rfl (.cons (k := 46) rfl .nil))))))) ?_
      refine V_cond_t rfl rfl ?_
      refine V_seq (V_region rfl ?_)
      refine L_go rfl (X_p (p_move rfl rfl) ?_)
      refine L_go rfl (X_p (p_assign rfl rfl) ?_)
      refine L_go rfl (X_p (p_assign rfl rfl) ?_)
      refine L_then (.cons (k := 10) rfl (.cons (k := 11) rfl .nil)) ?_
      refine V_ret (then_r ?_)
      refine Leave.nil (.tmp rfl (.tmp rfl .nil)) ?_
      refine ⟨[], HSub.nil _, [], [], rfl, .slice none 0 0, rfl, ?_, ?_⟩
      · rw [(gapsE_1 (by rw [asked3_bad g1' g2']; decide)).trans (asked3_bad g1' g2')]; rfl
      · rw [gapsL_bad (by rw [(gapsE_1 (by rw [asked3_bad g1' g2']; decide)).trans (asked3_bad g1' g2')]; first | assumption | decide)]; exact .nil
    · intro g2; have g2' := g2; try simp only [td] at g2'
      refine L_yes rfl rfl rfl g2 (X_p (p_move rfl rfl) ?_)
      refine L_yes rfl rfl rfl g2 (X_p (p_move rfl rfl) ?_)
      refine L_yes rfl rfl rfl g2 (X_p (p_lss rfl rfl rfl) ?_)
      refine L_yes rfl rfl rfl g1 (X_p (p_pick_f rfl rfl g2 rfl) ?_)
      refine L_yes rfl rfl rfl g1 (X_p (p_move rfl rfl) ?_)
      refine L_cases (d := 32) rfl ?_ ?_
      · intro g3; have g3' := g3; try simp only [td] at g3'
        refine L_no rfl rfl rfl g3 ?_
        refine L_no rfl rfl rfl g3 ?_
        refine L_yes rfl rfl rfl g1 (X_p (p_pick_t rfl rfl g3 rfl) ?_)
        refine L_go rfl (X_p (p_pick_t rfl rfl g1 rfl) ?_)
        refine L_then (.cons (k := 1) rfl (.cons (k := 2) rfl (.cons (k := 3) rfl (.cons (k := 4) rfl (.cons (k := 5) rfl (.cons (k := 12) rfl (.cons (k := 36) rfl .nil))))))) ?_
        refine V_cond_t rfl rfl ?_
        refine V_region rfl ?_
        refine L_go rfl (X_p (p_assign rfl rfl) ?_)
        refine L_then (.cons (k := 1) rfl (.cons (k := 2) rfl (.cons (k := 3) rfl (.cons (k := 4) rfl (.cons (k := 5) rfl (.cons (k := 12) rfl .nil)))))) ?_
        refine V_seq ?_
        refine V_seq (V_region rfl ?_)
        refine L_go rfl (X_p (p_move rfl rfl) ?_)
        refine L_go rfl (X_p (p_eql rfl rfl rfl) ?_)
        refine L_go rfl (X_p (p_move rfl rfl) ?_)
        refine L_no rfl rfl rfl rfl ?_
        refine L_no rfl rfl rfl rfl ?_
        refine L_no rfl rfl rfl rfl ?_
        refine L_no rfl rfl rfl rfl ?_
        refine L_go rfl (X_p (p_pick_f rfl rfl rfl rfl) ?_)
        refine L_then (.cons (k := 1) rfl (.cons (k := 2) rfl (.cons (k := 3) rfl (.cons (k := 4) rfl (.cons (k := 5) rfl (.cons (k := 12) rfl (.cons (k := 44) rfl .nil))))))) ?_
        refine V_cond_f rfl rfl ?_
        refine V_skip (then_n ?_)
        refine V_seq ?_
        refine V_seq (V_region rfl ?_)
        refine L_go rfl (X_p (p_move rfl rfl) ?_)
        refine L_go rfl (X_p (p_neq rfl rfl rfl) ?_)
        refine L_then (.cons (k := 1) rfl (.cons (k := 2) rfl (.cons (k := 3) rfl (.cons (k := 4) rfl (.cons (k := 5) rfl (.cons (k := 12) rfl (.cons (k := 46) rfl .nil))))))) ?_
        refine V_cond_t rfl rfl ?_
        refine V_seq (V_region rfl ?_)
        refine L_go rfl (X_p (p_move rfl rfl) ?_)
        refine L_go rfl (X_p (p_assign rfl rfl) ?_)
        refine L_go rfl (X_p (p_assign rfl rfl) ?_)
        refine L_then (.cons (k := 10) rfl (.cons (k := 11) rfl .nil)) ?_
        refine V_ret (then_r ?_)
        refine Leave.nil (.tmp rfl (.tmp rfl .nil)) ?_
        refine ⟨[], HSub.nil _, [], [], rfl, .slice none 0 0, rfl, ?_, ?_⟩
        · rw [gapsE_2 (asked3_ok g1' g2') (.inl g3')]; rfl
        · rw [gapsL_bad (by rw [gapsE_2 (asked3_ok g1' g2') (.inl g3')]; first | assumption | decide)]; exact .nil
      · intro g3; have g3' := g3; try simp only [td] at g3'
        refine L_yes rfl rfl rfl g3 (X_p (p_move rfl rfl) ?_)
        refine L_yes rfl rfl rfl g3 (X_p (p_lss rfl rfl rfl) ?_)
        refine L_yes rfl rfl rfl g1 (X_p (p_pick_f rfl rfl g3 rfl) ?_)
        refine L_go rfl (X_p (p_pick_t rfl rfl g1 rfl) ?_)
        refine L_then (.cons (k := 1) rfl (.cons (k := 2) rfl (.cons (k := 3) rfl (.cons (k := 4) rfl (.cons (k := 5) rfl (.cons (k := 12) rfl (.cons (k := 36) rfl .nil))))))) ?_
        refine V_cond rfl ?_ ?_
        · intro c1; have c1r := c1; try simp only [td] at c1
          refine V_region rfl ?_
          refine L_go rfl (X_p (p_assign rfl rfl) ?_)
          refine L_then (.cons (k := 1) rfl (.cons (k := 2) rfl (.cons (k := 3) rfl (.cons (k := 4) rfl (.cons (k := 5) rfl (.cons (k := 12) rfl .nil)))))) ?_
          refine V_seq ?_
          refine V_seq (V_region rfl ?_)
          refine L_go rfl (X_p (p_move rfl rfl) ?_)
          refine L_go rfl (X_p (p_eql rfl rfl rfl) ?_)
          refine L_go rfl (X_p (p_move rfl rfl) ?_)
          refine L_no rfl rfl rfl rfl ?_
          refine L_no rfl rfl rfl rfl ?_
          refine L_no rfl rfl rfl rfl ?_
          refine L_no rfl rfl rfl rfl ?_
          refine L_go rfl (X_p (p_pick_f rfl rfl rfl rfl) ?_)
          refine L_then (.cons (k := 1) rfl (.cons (k := 2) rfl (.cons (k := 3) rfl (.cons (k := 4) rfl (.cons (k := 5) rfl (.cons (k := 12) rfl (.cons (k := 44) rfl .nil))))))) ?_
          refine V_cond_f rfl rfl ?_
          refine V_skip (then_n ?_)
          refine V_seq ?_
          refine V_seq (V_region rfl ?_)
          refine L_go rfl (X_p (p_move rfl rfl) ?_)
          refine L_go rfl (X_p (p_neq rfl rfl rfl) ?_)
          refine L_then (.cons (k := 1) rfl (.cons (k := 2) rfl (.cons (k := 3) rfl (.cons (k := 4) rfl (.cons (k := 5) rfl (.cons (k := 12) rfl (.cons (k := 46) rfl .nil))))))) ?_
          refine V_cond_t rfl rfl ?_
          refine V_seq (V_region rfl ?_)
          refine L_go rfl (X_p (p_move rfl rfl) ?_)
          refine L_go rfl (X_p (p_assign rfl rfl) ?_)
          refine L_go rfl (X_p (p_assign rfl rfl) ?_)
          refine L_then (.cons (k := 10) rfl (.cons (k := 11) rfl .nil)) ?_
          refine V_ret (then_r ?_)
          refine Leave.nil (.tmp rfl (.tmp rfl .nil)) ?_
          refine ⟨[], HSub.nil _, [], [], rfl, .slice none 0 0, rfl, ?_, ?_⟩
          · rw [gapsE_2 (asked3_ok g1' g2') (.inr c1)]; rfl
          · rw [gapsL_bad (by rw [gapsE_2 (asked3_ok g1' g2') (.inr c1)]; first | assumption | decide)]; exact .nil
        · intro c1; have c1r := c1; try simp only [td] at c1
          obtain ⟨hG, hz⟩ := asked_zero g1'
          have bz1 := hz frm (.head _)
          have bz2 := oP_in g2'
          refine V_skip (then_n ?_)
          refine V_seq ?_
          refine V_seq (V_region rfl ?_)
          refine L_go rfl (X_p (p_move rfl rfl) ?_)
          refine L_go rfl (X_p (p_eql rfl rfl rfl) ?_)
          refine L_go rfl (X_p (p_move rfl rfl) ?_)
          refine L_cases (d := 39) rfl ?_ ?_
          · intro g4; have g4' := g4; try simp only [td] at g4'
            refine L_yes rfl rfl rfl g4 (X_p (p_move rfl rfl) ?_)
            refine L_yes rfl rfl rfl g4 (X_p (p_move rfl rfl) ?_)
            first | refine L_yes rfl rfl rfl g4 (X_p (p_sub' rfl rfl rfl (by unfold InI; omega)) ?_) | refine L_yes rfl rfl rfl g4 (X_p (p_sub rfl rfl rfl) ?_)
            refine L_yes rfl rfl rfl g4 (X_p (p_gtr rfl rfl rfl) ?_)
            refine L_go rfl (X_p (p_pick_t rfl rfl g4 rfl) ?_)
            refine L_then (.cons (k := 1) rfl (.cons (k := 2) rfl (.cons (k := 3) rfl (.cons (k := 4) rfl (.cons (k := 5) rfl (.cons (k := 12) rfl (.cons (k := 44) rfl .nil))))))) ?_
            refine V_cond rfl ?_ ?_
            · intro c2; have c2r := c2; try simp only [td] at c2
              refine V_region rfl ?_
              refine L_go rfl (X_p (p_assign rfl rfl) ?_)
              refine L_then (.cons (k := 1) rfl (.cons (k := 2) rfl (.cons (k := 3) rfl (.cons (k := 4) rfl (.cons (k := 5) rfl (.cons (k := 12) rfl .nil)))))) ?_
              refine V_seq ?_
              refine V_seq (V_region rfl ?_)
              refine L_go rfl (X_p (p_move rfl rfl) ?_)
              refine L_go rfl (X_p (p_neq rfl rfl rfl) ?_)
              refine L_then (.cons (k := 1) rfl (.cons (k := 2) rfl (.cons (k := 3) rfl (.cons (k := 4) rfl (.cons (k := 5) rfl (.cons (k := 12) rfl (.cons (k := 46) rfl .nil))))))) ?_
              refine V_cond_t rfl rfl ?_
              refine V_seq (V_region rfl ?_)
              refine L_go rfl (X_p (p_move rfl rfl) ?_)
              refine L_go rfl (X_p (p_assign rfl rfl) ?_)
              refine L_go rfl (X_p (p_assign rfl rfl) ?_)
              refine L_then (.cons (k := 10) rfl (.cons (k := 11) rfl .nil)) ?_
              refine V_ret (then_r ?_)
              refine Leave.nil (.tmp rfl (.tmp rfl .nil)) ?_
              refine ⟨[], HSub.nil _, [], [], rfl, .slice none 0 0, rfl, ?_, ?_⟩
              · rw [gapsE_3 (asked3_ok g1' g2') (by omega) c2]; rfl
              · rw [gapsL_bad (by rw [gapsE_3 (asked3_ok g1' g2') (by omega) c2]; first | assumption | decide)]; exact .nil
            · intro c2; have c2r := c2; try simp only [td] at c2
              refine V_skip (then_n ?_)
              refine V_seq ?_
              refine V_seq (V_region rfl ?_)
              refine L_go rfl (X_p (p_move rfl rfl) ?_)
              refine L_go rfl (X_p (p_neq rfl rfl rfl) ?_)
              refine L_then (.cons (k := 1) rfl (.cons (k := 2) rfl (.cons (k := 3) rfl (.cons (k := 4) rfl (.cons (k := 5) rfl (.cons (k := 12) rfl (.cons (k := 46) rfl .nil))))))) ?_
              refine V_cond rfl ?_ ?_
              · intro c3; have c3r := c3; try simp only [td] at c3
                exfalso; omega
              · intro c3; have c3r := c3; try simp only [td] at c3
                have he : gapsE t frm til now wd = 0 := gapsE_4 (asked3_ok g1' g2') (by omega) (by omega)
                obtain ⟨_, hfb, htb, hnb, hft, hwd, hlen⟩ := gapsE_ok he
                have hpl60 := hG.h2
                refine V_skip (then_n ?_)
                refine V_seq (V_region rfl ?_)
                refine L_go rfl (X_p (p_assign rfl rfl) ?_)
                refine L_then (.cons (k := 1) rfl (.cons (k := 2) rfl (.cons (k := 3) rfl (.cons (k := 4) rfl (.cons (k := 5) rfl (.cons (k := 13) rfl .nil)))))) ?_
                refine V_seq ?_
                refine V_seq (V_region rfl ?_)
                refine L_go rfl (X_p (p_move rfl rfl) ?_)
                refine L_go rfl (X_p (p_assign rfl rfl) ?_)
                refine L_then (.cons (k := 2) rfl (.cons (k := 3) rfl (.cons (k := 4) rfl (.cons (k := 5) rfl (.cons (k := 13) rfl (.cons (k := 14) rfl .nil)))))) ?_
                refine V_block ?_
                refine V_loop1 (γ := Int × List (Int × Int) × Nat × Option Addr × Nat × Heap) (.cons (k := 2) rfl (.cons (k := 3) rfl (.cons (k := 4) rfl (.cons (k := 5) rfl .nil)))) (fun (u, l, n, ga, gc, G) => [(14, .int .i64 u), (13, .slice ga n gc)]) (fun (u, l, n, ga, gc, G) => (b1, t.obj (.slice ta t.trackers.length tc) (.slice pa t.plots.length pc) 25) :: G) (fun (u, l, n, ga, gc, G) => frm ≤ u ∧ u ≤ til ∧ l = gapsN t now wd frm (u - frm).toNat ∧ n = l.length ∧ Grow 126 2 (.slice ga n gc) n (gapV l) G) (fun (u, l, n, ga, gc, G) => (til - u).toNat) ((frm, [], 0, none, 0, [])) (.cons rfl (.cons rfl (.nil _))) (by repeat (first | exact List.nil_sublist _ | exact List.Sublist.refl _ | apply List.Sublist.cons_cons | apply List.Sublist.cons)) (⟨by omega, by omega, by rw [Int.sub_self]; rfl, rfl, .nil⟩) ?_
                rintro ⟨u, l, n, ga, gc, G⟩ hi
                obtain ⟨hfu, hut, hl, hn, hgr⟩ := hi
                have hln := gapsN_len (t := t) (now := now) (wd := wd) (frm := frm) (u - frm).toNat
                rw [← hl] at hln
                refine V_seq ?_
                refine V_seq (V_region rfl ?_)
                refine L_go rfl (X_p (p_move rfl rfl) ?_)
                refine L_go rfl (X_p (p_move rfl rfl) ?_)
                refine L_go rfl (X_p (p_lss rfl rfl rfl) ?_)
                refine L_then (.cons (k := 2) rfl (.cons (k := 3) rfl (.cons (k := 4) rfl (.cons (k := 5) rfl (.cons (k := 13) rfl (.cons (k := 14) rfl (.cons (k := 51) rfl .nil))))))) ?_
                refine V_cond rfl ?_ ?_
                · intro c4; have c4r := c4; try simp only [td] at c4
                  refine V_skip (then_n ?_)
                  refine V_seq ?_
                  refine V_block ?_
                  refine V_seq (V_region rfl ?_)
                  refine L_go rfl (X_rd (r_loadA (vs := [_, _, _, _, _]) ag25 sz25 rfl rfl (by repeat first | exact mH | apply mT) rfl) ?_)
                  refine L_go rfl (X_p (p_move rfl rfl) ?_)
                  refine L_go rfl (X_p (p_move rfl rfl) ?_)
                  refine L_go rfl (X_wr (w_callP rfl rfl rfl (fun w hg => rspare_c t _ w (hT.good hg) hG u now (by omega))) ?_)
                  rintro _ _ ⟨rfl, rfl⟩
                  refine L_go rfl (X_p (p_move rfl rfl) ?_)
                  refine L_go rfl (X_p (p_ext rfl rfl rfl) ?_)
                  refine L_go rfl (X_p (p_ext rfl rfl rfl) ?_)
                  refine L_go rfl (X_wr (w_alloc zr35 rfl) ?_)
                  rintro _ _ ⟨b2, hb2, rfl, rfl⟩
                  refine L_go rfl (X_wr (w_store (cs' := [_, _, _, _, _, _, _, _, _, _, _, _, _]) sz35 rfl rfl rfl rfl rfl (by repeat first | exact .head | apply SetAt.tail) (Nat.le_of_ble_eq_true rfl) rfl) ?_)
                  rintro _ _ ⟨rfl, rfl⟩
                  refine L_go rfl (X_p (p_assign rfl rfl) ?_)
                  refine L_then (.cons (k := 2) rfl (.cons (k := 3) rfl (.cons (k := 4) rfl (.cons (k := 5) rfl (.cons (k := 13) rfl (.cons (k := 14) rfl (.cons (k := 15) rfl (.cons (k := 16) rfl .nil)))))))) ?_
                  refine V_seq ?_
                  refine V_seq (V_region rfl ?_)
                  refine L_go rfl (X_p (p_move rfl rfl) ?_)
                  refine L_go rfl (X_p (p_move rfl rfl) ?_)
                  refine L_cases (d := 62) rfl ?_ ?_
                  · intro g5; have g5' := g5; try simp only [td] at g5'
                    refine L_yes rfl rfl rfl g5 (X_rd (r_loadA (vs := [_, _, _, _, _, _, _, _, _, _, _, _, _]) ag35 sz35 rfl rfl (by repeat first | exact mH | apply mT) rfl) ?_)
                    refine L_yes rfl rfl rfl g5 (X_wr (w_callP rfl rfl rfl (fun w hg => rWide_c ((spareT t u now).getD boxZ) (BoxB.big (spareT_bnd hG (by omega) (isSome_get g5))) w)) ?_)
                    rintro _ _ ⟨rfl, rfl⟩
                    refine L_yes rfl rfl rfl g5 (X_p (p_move rfl rfl) ?_)
                    refine L_yes rfl rfl rfl g5 (X_p (p_leq rfl rfl rfl) ?_)
                    refine L_go rfl (X_p (p_pick_t rfl rfl g5 rfl) ?_)
                    refine L_then (.cons (k := 2) rfl (.cons (k := 3) rfl (.cons (k := 4) rfl (.cons (k := 5) rfl (.cons (k := 13) rfl (.cons (k := 14) rfl (.cons (k := 67) rfl .nil))))))) ?_
                    refine V_cond rfl ?_ ?_
                    · intro c5; have c5r := c5; try simp only [td] at c5
                      refine V_exit (then_e (blk_e rfl (then_n ?_)))
                      refine V_region rfl ?_
                      refine L_go rfl (X_p (p_move rfl rfl) ?_)
                      first | refine L_go rfl (X_p (p_add' rfl rfl rfl (by unfold InI; omega)) ?_) | refine L_go rfl (X_p (p_add rfl rfl rfl) ?_)
                      refine L_go rfl (X_p (p_assign rfl rfl) ?_)
                      refine L_keep (.cons (k := 2) rfl (.cons (k := 3) rfl (.cons (k := 4) rfl (.cons (k := 5) rfl (.cons (k := 13) rfl (.cons (k := 14) rfl .nil)))))) (then_n ?_)
                      refine ⟨(u + 1, l, n, ga, gc, G), ?_, ?_, (.cons rfl (.cons rfl (.cons rfl (.cons rfl (.cons rfl (.cons rfl (.nil _))))))), (by repeat (first | exact List.nil_sublist _ | exact List.Sublist.refl _ | apply List.Sublist.cons_cons | apply List.Sublist.cons | apply List.sublist_append_of_sublist_right)), rfl⟩
                      · refine ⟨by omega, by omega, ?_, hn, hgr⟩
                        have hsu := gapsN_succ (t := t) (now := now) (wd := wd) hfu
                        rw [← hl] at hsu
                        have elast : ((n : Int) - 1).toNat = l.length - 1 := by omega
                        rw [hsu, step_ok (l := l) rfl g5 c5]
                      · dsimp only; omega
                    · intro c5; have c5r := c5; try simp only [td] at c5
                      refine V_skip (then_n ?_)
                      refine V_seq (V_region rfl ?_)
                      refine L_go rfl (X_p (p_move rfl rfl) ?_)
                      refine L_go rfl (X_p (p_len isl81 rfl rfl) ?_)
                      refine L_go rfl (X_p (p_gtr rfl rfl rfl) ?_)
                      refine L_go rfl (X_p (p_move rfl rfl) ?_)
                      refine L_cases (d := 71) rfl ?_ ?_
                      · intro g6; have g6' := g6; try simp only [td] at g6'
                        obtain ⟨gb, cur, rfl, rfl, hcur, hcs, hgn, hgm⟩ := Grow.form2 hgr (by omega)
                        refine L_yes rfl rfl rfl g6 (X_p (p_move rfl rfl) ?_)
                        refine L_yes rfl rfl rfl g6 (X_p (p_move rfl rfl) ?_)
                        refine L_yes rfl rfl rfl g6 (X_p (p_len isl81 rfl rfl) ?_)
                        first | refine L_yes rfl rfl rfl g6 (X_p (p_sub' rfl rfl rfl (by unfold InI; omega)) ?_) | refine L_yes rfl rfl rfl g6 (X_p (p_sub rfl rfl rfl) ?_)
                        refine L_yes rfl rfl rfl g6 (X_p (p_idxo es81 rfl rfl rfl (by omega) (by omega)) ?_)
                        refine L_yes rfl rfl rfl g6 (X_p (p_fieldo fo126_1 rfl rfl) ?_)
                        refine L_yes rfl rfl rfl g6 (X_rd (r_load ag3 rfl rfl (by repeat first | exact mH | apply mT) (v := .int .i64 (l.getD ((n : Int) - 1).toNat (0, 0)).2) (cur_at hcur (gapV_at (by omega)).1)) ?_)
                        refine L_yes rfl rfl rfl g6 (X_p (p_move rfl rfl) ?_)
                        refine L_yes rfl rfl rfl g6 (X_p (p_eql rfl rfl rfl) ?_)
                        refine L_go rfl (X_p (p_pick_t rfl rfl g6 rfl) ?_)
                        refine L_then (.cons (k := 2) rfl (.cons (k := 3) rfl (.cons (k := 4) rfl (.cons (k := 5) rfl (.cons (k := 13) rfl (.cons (k := 14) rfl (.cons (k := 81) rfl .nil))))))) ?_
                        refine V_cond rfl ?_ ?_
                        · intro c6; have c6r := c6; try simp only [td] at c6
                          refine V_region rfl ?_
                          refine L_go rfl (X_p (p_move rfl rfl) ?_)
                          refine L_go rfl (X_p (p_move rfl rfl) ?_)
                          refine L_go rfl (X_p (p_len isl81 rfl rfl) ?_)
                          first | refine L_go rfl (X_p (p_sub' rfl rfl rfl (by unfold InI; omega)) ?_) | refine L_go rfl (X_p (p_sub rfl rfl rfl) ?_)
                          refine L_go rfl (X_p (p_move rfl rfl) ?_)
                          first | refine L_go rfl (X_p (p_add' rfl rfl rfl (by unfold InI; omega)) ?_) | refine L_go rfl (X_p (p_add rfl rfl rfl) ?_)
                          refine L_go rfl (X_p (p_idxo es81 rfl rfl rfl (by omega) (by omega)) ?_)
                          refine L_go rfl (X_p (p_fieldo fo126_1 rfl rfl) ?_)
                          refine L_go rfl (X_wr (w_store (cs' := cur.toList.set (0 + ((n : Int) - 1).toNat * 2 + 1) (.int .i64 (u + 1))) sz3 rfl rfl rfl rfl rfl (by repeat first | exact .head | apply SetAt.tail) (by rw [Array.length_toList, hcs]; omega) rfl) ?_)
                          rintro _ _ ⟨rfl, rfl⟩
                          refine L_keep (.cons (k := 2) rfl (.cons (k := 3) rfl (.cons (k := 4) rfl (.cons (k := 5) rfl (.cons (k := 13) rfl (.cons (k := 14) rfl .nil)))))) (blk_n (then_n ?_))
                          refine V_region rfl ?_
                          refine L_go rfl (X_p (p_move rfl rfl) ?_)
                          first | refine L_go rfl (X_p (p_add' rfl rfl rfl (by unfold InI; omega)) ?_) | refine L_go rfl (X_p (p_add rfl rfl rfl) ?_)
                          refine L_go rfl (X_p (p_assign rfl rfl) ?_)
                          refine L_keep (.cons (k := 2) rfl (.cons (k := 3) rfl (.cons (k := 4) rfl (.cons (k := 5) rfl (.cons (k := 13) rfl (.cons (k := 14) rfl .nil)))))) (then_n ?_)
                          refine ⟨(u + 1, l.set ((n : Int) - 1).toNat ((l.getD ((n : Int) - 1).toNat (0, 0)).1, u + 1), n, some ⟨gb, 0, none⟩, gc, _), ?_, ?_, (.cons rfl (.cons rfl (.cons rfl (.cons rfl (.cons rfl (.cons rfl (.nil _))))))), (by repeat (first | exact List.nil_sublist _ | exact List.Sublist.refl _ | apply List.Sublist.cons_cons | apply List.Sublist.cons | apply List.sublist_append_of_sublist_right)), rfl⟩
                          · refine ⟨by omega, by omega, ?_, by rw [List.length_set]; exact hn, ?_⟩
                            · have hsu := gapsN_succ (t := t) (now := now) (wd := wd) hfu
                              rw [← hl] at hsu
                              have elast : ((n : Int) - 1).toNat = l.length - 1 := by omega
                              rw [hsu, step_more (l := l) (step_bad rfl (.inr (by omega))) (by omega) (by rw [← elast]; exact c6), ← elast]
                            · rw [gapV_set l _ _ (by omega)]
                              exact grow_set hgn hgm hcs hcur (by rw [gapV_len]; omega)
                          · dsimp only; omega
                        · intro c6; have c6r := c6; try simp only [td] at c6
                          refine V_region rfl ?_
                          refine L_go rfl (X_p (p_move rfl rfl) ?_)
                          refine L_go rfl (X_p (p_move rfl rfl) ?_)
                          refine L_go rfl (X_p (p_move rfl rfl) ?_)
                          first | refine L_go rfl (X_p (p_add' rfl rfl rfl (by unfold InI; omega)) ?_) | refine L_go rfl (X_p (p_add rfl rfl rfl) ?_)
                          refine L_go rfl (X_p (p_build (r := [_, _]) pl126 zr126 rfl rfl rfl) ?_)
                          refine L_go rfl (X_wr (w_slice (r := [_, _]) un81 sz126 zr126 rfl (by decide) rfl (by decide) rfl rfl) ?_)
                          rintro _ _ ⟨b3, hb3, rfl, rfl⟩
                          refine L_go rfl (X_wr (w_app (pre := [_, _, _]) (G := _) (post := []) ap81 rfl rfl rfl hgr (by rw [List.append_nil]; rfl) rfl (news_own (by repeat first | exact mH | apply mT)) (by simp [Value.oneCell']) (by omega) (by simp only [maxLen]; omega)) ?_)
                          rintro _ _ ⟨G1a, G1c, G1, rfl, rfl, hgr1⟩
                          try simp only [List.cons_append, List.nil_append, List.append_nil]
                          refine L_go rfl (X_p (p_assign rfl rfl) ?_)
                          refine L_keep (.cons (k := 2) rfl (.cons (k := 3) rfl (.cons (k := 4) rfl (.cons (k := 5) rfl (.cons (k := 13) rfl (.cons (k := 14) rfl .nil)))))) (blk_n (then_n ?_))
                          refine V_region rfl ?_
                          refine L_go rfl (X_p (p_move rfl rfl) ?_)
                          first | refine L_go rfl (X_p (p_add' rfl rfl rfl (by unfold InI; omega)) ?_) | refine L_go rfl (X_p (p_add rfl rfl rfl) ?_)
                          refine L_go rfl (X_p (p_assign rfl rfl) ?_)
                          refine L_keep (.cons (k := 2) rfl (.cons (k := 3) rfl (.cons (k := 4) rfl (.cons (k := 5) rfl (.cons (k := 13) rfl (.cons (k := 14) rfl .nil)))))) (then_n ?_)
                          refine ⟨(u + 1, l ++ [(u, u + 1)], n + 1, _, _, G1), ?_, ?_, (.cons rfl (.cons rfl (.cons rfl (.cons rfl (.cons rfl (.cons rfl (.nil _))))))), (by repeat (first | exact List.nil_sublist _ | exact List.Sublist.refl _ | apply List.Sublist.cons_cons | apply List.Sublist.cons | apply List.sublist_append_of_sublist_right)), rfl⟩
                          · refine ⟨by omega, by omega, ?_, by rw [List.length_append, hn]; rfl, ?_⟩
                            · have hsu := gapsN_succ (t := t) (now := now) (wd := wd) hfu
                              rw [← hl] at hsu
                              have elast : ((n : Int) - 1).toNat = l.length - 1 := by omega
                              rw [hsu, step_new (l := l) (step_bad rfl (.inr (by omega))) (by rintro ⟨_, h⟩; exact c6 (by rw [elast]; exact h))]
                            · rw [gapV_app]; exact hgr1
                          · dsimp only; omega
                      · intro g6; have g6' := g6; try simp only [td] at g6'
                        refine L_no rfl rfl rfl g6 ?_
                        refine L_no rfl rfl rfl g6 ?_
                        refine L_no rfl rfl rfl g6 ?_
                        refine L_no rfl rfl rfl g6 ?_
                        refine L_no rfl rfl rfl g6 ?_
                        refine L_no rfl rfl rfl g6 ?_
                        refine L_no rfl rfl rfl g6 ?_
                        refine L_no rfl rfl rfl g6 ?_
                        refine L_no rfl rfl rfl g6 ?_
                        refine L_go rfl (X_p (p_pick_f rfl rfl g6 rfl) ?_)
                        refine L_then (.cons (k := 2) rfl (.cons (k := 3) rfl (.cons (k := 4) rfl (.cons (k := 5) rfl (.cons (k := 13) rfl (.cons (k := 14) rfl (.cons (k := 81) rfl .nil))))))) ?_
                        refine V_cond_f rfl rfl ?_
                        refine V_region rfl ?_
                        refine L_go rfl (X_p (p_move rfl rfl) ?_)
                        refine L_go rfl (X_p (p_move rfl rfl) ?_)
                        refine L_go rfl (X_p (p_move rfl rfl) ?_)
                        first | refine L_go rfl (X_p (p_add' rfl rfl rfl (by unfold InI; omega)) ?_) | refine L_go rfl (X_p (p_add rfl rfl rfl) ?_)
                        refine L_go rfl (X_p (p_build (r := [_, _]) pl126 zr126 rfl rfl rfl) ?_)
                        refine L_go rfl (X_wr (w_slice (r := [_, _]) un81 sz126 zr126 rfl (by decide) rfl (by decide) rfl rfl) ?_)
                        rintro _ _ ⟨b3, hb3, rfl, rfl⟩
                        refine L_go rfl (X_wr (w_app (pre := [_, _, _]) (G := _) (post := []) ap81 rfl rfl rfl hgr (by rw [List.append_nil]; rfl) rfl (news_own (by repeat first | exact mH | apply mT)) (by simp [Value.oneCell']) (by omega) (by simp only [maxLen]; omega)) ?_)
                        rintro _ _ ⟨G1a, G1c, G1, rfl, rfl, hgr1⟩
                        try simp only [List.cons_append, List.nil_append, List.append_nil]
                        refine L_go rfl (X_p (p_assign rfl rfl) ?_)
                        refine L_keep (.cons (k := 2) rfl (.cons (k := 3) rfl (.cons (k := 4) rfl (.cons (k := 5) rfl (.cons (k := 13) rfl (.cons (k := 14) rfl .nil)))))) (blk_n (then_n ?_))
                        refine V_region rfl ?_
                        refine L_go rfl (X_p (p_move rfl rfl) ?_)
                        first | refine L_go rfl (X_p (p_add' rfl rfl rfl (by unfold InI; omega)) ?_) | refine L_go rfl (X_p (p_add rfl rfl rfl) ?_)
                        refine L_go rfl (X_p (p_assign rfl rfl) ?_)
                        refine L_keep (.cons (k := 2) rfl (.cons (k := 3) rfl (.cons (k := 4) rfl (.cons (k := 5) rfl (.cons (k := 13) rfl (.cons (k := 14) rfl .nil)))))) (then_n ?_)
                        refine ⟨(u + 1, l ++ [(u, u + 1)], n + 1, _, _, G1), ?_, ?_, (.cons rfl (.cons rfl (.cons rfl (.cons rfl (.cons rfl (.cons rfl (.nil _))))))), (by repeat (first | exact List.nil_sublist _ | exact List.Sublist.refl _ | apply List.Sublist.cons_cons | apply List.Sublist.cons | apply List.sublist_append_of_sublist_right)), rfl⟩
                        · refine ⟨by omega, by omega, ?_, by rw [List.length_append, hn]; rfl, ?_⟩
                          · have hsu := gapsN_succ (t := t) (now := now) (wd := wd) hfu
                            rw [← hl] at hsu
                            have elast : ((n : Int) - 1).toNat = l.length - 1 := by omega
                            rw [hsu, step_new (l := l) (step_bad rfl (.inr (by omega))) (by rintro ⟨h, _⟩; omega)]
                          · rw [gapV_app]; exact hgr1
                        · dsimp only; omega
                  · intro g5; have g5' := g5; try simp only [td] at g5'
                    refine L_no rfl rfl rfl g5 ?_
                    refine L_no rfl rfl rfl g5 ?_
                    refine L_no rfl rfl rfl g5 ?_
                    refine L_no rfl rfl rfl g5 ?_
                    refine L_go rfl (X_p (p_pick_f rfl rfl g5 rfl) ?_)
                    refine L_then (.cons (k := 2) rfl (.cons (k := 3) rfl (.cons (k := 4) rfl (.cons (k := 5) rfl (.cons (k := 13) rfl (.cons (k := 14) rfl (.cons (k := 67) rfl .nil))))))) ?_
                    refine V_cond_f rfl rfl ?_
                    refine V_skip (then_n ?_)
                    refine V_seq (V_region rfl ?_)
                    refine L_go rfl (X_p (p_move rfl rfl) ?_)
                    refine L_go rfl (X_p (p_len isl81 rfl rfl) ?_)
                    refine L_go rfl (X_p (p_gtr rfl rfl rfl) ?_)
                    refine L_go rfl (X_p (p_move rfl rfl) ?_)
                    refine L_cases (d := 71) rfl ?_ ?_
                    · intro g7; have g7' := g7; try simp only [td] at g7'
                      obtain ⟨gb, cur, rfl, rfl, hcur, hcs, hgn, hgm⟩ := Grow.form2 hgr (by omega)
                      refine L_yes rfl rfl rfl g7 (X_p (p_move rfl rfl) ?_)
                      refine L_yes rfl rfl rfl g7 (X_p (p_move rfl rfl) ?_)
                      refine L_yes rfl rfl rfl g7 (X_p (p_len isl81 rfl rfl) ?_)
                      first | refine L_yes rfl rfl rfl g7 (X_p (p_sub' rfl rfl rfl (by unfold InI; omega)) ?_) | refine L_yes rfl rfl rfl g7 (X_p (p_sub rfl rfl rfl) ?_)
                      refine L_yes rfl rfl rfl g7 (X_p (p_idxo es81 rfl rfl rfl (by omega) (by omega)) ?_)
                      refine L_yes rfl rfl rfl g7 (X_p (p_fieldo fo126_1 rfl rfl) ?_)
                      refine L_yes rfl rfl rfl g7 (X_rd (r_load ag3 rfl rfl (by repeat first | exact mH | apply mT) (v := .int .i64 (l.getD ((n : Int) - 1).toNat (0, 0)).2) (cur_at hcur (gapV_at (by omega)).1)) ?_)
                      refine L_yes rfl rfl rfl g7 (X_p (p_move rfl rfl) ?_)
                      refine L_yes rfl rfl rfl g7 (X_p (p_eql rfl rfl rfl) ?_)
                      refine L_go rfl (X_p (p_pick_t rfl rfl g7 rfl) ?_)
                      refine L_then (.cons (k := 2) rfl (.cons (k := 3) rfl (.cons (k := 4) rfl (.cons (k := 5) rfl (.cons (k := 13) rfl (.cons (k := 14) rfl (.cons (k := 81) rfl .nil))))))) ?_
                      refine V_cond rfl ?_ ?_
                      · intro c7; have c7r := c7; try simp only [td] at c7
                        refine V_region rfl ?_
                        refine L_go rfl (X_p (p_move rfl rfl) ?_)
                        refine L_go rfl (X_p (p_move rfl rfl) ?_)
                        refine L_go rfl (X_p (p_len isl81 rfl rfl) ?_)
                        first | refine L_go rfl (X_p (p_sub' rfl rfl rfl (by unfold InI; omega)) ?_) | refine L_go rfl (X_p (p_sub rfl rfl rfl) ?_)
                        refine L_go rfl (X_p (p_move rfl rfl) ?_)
                        first | refine L_go rfl (X_p (p_add' rfl rfl rfl (by unfold InI; omega)) ?_) | refine L_go rfl (X_p (p_add rfl rfl rfl) ?_)
                        refine L_go rfl (X_p (p_idxo es81 rfl rfl rfl (by omega) (by omega)) ?_)
                        refine L_go rfl (X_p (p_fieldo fo126_1 rfl rfl) ?_)
                        refine L_go rfl (X_wr (w_store (cs' := cur.toList.set (0 + ((n : Int) - 1).toNat * 2 + 1) (.int .i64 (u + 1))) sz3 rfl rfl rfl rfl rfl (by repeat first | exact .head | apply SetAt.tail) (by rw [Array.length_toList, hcs]; omega) rfl) ?_)
                        rintro _ _ ⟨rfl, rfl⟩
                        refine L_keep (.cons (k := 2) rfl (.cons (k := 3) rfl (.cons (k := 4) rfl (.cons (k := 5) rfl (.cons (k := 13) rfl (.cons (k := 14) rfl .nil)))))) (blk_n (then_n ?_))
                        refine V_region rfl ?_
                        refine L_go rfl (X_p (p_move rfl rfl) ?_)
                        first | refine L_go rfl (X_p (p_add' rfl rfl rfl (by unfold InI; omega)) ?_) | refine L_go rfl (X_p (p_add rfl rfl rfl) ?_)
                        refine L_go rfl (X_p (p_assign rfl rfl) ?_)
                        refine L_keep (.cons (k := 2) rfl (.cons (k := 3) rfl (.cons (k := 4) rfl (.cons (k := 5) rfl (.cons (k := 13) rfl (.cons (k := 14) rfl .nil)))))) (then_n ?_)
                        refine ⟨(u + 1, l.set ((n : Int) - 1).toNat ((l.getD ((n : Int) - 1).toNat (0, 0)).1, u + 1), n, some ⟨gb, 0, none⟩, gc, _), ?_, ?_, (.cons rfl (.cons rfl (.cons rfl (.cons rfl (.cons rfl (.cons rfl (.nil _))))))), (by repeat (first | exact List.nil_sublist _ | exact List.Sublist.refl _ | apply List.Sublist.cons_cons | apply List.Sublist.cons | apply List.sublist_append_of_sublist_right)), rfl⟩
                        · refine ⟨by omega, by omega, ?_, by rw [List.length_set]; exact hn, ?_⟩
                          · have hsu := gapsN_succ (t := t) (now := now) (wd := wd) hfu
                            rw [← hl] at hsu
                            have elast : ((n : Int) - 1).toNat = l.length - 1 := by omega
                            rw [hsu, step_more (l := l) (step_bad rfl (.inl g5)) (by omega) (by rw [← elast]; exact c7), ← elast]
                          · rw [gapV_set l _ _ (by omega)]
                            exact grow_set hgn hgm hcs hcur (by rw [gapV_len]; omega)
                        · dsimp only; omega
                      · intro c7; have c7r := c7; try simp only [td] at c7
                        refine V_region rfl ?_
                        refine L_go rfl (X_p (p_move rfl rfl) ?_)
                        refine L_go rfl (X_p (p_move rfl rfl) ?_)
                        refine L_go rfl (X_p (p_move rfl rfl) ?_)
                        first | refine L_go rfl (X_p (p_add' rfl rfl rfl (by unfold InI; omega)) ?_) | refine L_go rfl (X_p (p_add rfl rfl rfl) ?_)
                        refine L_go rfl (X_p (p_build (r := [_, _]) pl126 zr126 rfl rfl rfl) ?_)
                        refine L_go rfl (X_wr (w_slice (r := [_, _]) un81 sz126 zr126 rfl (by decide) rfl (by decide) rfl rfl) ?_)
                        rintro _ _ ⟨b3, hb3, rfl, rfl⟩
                        refine L_go rfl (X_wr (w_app (pre := [_, _, _]) (G := _) (post := []) ap81 rfl rfl rfl hgr (by rw [List.append_nil]; rfl) rfl (news_own (by repeat first | exact mH | apply mT)) (by simp [Value.oneCell']) (by omega) (by simp only [maxLen]; omega)) ?_)
                        rintro _ _ ⟨G1a, G1c, G1, rfl, rfl, hgr1⟩
                        try simp only [List.cons_append, List.nil_append, List.append_nil]
                        refine L_go rfl (X_p (p_assign rfl rfl) ?_)
                        refine L_keep (.cons (k := 2) rfl (.cons (k := 3) rfl (.cons (k := 4) rfl (.cons (k := 5) rfl (.cons (k := 13) rfl (.cons (k := 14) rfl .nil)))))) (blk_n (then_n ?_))
                        refine V_region rfl ?_
                        refine L_go rfl (X_p (p_move rfl rfl) ?_)
                        first | refine L_go rfl (X_p (p_add' rfl rfl rfl (by unfold InI; omega)) ?_) | refine L_go rfl (X_p (p_add rfl rfl rfl) ?_)
                        refine L_go rfl (X_p (p_assign rfl rfl) ?_)
                        refine L_keep (.cons (k := 2) rfl (.cons (k := 3) rfl (.cons (k := 4) rfl (.cons (k := 5) rfl (.cons (k := 13) rfl (.cons (k := 14) rfl .nil)))))) (then_n ?_)
                        refine ⟨(u + 1, l ++ [(u, u + 1)], n + 1, _, _, G1), ?_, ?_, (.cons rfl (.cons rfl (.cons rfl (.cons rfl (.cons rfl (.cons rfl (.nil _))))))), (by repeat (first | exact List.nil_sublist _ | exact List.Sublist.refl _ | apply List.Sublist.cons_cons | apply List.Sublist.cons | apply List.sublist_append_of_sublist_right)), rfl⟩
                        · refine ⟨by omega, by omega, ?_, by rw [List.length_append, hn]; rfl, ?_⟩
                          · have hsu := gapsN_succ (t := t) (now := now) (wd := wd) hfu
                            rw [← hl] at hsu
                            have elast : ((n : Int) - 1).toNat = l.length - 1 := by omega
                            rw [hsu, step_new (l := l) (step_bad rfl (.inl g5)) (by rintro ⟨_, h⟩; exact c7 (by rw [elast]; exact h))]
                          · rw [gapV_app]; exact hgr1
                        · dsimp only; omega
                    · intro g7; have g7' := g7; try simp only [td] at g7'
                      refine L_no rfl rfl rfl g7 ?_
                      refine L_no rfl rfl rfl g7 ?_
                      refine L_no rfl rfl rfl g7 ?_
                      refine L_no rfl rfl rfl g7 ?_
                      refine L_no rfl rfl rfl g7 ?_
                      refine L_no rfl rfl rfl g7 ?_
                      refine L_no rfl rfl rfl g7 ?_
                      refine L_no rfl rfl rfl g7 ?_
                      refine L_no rfl rfl rfl g7 ?_
                      refine L_go rfl (X_p (p_pick_f rfl rfl g7 rfl) ?_)
                      refine L_then (.cons (k := 2) rfl (.cons (k := 3) rfl (.cons (k := 4) rfl (.cons (k := 5) rfl (.cons (k := 13) rfl (.cons (k := 14) rfl (.cons (k := 81) rfl .nil))))))) ?_
                      refine V_cond_f rfl rfl ?_
                      refine V_region rfl ?_
                      refine L_go rfl (X_p (p_move rfl rfl) ?_)
                      refine L_go rfl (X_p (p_move rfl rfl) ?_)
                      refine L_go rfl (X_p (p_move rfl rfl) ?_)
                      first | refine L_go rfl (X_p (p_add' rfl rfl rfl (by unfold InI; omega)) ?_) | refine L_go rfl (X_p (p_add rfl rfl rfl) ?_)
                      refine L_go rfl (X_p (p_build (r := [_, _]) pl126 zr126 rfl rfl rfl) ?_)
                      refine L_go rfl (X_wr (w_slice (r := [_, _]) un81 sz126 zr126 rfl (by decide) rfl (by decide) rfl rfl) ?_)
                      rintro _ _ ⟨b3, hb3, rfl, rfl⟩
                      refine L_go rfl (X_wr (w_app (pre := [_, _, _]) (G := _) (post := []) ap81 rfl rfl rfl hgr (by rw [List.append_nil]; rfl) rfl (news_own (by repeat first | exact mH | apply mT)) (by simp [Value.oneCell']) (by omega) (by simp only [maxLen]; omega)) ?_)
                      rintro _ _ ⟨G1a, G1c, G1, rfl, rfl, hgr1⟩
                      try simp only [List.cons_append, List.nil_append, List.append_nil]
                      refine L_go rfl (X_p (p_assign rfl rfl) ?_)
                      refine L_keep (.cons (k := 2) rfl (.cons (k := 3) rfl (.cons (k := 4) rfl (.cons (k := 5) rfl (.cons (k := 13) rfl (.cons (k := 14) rfl .nil)))))) (blk_n (then_n ?_))
                      refine V_region rfl ?_
                      refine L_go rfl (X_p (p_move rfl rfl) ?_)
                      first | refine L_go rfl (X_p (p_add' rfl rfl rfl (by unfold InI; omega)) ?_) | refine L_go rfl (X_p (p_add rfl rfl rfl) ?_)
                      refine L_go rfl (X_p (p_assign rfl rfl) ?_)
                      refine L_keep (.cons (k := 2) rfl (.cons (k := 3) rfl (.cons (k := 4) rfl (.cons (k := 5) rfl (.cons (k := 13) rfl (.cons (k := 14) rfl .nil)))))) (then_n ?_)
                      refine ⟨(u + 1, l ++ [(u, u + 1)], n + 1, _, _, G1), ?_, ?_, (.cons rfl (.cons rfl (.cons rfl (.cons rfl (.cons rfl (.cons rfl (.nil _))))))), (by repeat (first | exact List.nil_sublist _ | exact List.Sublist.refl _ | apply List.Sublist.cons_cons | apply List.Sublist.cons | apply List.sublist_append_of_sublist_right)), rfl⟩
                      · refine ⟨by omega, by omega, ?_, by rw [List.length_append, hn]; rfl, ?_⟩
                        · have hsu := gapsN_succ (t := t) (now := now) (wd := wd) hfu
                          rw [← hl] at hsu
                          have elast : ((n : Int) - 1).toNat = l.length - 1 := by omega
                          rw [hsu, step_new (l := l) (step_bad rfl (.inl g5)) (by rintro ⟨h, _⟩; omega)]
                        · rw [gapV_app]; exact hgr1
                      · dsimp only; omega
                · intro c4; have c4r := c4; try simp only [td] at c4
                  refine V_exit (then_e (then_e (blk_e rfl (then_n ?_))))
                  refine V_seq (V_region rfl ?_)
                  refine L_go rfl (X_p (p_move rfl rfl) ?_)
                  refine L_go rfl (X_p (p_assign rfl rfl) ?_)
                  refine L_go rfl (X_p (p_assign rfl rfl) ?_)
                  refine L_then (.cons (k := 10) rfl (.cons (k := 11) rfl .nil)) ?_
                  refine V_ret ?_
                  refine Leave.nil (.tmp rfl (.tmp rfl .nil)) ?_
                  have ek : u = til := by omega
                  subst ek
                  refine ⟨G, (by (try dsimp only); repeat (first | exact HSub.nil _ | refine HSub.take (by repeat first | exact Take.head | apply Take.tail) ?_ | exact HSub.refl _ | refine HSub.drop ?_ | refine HSub.app ?_)), [], G, rfl, .slice ga n gc, rfl, ?_, ?_⟩
                  · rw [he]; rfl
                  · rw [gapsL_ok he, ← hl, ← hn]; exact hgr
          · intro g4; have g4' := g4; try simp only [td] at g4'
            exfalso; omega
  · intro g1; have g1' := g1; try simp only [td] at g1'
    refine L_no rfl rfl rfl g1 ?_
    refine L_no rfl rfl rfl g1 ?_
    refine L_no rfl rfl rfl g1 ?_
    refine L_no rfl rfl rfl g1 ?_
    refine L_nou rfl rfl rfl ?_
    refine L_nou rfl rfl rfl ?_
    refine L_nou rfl rfl rfl ?_
    refine L_no rfl rfl rfl g1 ?_
    refine L_no rfl rfl rfl g1 ?_
    refine L_nou rfl rfl rfl ?_
    refine L_nou rfl rfl rfl ?_
    refine L_no rfl rfl rfl g1 ?_
    refine L_go rfl (X_p (p_pick_f rfl rfl g1 rfl) ?_)
    refine L_then (.cons (k := 1) rfl (.cons (k := 2) rfl (.cons (k := 3) rfl (.cons (k := 4) rfl (.cons (k := 5) rfl (.cons (k := 12) rfl (.cons (k := 36) rfl .nil))))))) ?_
    refine V_cond_f rfl rfl ?_
    refine V_skip (then_n ?_)
    refine V_seq ?_
    refine V_seq (V_region rfl ?_)
    refine L_go rfl (X_p (p_move rfl rfl) ?_)
    refine L_go rfl (X_p (p_eql rfl rfl rfl) ?_)
    refine L_go rfl (X_p (p_move rfl rfl) ?_)
    refine L_cases (d := 39) rfl ?_ ?_
    · intro g8; have g8' := g8; try simp only [td] at g8'
      exfalso; omega
    · intro g8; have g8' := g8; try simp only [td] at g8'
      refine L_no rfl rfl rfl g8 ?_
      refine L_no rfl rfl rfl g8 ?_
      refine L_no rfl rfl rfl g8 ?_
      refine L_no rfl rfl rfl g8 ?_
      refine L_go rfl (X_p (p_pick_f rfl rfl g8 rfl) ?_)
      refine L_then (.cons (k := 1) rfl (.cons (k := 2) rfl (.cons (k := 3) rfl (.cons (k := 4) rfl (.cons (k := 5) rfl (.cons (k := 12) rfl (.cons (k := 44) rfl .nil))))))) ?_
      refine V_cond_f rfl rfl ?_
      refine V_skip (then_n ?_)
      refine V_seq ?_
      refine V_seq (V_region rfl ?_)
      refine L_go rfl (X_p (p_move rfl rfl) ?_)
      refine L_go rfl (X_p (p_neq rfl rfl rfl) ?_)
      refine L_then (.cons (k := 1) rfl (.cons (k := 2) rfl (.cons (k := 3) rfl (.cons (k := 4) rfl (.cons (k := 5) rfl (.cons (k := 12) rfl (.cons (k := 46) rfl .nil))))))) ?_
      refine V_cond rfl ?_ ?_
      · intro c8; have c8r := c8; try simp only [td] at c8
        refine V_seq (V_region rfl ?_)
        refine L_go rfl (X_p (p_move rfl rfl) ?_)
        refine L_go rfl (X_p (p_assign rfl rfl) ?_)
        refine L_go rfl (X_p (p_assign rfl rfl) ?_)
        refine L_then (.cons (k := 10) rfl (.cons (k := 11) rfl .nil)) ?_
        refine V_ret (then_r ?_)
        refine Leave.nil (.tmp rfl (.tmp rfl .nil)) ?_
        refine ⟨[], HSub.nil _, [], [], rfl, .slice none 0 0, rfl, ?_, ?_⟩
        · rw [(gapsE_1 (by rw [asked3_err g1']; exact g1')).trans (asked3_err g1')]; rfl
        · rw [gapsL_bad (by rw [(gapsE_1 (by rw [asked3_err g1']; exact g1')).trans (asked3_err g1')]; first | assumption | decide)]; exact .nil
      · intro c8; have c8r := c8; try simp only [td] at c8
        exfalso; omega
theorem lgaps_c (a : List (Int × Int)) (va vb : Value) (w : World) (ha : SliceR w 2 va (a.map gapC)) (hb : SliceR w 2 vb (a.map gapC)) (hl : (a.length : Int) ≤ 9223372036854775806) : FnP Try.prog 45 [va, vb] w (.bool true) := by
  obtain ⟨aa, ca, rfl, hca, hae⟩ := ha.ex
  obtain ⟨ab, cb, rfl, hcb, hbe⟩ := hb.ex
  simp only [List.length_map] at hca hcb ⊢
  refine fn_pure Try.func45 rfl (by kernel_rfl) Try.ntmps45 Try.results45 rfl ?_
  refine V_seq (V_region rfl ?_)
  refine L_go rfl (X_p (p_assign rfl rfl) ?_)
  refine L_then (.cons (k := 0) rfl (.cons (k := 1) rfl .nil)) ?_
  refine V_seq ?_
  refine V_seq (V_region rfl ?_)
  refine L_go rfl (X_p (p_move rfl rfl) ?_)
  refine L_go rfl (X_p (p_len isl81 rfl rfl) ?_)
  refine L_go rfl (X_p (p_move rfl rfl) ?_)
  refine L_go rfl (X_p (p_len isl81 rfl rfl) ?_)
  refine L_go rfl (X_p (p_neq rfl rfl rfl) ?_)
  refine L_then (.cons (k := 0) rfl (.cons (k := 1) rfl (.cons (k := 10) rfl .nil))) ?_
  refine V_cond_f rfl (by simp) ?_
  refine V_skip (then_n ?_)
  refine V_seq ?_
  refine V_seq (V_region rfl ?_)
  refine L_go rfl (X_p (p_assign rfl rfl) ?_)
  refine L_then (.cons (k := 0) rfl (.cons (k := 1) rfl (.cons (k := 5) rfl .nil))) ?_
  refine V_block ?_
  refine V_loop0 (γ := Int) (.cons (k := 0) rfl (.cons (k := 1) rfl .nil)) (fun k => [(5, .int .i64 k)]) (fun k => 0 ≤ k ∧ k ≤ a.length) (fun k => (a.length - k).toNat) (0) (.cons rfl (.nil _)) (⟨by omega, by omega⟩) ?_
  rintro k hi
  obtain ⟨hk0, hk1⟩ := hi
  refine V_seq ?_
  refine V_seq (V_region rfl ?_)
  refine L_go rfl (X_p (p_move rfl rfl) ?_)
  refine L_go rfl (X_p (p_move rfl rfl) ?_)
  refine L_go rfl (X_p (p_len isl81 rfl rfl) ?_)
  refine L_go rfl (X_p (p_lss rfl rfl rfl) ?_)
  refine L_then (.cons (k := 0) rfl (.cons (k := 1) rfl (.cons (k := 5) rfl (.cons (k := 14) rfl .nil)))) ?_
  refine V_cond rfl ?_ ?_
  · intro c1; try simp only [td] at c1
    obtain ⟨xa, rfl, hxa⟩ := hae k.toNat _ (getD_cells (f := gapC) (d := (0, 0)) (by omega))
    obtain ⟨xb, rfl, hxb⟩ := hbe k.toNat _ (getD_cells (f := gapC) (d := (0, 0)) (by omega))
    refine V_skip (then_n ?_)
    refine V_seq ?_
    refine V_block ?_
    refine V_seq (V_draw (.rd 0 (.rd 1 (.rd 2 (.rd 3 (.rd 4 (.rd 5 (.rd 6 (.rd 7 (.rd 8 .done))))))))) mixed (by kernel_rfl) rfl ?_)
    refine D_p rfl (.plain rfl) (p_move rfl rfl) ?_
    refine D_p rfl (.plain rfl) (p_move rfl rfl) ?_
    refine D_p rfl (.plain rfl) (p_idx es81 rfl rfl rfl (by omega) (by omega)) ?_
    refine D_rd rfl (.plain rfl) (r_loadBA ag126 sz126 rfl rfl hxa rfl List.not_mem_nil) ?_
    refine D_p rfl (.plain rfl) (p_move rfl rfl) ?_
    refine D_p rfl (.plain rfl) (p_move rfl rfl) ?_
    refine D_p rfl (.plain rfl) (p_idx es81 rfl rfl rfl (by omega) (by omega)) ?_
    refine D_rd rfl (.plain rfl) (r_loadBA ag126 sz126 rfl rfl hxb rfl List.not_mem_nil) ?_
    refine D_p rfl (.plain rfl) (p_neS lv126 ag126 eg126 rfl rfl rfl rfl rfl) ?_
    refine D_then (.cons (k := 0) rfl (.cons (k := 1) rfl (.cons (k := 5) rfl (.cons (k := 25) rfl .nil)))) ?_
    refine V_cond_f rfl (by simp [eqL, eqv, gapC]) ?_
    refine V_skip (blk_n (then_n ?_))
    refine V_region rfl ?_
    refine L_go rfl (X_p (p_move rfl rfl) ?_)
    first | refine L_go rfl (X_p (p_add' rfl rfl rfl (by unfold InI; omega)) ?_) | refine L_go rfl (X_p (p_add rfl rfl rfl) ?_)
    refine L_go rfl (X_p (p_assign rfl rfl) ?_)
    refine L_keep (.cons (k := 0) rfl (.cons (k := 1) rfl (.cons (k := 5) rfl .nil))) (then_n ?_)
    refine ⟨k + 1, ?_, ?_, (.cons rfl (.cons rfl (.cons rfl (.nil _)))), (by repeat (first | exact List.Sublist.refl _ | apply List.Sublist.cons_cons | apply List.Sublist.cons | apply List.sublist_append_of_sublist_right)), rfl⟩
    · exact ⟨by omega, by omega⟩
    · omega
  · intro c1; try simp only [td] at c1
    refine V_exit (then_e (then_e (blk_e rfl (then_n ?_))))
    refine V_seq (V_region rfl ?_)
    refine L_go rfl (X_p (p_assign rfl rfl) ?_)
    refine L_then (.cons (k := 4) rfl .nil) ?_
    refine V_ret ?_
    refine Leave.nil (.tmp rfl .nil) ?_
    rfl

end Go.Proofs.Ytclbbchehjapjaa
