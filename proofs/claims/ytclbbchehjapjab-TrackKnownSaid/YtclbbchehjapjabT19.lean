/- Ytclbbchehjapjab: Gaps. -/
import Derived.Test.YtclbbchehjapjabT14
import Derived.Test.YtclbbchehjapjabG
set_option linter.all false
namespace Go.Proofs.Ytclbbchehjapjab
open Go.Vc Go.Tk
set_option maxRecDepth 100000
set_option maxHeartbeats 8000000 in
theorem gaps_c (t : Task) (v : Value) (w : World) (ht : TaskR w v t) (frm til now wd : Int) : FnC Try.prog 14 [v, .int .i64 frm, .int .i64 til, .int .i64 now, .int .i64 wd] w fun v w' => ∃ Hc, Vc.Good w [] Hc w' ∧ ∃ A G, Hc = A ++ G ∧ GapsOut 47 (gapsL t frm til now wd) (fun sv => .tuple #[sv, .int .i64 (gapsE t frm til now wd)]) v A G := by
  have hT := ht
  obtain ⟨tv, pv, rfl, htr, hpl⟩ := ht.ex
  obtain ⟨ta, tc, rfl, htc, hte⟩ := htr.ex
  obtain ⟨pa, pc, rfl, hpc, hpe⟩ := hpl.ex
  have hltr := hT.ltr
  have hlpl := hT.lpl
  simp only [List.length_map] at hT htc hpc ⊢
  refine fn_new Try.func14 rfl (by kernel_rfl) Try.ntmps14 Try.results14 rfl ?_
  refine V_seq (V_region rfl ?_)
  refine L_go rfl (X_wr (w_box rfl rfl) ?_)
  rintro _ _ ⟨b1, hb1, rfl, rfl⟩
  refine L_go rfl (X_p (p_assign rfl rfl) ?_)
  refine L_go rfl (X_p (p_assign rfl rfl) ?_)
  refine L_then (.cons (k := 1) rfl (.cons (k := 2) rfl (.cons (k := 3) rfl (.cons (k := 4) rfl (.cons (k := 5) rfl (.cons (k := 10) rfl .nil)))))) ?_
  refine V_seq (V_region rfl ?_)
  refine L_go rfl (X_rd (r_loadA (vs := [_, _, _, _, _]) ag25 sz25 rfl rfl (by repeat first | exact mH | apply mT) rfl) ?_)
  refine L_go rfl (X_p (p_move rfl rfl) ?_)
  refine L_go rfl (X_p (p_move rfl rfl) ?_)
  refine L_go rfl (X_p (p_move rfl rfl) ?_)
  refine L_go rfl (X_wr (w_slice (r := [_, _, _]) un27 sz3 zr3 rfl (by decide) rfl (by decide) rfl rfl) ?_)
  rintro _ _ ⟨b2, hb2, rfl, rfl⟩
  refine L_go rfl (X_wr (w_callP rfl rfl rfl (fun w hg => asked_c t [frm, til, now] _ _ w (hT.good hg) (own_ints (l := [frm, til, now]) (hg.own (b2, _) (by repeat first | exact mH | apply mT)) rfl (by decide)) (by simp))) ?_)
  rintro _ _ ⟨rfl, rfl⟩
  refine L_go rfl (X_p (p_assign rfl rfl) ?_)
  refine L_then (.cons (k := 1) rfl (.cons (k := 2) rfl (.cons (k := 3) rfl (.cons (k := 4) rfl (.cons (k := 5) rfl (.cons (k := 10) rfl (.cons (k := 11) rfl .nil))))))) ?_
  refine V_seq ?_
  refine V_block ?_
  refine V_seq (V_region rfl ?_)
  refine L_go rfl (X_p (p_move rfl rfl) ?_)
  refine L_go rfl (X_p (p_neq rfl rfl rfl) ?_)
  refine L_go rfl (X_p (p_assign rfl rfl) ?_)
  refine L_then (.cons (k := 1) rfl (.cons (k := 2) rfl (.cons (k := 3) rfl (.cons (k := 4) rfl (.cons (k := 5) rfl (.cons (k := 10) rfl (.cons (k := 11) rfl (.cons (k := 22) rfl .nil)))))))) ?_
  refine V_cond rfl ?_ ?_
  · intro c1; have c1r := c1; try simp only [td] at c1
    refine V_seq (V_region rfl ?_)
    refine L_go rfl (X_p (p_move rfl rfl) ?_)
    refine L_go rfl (X_p (p_assign rfl rfl) ?_)
    refine L_go rfl (X_p (p_assign rfl rfl) ?_)
    refine L_then (.cons (k := 10) rfl (.cons (k := 11) rfl .nil)) ?_
    refine V_ret (blk_r (then_r ?_))
    refine Leave.nil (.tmp rfl (.tmp rfl .nil)) ?_
    refine ⟨[], HSub.nil _, [], [], rfl, .slice none 0 0, rfl, ?_, ?_⟩
    · rw [gapsE_1 c1]; rfl
    · rw [gapsL_bad (by rw [gapsE_1 c1]; first | assumption | decide)]; exact .nil
  · intro c1; have c1r := c1; try simp only [td] at c1
    obtain ⟨_, hz⟩ := asked_zero c1
    have bz1 := hz frm (.head _)
    have bz2 := hz til (.tail _ (.head _))
    refine V_seq (V_region rfl ?_)
    refine L_go rfl (X_p (p_move rfl rfl) ?_)
    refine L_go rfl (X_p (p_move rfl rfl) ?_)
    refine L_go rfl (X_p (p_lss rfl rfl rfl) ?_)
    refine L_go rfl (X_p (p_move rfl rfl) ?_)
    refine L_cases (d := 30) rfl ?_ ?_
    · intro g1; have g1' := g1; try simp only [td] at g1'
      refine L_no rfl rfl rfl g1 ?_
      refine L_no rfl rfl rfl g1 ?_
      refine L_go rfl (X_p (p_pick_t rfl rfl g1 rfl) ?_)
      refine L_go rfl (X_p (p_assign rfl rfl) ?_)
      refine L_then (.cons (k := 1) rfl (.cons (k := 2) rfl (.cons (k := 3) rfl (.cons (k := 4) rfl (.cons (k := 5) rfl (.cons (k := 10) rfl (.cons (k := 26) rfl .nil))))))) ?_
      refine V_cond_t rfl rfl ?_
      refine V_seq (V_region rfl ?_)
      refine L_go rfl (X_p (p_assign rfl rfl) ?_)
      refine L_go rfl (X_p (p_assign rfl rfl) ?_)
      refine L_then (.cons (k := 10) rfl (.cons (k := 11) rfl .nil)) ?_
      refine V_ret (blk_r (then_r ?_))
      refine Leave.nil (.tmp rfl (.tmp rfl .nil)) ?_
      refine ⟨[], HSub.nil _, [], [], rfl, .slice none 0 0, rfl, ?_, ?_⟩
      · rw [gapsE_2 c1 (.inl g1')]; rfl
      · rw [gapsL_bad (by rw [gapsE_2 c1 (.inl g1')]; first | assumption | decide)]; exact .nil
    · intro g1; have g1' := g1; try simp only [td] at g1'
      refine L_yes rfl rfl rfl g1 (X_p (p_move rfl rfl) ?_)
      refine L_yes rfl rfl rfl g1 (X_p (p_lss rfl rfl rfl) ?_)
      refine L_go rfl (X_p (p_pick_f rfl rfl g1 rfl) ?_)
      refine L_go rfl (X_p (p_assign rfl rfl) ?_)
      refine L_then (.cons (k := 1) rfl (.cons (k := 2) rfl (.cons (k := 3) rfl (.cons (k := 4) rfl (.cons (k := 5) rfl (.cons (k := 10) rfl (.cons (k := 26) rfl .nil))))))) ?_
      refine V_cond rfl ?_ ?_
      · intro c2; have c2r := c2; try simp only [td] at c2
        refine V_seq (V_region rfl ?_)
        refine L_go rfl (X_p (p_assign rfl rfl) ?_)
        refine L_go rfl (X_p (p_assign rfl rfl) ?_)
        refine L_then (.cons (k := 10) rfl (.cons (k := 11) rfl .nil)) ?_
        refine V_ret (blk_r (then_r ?_))
        refine Leave.nil (.tmp rfl (.tmp rfl .nil)) ?_
        refine ⟨[], HSub.nil _, [], [], rfl, .slice none 0 0, rfl, ?_, ?_⟩
        · rw [gapsE_2 c1 (.inr c2)]; rfl
        · rw [gapsL_bad (by rw [gapsE_2 c1 (.inr c2)]; first | assumption | decide)]; exact .nil
      · intro c2; have c2r := c2; try simp only [td] at c2
        refine V_seq (V_region rfl ?_)
        refine L_go rfl (X_p (p_move rfl rfl) ?_)
        refine L_go rfl (X_p (p_move rfl rfl) ?_)
        first | refine L_go rfl (X_p (p_sub' rfl rfl rfl (by unfold InI; omega)) ?_) | refine L_go rfl (X_p (p_sub rfl rfl rfl) ?_)
        refine L_go rfl (X_p (p_gtr rfl rfl rfl) ?_)
        refine L_go rfl (X_p (p_assign rfl rfl) ?_)
        refine L_then (.cons (k := 1) rfl (.cons (k := 2) rfl (.cons (k := 3) rfl (.cons (k := 4) rfl (.cons (k := 5) rfl (.cons (k := 10) rfl (.cons (k := 34) rfl .nil))))))) ?_
        refine V_cond rfl ?_ ?_
        · intro c3; have c3r := c3; try simp only [td] at c3
          refine V_seq (V_region rfl ?_)
          refine L_go rfl (X_p (p_assign rfl rfl) ?_)
          refine L_go rfl (X_p (p_assign rfl rfl) ?_)
          refine L_then (.cons (k := 10) rfl (.cons (k := 11) rfl .nil)) ?_
          refine V_ret (blk_r (then_r ?_))
          refine Leave.nil (.tmp rfl (.tmp rfl .nil)) ?_
          refine ⟨[], HSub.nil _, [], [], rfl, .slice none 0 0, rfl, ?_, ?_⟩
          · rw [gapsE_3 c1 (by omega) c3]; rfl
          · rw [gapsL_bad (by rw [gapsE_3 c1 (by omega) c3]; first | assumption | decide)]; exact .nil
        · intro c3; have c3r := c3; try simp only [td] at c3
          have he : gapsE t frm til now wd = 0 := gapsE_4 c1 (by omega) (by omega)
          obtain ⟨_, hfb, htb, hnb, hft, hwd, hlen⟩ := gapsE_ok he
          have hG := (asked_zero c1).1
          have hpl60 := hG.h2
          refine V_skip (blk_n (then_n ?_))
          refine V_seq ?_
          refine V_seq (V_region rfl ?_)
          refine L_go rfl (X_p (p_move rfl rfl) ?_)
          refine L_go rfl (X_p (p_assign rfl rfl) ?_)
          refine L_then (.cons (k := 2) rfl (.cons (k := 3) rfl (.cons (k := 4) rfl (.cons (k := 5) rfl (.cons (k := 10) rfl (.cons (k := 12) rfl .nil)))))) ?_
          refine V_block ?_
          refine V_loop1 (γ := Int × List (Int × Int) × Nat × Option Addr × Nat × Heap) (.cons (k := 2) rfl (.cons (k := 3) rfl (.cons (k := 4) rfl (.cons (k := 5) rfl .nil)))) (fun (u, l, n, ga, gc, G) => [(12, .int .i64 u), (10, .slice ga n gc)]) (fun (u, l, n, ga, gc, G) => (b1, t.obj (.slice ta t.trackers.length tc) (.slice pa t.plots.length pc) 25) :: G) (fun (u, l, n, ga, gc, G) => frm ≤ u ∧ u ≤ til ∧ l = gapsN t now wd frm (u - frm).toNat ∧ n = l.length ∧ Grow 47 2 (.slice ga n gc) n (gapV l) G) (fun (u, l, n, ga, gc, G) => (til - u).toNat) ((frm, [], 0, none, 0, [])) (.cons rfl (.cons rfl (.nil _))) (by repeat (first | exact List.nil_sublist _ | exact List.Sublist.refl _ | apply List.Sublist.cons_cons | apply List.Sublist.cons)) (⟨by omega, by omega, by rw [Int.sub_self]; rfl, rfl, .nil⟩) ?_
          rintro ⟨u, l, n, ga, gc, G⟩ hi
          obtain ⟨hfu, hut, hl, hn, hgr⟩ := hi
          have hln := gapsN_len (t := t) (now := now) (wd := wd) (frm := frm) (u - frm).toNat
          rw [← hl] at hln
          refine V_seq ?_
          refine V_seq (V_region rfl ?_)
          refine L_go rfl (X_p (p_move rfl rfl) ?_)
          refine L_go rfl (X_p (p_move rfl rfl) ?_)
          refine L_go rfl (X_p (p_lss rfl rfl rfl) ?_)
          refine L_then (.cons (k := 2) rfl (.cons (k := 3) rfl (.cons (k := 4) rfl (.cons (k := 5) rfl (.cons (k := 10) rfl (.cons (k := 12) rfl (.cons (k := 42) rfl .nil))))))) ?_
          refine V_cond rfl ?_ ?_
          · intro c4; have c4r := c4; try simp only [td] at c4
            refine V_skip (then_n ?_)
            refine V_seq ?_
            refine V_block ?_
            refine V_seq (V_region rfl ?_)
            refine L_go rfl (X_rd (r_loadA (vs := [_, _, _, _, _]) ag25 sz25 rfl rfl (by repeat first | exact mH | apply mT) rfl) ?_)
            refine L_go rfl (X_p (p_move rfl rfl) ?_)
            refine L_go rfl (X_p (p_move rfl rfl) ?_)
            refine L_go rfl (X_wr (w_callP rfl rfl rfl (fun w hg => spare_c t hG _ _ u now (by omega) w (hT.good hg))) ?_)
            rintro _ _ ⟨rfl, rfl⟩
            refine L_go rfl (X_p (p_move rfl rfl) ?_)
            refine L_go rfl (X_p (p_ext rfl rfl rfl) ?_)
            refine L_go rfl (X_p (p_ext rfl rfl rfl) ?_)
            refine L_go rfl (X_wr (w_alloc zr34 rfl) ?_)
            rintro _ _ ⟨b3, hb3, rfl, rfl⟩
            refine L_go rfl (X_wr (w_store (cs' := [_, _, _, _, _, _, _, _, _, _, _, _, _]) sz34 rfl rfl rfl rfl rfl (by repeat first | exact .head | apply SetAt.tail) (Nat.le_of_ble_eq_true rfl) rfl) ?_)
            rintro _ _ ⟨rfl, rfl⟩
            refine L_go rfl (X_p (p_assign rfl rfl) ?_)
            refine L_then (.cons (k := 2) rfl (.cons (k := 3) rfl (.cons (k := 4) rfl (.cons (k := 5) rfl (.cons (k := 10) rfl (.cons (k := 12) rfl (.cons (k := 13) rfl (.cons (k := 14) rfl .nil)))))))) ?_
            refine V_seq (V_region rfl ?_)
            refine L_go rfl (X_p (p_move rfl rfl) ?_)
            refine L_go rfl (X_p (p_len isl43 rfl rfl) ?_)
            first | refine L_go rfl (X_p (p_sub' rfl rfl rfl (by unfold InI; omega)) ?_) | refine L_go rfl (X_p (p_sub rfl rfl rfl) ?_)
            refine L_go rfl (X_p (p_assign rfl rfl) ?_)
            refine L_then (.cons (k := 2) rfl (.cons (k := 3) rfl (.cons (k := 4) rfl (.cons (k := 5) rfl (.cons (k := 10) rfl (.cons (k := 12) rfl (.cons (k := 13) rfl (.cons (k := 14) rfl (.cons (k := 15) rfl .nil))))))))) ?_
            refine V_block ?_
            refine V_seq (V_region rfl ?_)
            refine L_go rfl (X_p (p_move rfl rfl) ?_)
            refine L_go rfl (X_p (p_move rfl rfl) ?_)
            refine L_cases (d := 64) rfl ?_ ?_
            · intro g2; have g2' := g2; try simp only [td] at g2'
              refine L_yes rfl rfl rfl g2 (X_rd (r_loadA (vs := [_, _, _, _, _, _, _, _, _, _, _, _, _]) ag34 sz34 rfl rfl (by repeat first | exact mH | apply mT) rfl) ?_)
              refine L_yes rfl rfl rfl g2 (X_wr (w_callP rfl rfl rfl (fun w hg => span_c ((spareT t u now).getD boxZ) (BoxB.big (spareT_bnd hG (by omega) (isSome_get g2))) w)) ?_)
              rintro _ _ ⟨rfl, rfl⟩
              refine L_yes rfl rfl rfl g2 (X_p (p_move rfl rfl) ?_)
              refine L_yes rfl rfl rfl g2 (X_p (p_leq rfl rfl rfl) ?_)
              refine L_go rfl (X_p (p_pick_t rfl rfl g2 rfl) ?_)
              refine L_go rfl (X_p (p_assign rfl rfl) ?_)
              refine L_then (.cons (k := 2) rfl (.cons (k := 3) rfl (.cons (k := 4) rfl (.cons (k := 5) rfl (.cons (k := 10) rfl (.cons (k := 12) rfl (.cons (k := 15) rfl (.cons (k := 62) rfl .nil)))))))) ?_
              refine V_cond rfl ?_ ?_
              · intro c5; have c5r := c5; try simp only [td] at c5
                refine V_skip (blk_n (blk_n (then_n ?_)))
                refine V_region rfl ?_
                refine L_go rfl (X_p (p_move rfl rfl) ?_)
                first | refine L_go rfl (X_p (p_add' rfl rfl rfl (by unfold InI; omega)) ?_) | refine L_go rfl (X_p (p_add rfl rfl rfl) ?_)
                refine L_go rfl (X_p (p_assign rfl rfl) ?_)
                refine L_keep (.cons (k := 2) rfl (.cons (k := 3) rfl (.cons (k := 4) rfl (.cons (k := 5) rfl (.cons (k := 10) rfl (.cons (k := 12) rfl .nil)))))) (then_n ?_)
                refine ⟨(u + 1, l, n, ga, gc, G), ?_, ?_, (.cons rfl (.cons rfl (.cons rfl (.cons rfl (.cons rfl (.cons rfl (.nil _))))))), (by repeat (first | exact List.nil_sublist _ | exact List.Sublist.refl _ | apply List.Sublist.cons_cons | apply List.Sublist.cons | apply List.sublist_append_of_sublist_right)), rfl⟩
                · refine ⟨by omega, by omega, ?_, hn, hgr⟩
                  have hsu := gapsN_succ (t := t) (now := now) (wd := wd) hfu
                  rw [← hl] at hsu
                  have elast : ((n : Int) - 1).toNat = l.length - 1 := by omega
                  rw [hsu, step_ok (l := l) rfl g2 c5]
                · dsimp only; omega
              · intro c5; have c5r := c5; try simp only [td] at c5
                refine V_seq (V_region rfl ?_)
                refine L_go rfl (X_p (p_move rfl rfl) ?_)
                refine L_go rfl (X_p (p_geq rfl rfl rfl) ?_)
                refine L_go rfl (X_p (p_move rfl rfl) ?_)
                refine L_cases (d := 73) rfl ?_ ?_
                · intro g3; have g3' := g3; try simp only [td] at g3'
                  obtain ⟨gb, cur, rfl, rfl, hcur, hcs, hgn, hgm⟩ := Grow.form2 hgr (by omega)
                  refine L_yes rfl rfl rfl g3 (X_p (p_move rfl rfl) ?_)
                  refine L_yes rfl rfl rfl g3 (X_p (p_move rfl rfl) ?_)
                  refine L_yes rfl rfl rfl g3 (X_p (p_idxo es43 rfl rfl rfl (by omega) (by omega)) ?_)
                  refine L_yes rfl rfl rfl g3 (X_p (p_fieldo fo47_1 rfl rfl) ?_)
                  refine L_yes rfl rfl rfl g3 (X_rd (r_load ag3 rfl rfl (by repeat first | exact mH | apply mT) (v := .int .i64 (l.getD ((n : Int) - 1).toNat (0, 0)).2) (cur_at hcur (gapV_at (by omega)).1)) ?_)
                  refine L_yes rfl rfl rfl g3 (X_p (p_move rfl rfl) ?_)
                  refine L_yes rfl rfl rfl g3 (X_p (p_eql rfl rfl rfl) ?_)
                  refine L_go rfl (X_p (p_pick_t rfl rfl g3 rfl) ?_)
                  refine L_go rfl (X_p (p_assign rfl rfl) ?_)
                  refine L_then (.cons (k := 2) rfl (.cons (k := 3) rfl (.cons (k := 4) rfl (.cons (k := 5) rfl (.cons (k := 10) rfl (.cons (k := 12) rfl (.cons (k := 15) rfl (.cons (k := 70) rfl .nil)))))))) ?_
                  refine V_cond rfl ?_ ?_
                  · intro c6; have c6r := c6; try simp only [td] at c6
                    refine V_region rfl ?_
                    refine L_go rfl (X_p (p_move rfl rfl) ?_)
                    refine L_go rfl (X_p (p_move rfl rfl) ?_)
                    refine L_go rfl (X_p (p_idxo es43 rfl rfl rfl (by omega) (by omega)) ?_)
                    refine L_go rfl (X_p (p_fieldo fo47_1 rfl rfl) ?_)
                    refine L_go rfl (X_rd (r_load ag3 rfl rfl (by repeat first | exact mH | apply mT) (v := .int .i64 (l.getD ((n : Int) - 1).toNat (0, 0)).2) (cur_at hcur (gapV_at (by omega)).1)) ?_)
                    first | refine L_go rfl (X_p (p_add' rfl rfl rfl (by unfold InI; omega)) ?_) | refine L_go rfl (X_p (p_add rfl rfl rfl) ?_)
                    refine L_go rfl (X_p (p_idxo es43 rfl rfl rfl (by omega) (by omega)) ?_)
                    refine L_go rfl (X_p (p_fieldo fo47_1 rfl rfl) ?_)
                    refine L_go rfl (X_wr (w_store (cs' := cur.toList.set (0 + ((n : Int) - 1).toNat * 2 + 1) (.int .i64 ((l.getD ((n : Int) - 1).toNat (0, 0)).2 + 1))) sz3 rfl rfl rfl rfl rfl (by repeat first | exact .head | apply SetAt.tail) (by rw [Array.length_toList, hcs]; omega) rfl) ?_)
                    rintro _ _ ⟨rfl, rfl⟩
                    refine L_keep (.cons (k := 2) rfl (.cons (k := 3) rfl (.cons (k := 4) rfl (.cons (k := 5) rfl (.cons (k := 10) rfl (.cons (k := 12) rfl .nil)))))) (blk_n (blk_n (then_n ?_)))
                    refine V_region rfl ?_
                    refine L_go rfl (X_p (p_move rfl rfl) ?_)
                    first | refine L_go rfl (X_p (p_add' rfl rfl rfl (by unfold InI; omega)) ?_) | refine L_go rfl (X_p (p_add rfl rfl rfl) ?_)
                    refine L_go rfl (X_p (p_assign rfl rfl) ?_)
                    refine L_keep (.cons (k := 2) rfl (.cons (k := 3) rfl (.cons (k := 4) rfl (.cons (k := 5) rfl (.cons (k := 10) rfl (.cons (k := 12) rfl .nil)))))) (then_n ?_)
                    refine ⟨(u + 1, l.set ((n : Int) - 1).toNat ((l.getD ((n : Int) - 1).toNat (0, 0)).1, u + 1), n, some ⟨gb, 0, none⟩, gc, _), ?_, ?_, (.cons rfl (.cons rfl (.cons rfl (.cons rfl (.cons rfl (.cons rfl (.nil _))))))), (by repeat (first | exact List.nil_sublist _ | exact List.Sublist.refl _ | apply List.Sublist.cons_cons | apply List.Sublist.cons | apply List.sublist_append_of_sublist_right)), rfl⟩
                    · refine ⟨by omega, by omega, ?_, by rw [List.length_set]; exact hn, ?_⟩
                      · have hsu := gapsN_succ (t := t) (now := now) (wd := wd) hfu
                        rw [← hl] at hsu
                        have elast : ((n : Int) - 1).toNat = l.length - 1 := by omega
                        rw [hsu, step_more (l := l) (step_bad rfl (.inr (by omega))) (by omega) (by rw [← elast]; exact c6), ← elast]
                      · rw [gapV_set l _ _ (by omega), ← c6]
                        exact grow_set hgn hgm hcs hcur (by rw [gapV_len]; omega)
                    · dsimp only; omega
                  · intro c6; have c6r := c6; try simp only [td] at c6
                    refine V_region rfl ?_
                    refine L_go rfl (X_p (p_move rfl rfl) ?_)
                    refine L_go rfl (X_p (p_move rfl rfl) ?_)
                    refine L_go rfl (X_p (p_move rfl rfl) ?_)
                    first | refine L_go rfl (X_p (p_add' rfl rfl rfl (by unfold InI; omega)) ?_) | refine L_go rfl (X_p (p_add rfl rfl rfl) ?_)
                    refine L_go rfl (X_p (p_build (r := [_, _]) pl47 zr47 rfl rfl rfl) ?_)
                    refine L_go rfl (X_wr (w_slice (r := [_, _]) un43 sz47 zr47 rfl (by decide) rfl (by decide) rfl rfl) ?_)
                    rintro _ _ ⟨b4, hb4, rfl, rfl⟩
                    refine L_go rfl (X_wr (w_app (pre := [_, _, _]) (G := _) (post := []) ap43 rfl rfl rfl hgr (by rw [List.append_nil]; rfl) rfl (news_own (by repeat first | exact mH | apply mT)) (by simp [Value.oneCell']) (by omega) (by simp only [maxLen]; omega)) ?_)
                    rintro _ _ ⟨G1a, G1c, G1, rfl, rfl, hgr1⟩
                    try simp only [List.cons_append, List.nil_append, List.append_nil]
                    refine L_go rfl (X_p (p_assign rfl rfl) ?_)
                    refine L_keep (.cons (k := 2) rfl (.cons (k := 3) rfl (.cons (k := 4) rfl (.cons (k := 5) rfl (.cons (k := 10) rfl (.cons (k := 12) rfl .nil)))))) (blk_n (blk_n (then_n ?_)))
                    refine V_region rfl ?_
                    refine L_go rfl (X_p (p_move rfl rfl) ?_)
                    first | refine L_go rfl (X_p (p_add' rfl rfl rfl (by unfold InI; omega)) ?_) | refine L_go rfl (X_p (p_add rfl rfl rfl) ?_)
                    refine L_go rfl (X_p (p_assign rfl rfl) ?_)
                    refine L_keep (.cons (k := 2) rfl (.cons (k := 3) rfl (.cons (k := 4) rfl (.cons (k := 5) rfl (.cons (k := 10) rfl (.cons (k := 12) rfl .nil)))))) (then_n ?_)
                    refine ⟨(u + 1, l ++ [(u, u + 1)], n + 1, _, _, G1), ?_, ?_, (.cons rfl (.cons rfl (.cons rfl (.cons rfl (.cons rfl (.cons rfl (.nil _))))))), (by repeat (first | exact List.nil_sublist _ | exact List.Sublist.refl _ | apply List.Sublist.cons_cons | apply List.Sublist.cons | apply List.sublist_append_of_sublist_right)), rfl⟩
                    · refine ⟨by omega, by omega, ?_, by rw [List.length_append, hn]; rfl, ?_⟩
                      · have hsu := gapsN_succ (t := t) (now := now) (wd := wd) hfu
                        rw [← hl] at hsu
                        have elast : ((n : Int) - 1).toNat = l.length - 1 := by omega
                        rw [hsu, step_new (l := l) (step_bad rfl (.inr (by omega))) (by rintro ⟨_, h⟩; exact c6 (by rw [elast]; exact h))]
                      · rw [gapV_app]; exact hgr1
                    · dsimp only; omega
                · intro g3; have g3' := g3; try simp only [td] at g3'
                  refine L_no rfl rfl rfl g3 ?_
                  refine L_no rfl rfl rfl g3 ?_
                  refine L_no rfl rfl rfl g3 ?_
                  refine L_no rfl rfl rfl g3 ?_
                  refine L_no rfl rfl rfl g3 ?_
                  refine L_no rfl rfl rfl g3 ?_
                  refine L_no rfl rfl rfl g3 ?_
                  refine L_go rfl (X_p (p_pick_f rfl rfl g3 rfl) ?_)
                  refine L_go rfl (X_p (p_assign rfl rfl) ?_)
                  refine L_then (.cons (k := 2) rfl (.cons (k := 3) rfl (.cons (k := 4) rfl (.cons (k := 5) rfl (.cons (k := 10) rfl (.cons (k := 12) rfl (.cons (k := 15) rfl (.cons (k := 70) rfl .nil)))))))) ?_
                  refine V_cond_f rfl rfl ?_
                  refine V_region rfl ?_
                  refine L_go rfl (X_p (p_move rfl rfl) ?_)
                  refine L_go rfl (X_p (p_move rfl rfl) ?_)
                  refine L_go rfl (X_p (p_move rfl rfl) ?_)
                  first | refine L_go rfl (X_p (p_add' rfl rfl rfl (by unfold InI; omega)) ?_) | refine L_go rfl (X_p (p_add rfl rfl rfl) ?_)
                  refine L_go rfl (X_p (p_build (r := [_, _]) pl47 zr47 rfl rfl rfl) ?_)
                  refine L_go rfl (X_wr (w_slice (r := [_, _]) un43 sz47 zr47 rfl (by decide) rfl (by decide) rfl rfl) ?_)
                  rintro _ _ ⟨b4, hb4, rfl, rfl⟩
                  refine L_go rfl (X_wr (w_app (pre := [_, _, _]) (G := _) (post := []) ap43 rfl rfl rfl hgr (by rw [List.append_nil]; rfl) rfl (news_own (by repeat first | exact mH | apply mT)) (by simp [Value.oneCell']) (by omega) (by simp only [maxLen]; omega)) ?_)
                  rintro _ _ ⟨G1a, G1c, G1, rfl, rfl, hgr1⟩
                  try simp only [List.cons_append, List.nil_append, List.append_nil]
                  refine L_go rfl (X_p (p_assign rfl rfl) ?_)
                  refine L_keep (.cons (k := 2) rfl (.cons (k := 3) rfl (.cons (k := 4) rfl (.cons (k := 5) rfl (.cons (k := 10) rfl (.cons (k := 12) rfl .nil)))))) (blk_n (blk_n (then_n ?_)))
                  refine V_region rfl ?_
                  refine L_go rfl (X_p (p_move rfl rfl) ?_)
                  first | refine L_go rfl (X_p (p_add' rfl rfl rfl (by unfold InI; omega)) ?_) | refine L_go rfl (X_p (p_add rfl rfl rfl) ?_)
                  refine L_go rfl (X_p (p_assign rfl rfl) ?_)
                  refine L_keep (.cons (k := 2) rfl (.cons (k := 3) rfl (.cons (k := 4) rfl (.cons (k := 5) rfl (.cons (k := 10) rfl (.cons (k := 12) rfl .nil)))))) (then_n ?_)
                  refine ⟨(u + 1, l ++ [(u, u + 1)], n + 1, _, _, G1), ?_, ?_, (.cons rfl (.cons rfl (.cons rfl (.cons rfl (.cons rfl (.cons rfl (.nil _))))))), (by repeat (first | exact List.nil_sublist _ | exact List.Sublist.refl _ | apply List.Sublist.cons_cons | apply List.Sublist.cons | apply List.sublist_append_of_sublist_right)), rfl⟩
                  · refine ⟨by omega, by omega, ?_, by rw [List.length_append, hn]; rfl, ?_⟩
                    · have hsu := gapsN_succ (t := t) (now := now) (wd := wd) hfu
                      rw [← hl] at hsu
                      have elast : ((n : Int) - 1).toNat = l.length - 1 := by omega
                      rw [hsu, step_new (l := l) (step_bad rfl (.inr (by omega))) (by rintro ⟨h, _⟩; omega)]
                    · rw [gapV_app]; exact hgr1
                  · dsimp only; omega
            · intro g2; have g2' := g2; try simp only [td] at g2'
              refine L_no rfl rfl rfl g2 ?_
              refine L_no rfl rfl rfl g2 ?_
              refine L_no rfl rfl rfl g2 ?_
              refine L_no rfl rfl rfl g2 ?_
              refine L_go rfl (X_p (p_pick_f rfl rfl g2 rfl) ?_)
              refine L_go rfl (X_p (p_assign rfl rfl) ?_)
              refine L_then (.cons (k := 2) rfl (.cons (k := 3) rfl (.cons (k := 4) rfl (.cons (k := 5) rfl (.cons (k := 10) rfl (.cons (k := 12) rfl (.cons (k := 15) rfl (.cons (k := 62) rfl .nil)))))))) ?_
              refine V_cond_f rfl rfl ?_
              refine V_seq (V_region rfl ?_)
              refine L_go rfl (X_p (p_move rfl rfl) ?_)
              refine L_go rfl (X_p (p_geq rfl rfl rfl) ?_)
              refine L_go rfl (X_p (p_move rfl rfl) ?_)
              refine L_cases (d := 73) rfl ?_ ?_
              · intro g4; have g4' := g4; try simp only [td] at g4'
                obtain ⟨gb, cur, rfl, rfl, hcur, hcs, hgn, hgm⟩ := Grow.form2 hgr (by omega)
                refine L_yes rfl rfl rfl g4 (X_p (p_move rfl rfl) ?_)
                refine L_yes rfl rfl rfl g4 (X_p (p_move rfl rfl) ?_)
                refine L_yes rfl rfl rfl g4 (X_p (p_idxo es43 rfl rfl rfl (by omega) (by omega)) ?_)
                refine L_yes rfl rfl rfl g4 (X_p (p_fieldo fo47_1 rfl rfl) ?_)
                refine L_yes rfl rfl rfl g4 (X_rd (r_load ag3 rfl rfl (by repeat first | exact mH | apply mT) (v := .int .i64 (l.getD ((n : Int) - 1).toNat (0, 0)).2) (cur_at hcur (gapV_at (by omega)).1)) ?_)
                refine L_yes rfl rfl rfl g4 (X_p (p_move rfl rfl) ?_)
                refine L_yes rfl rfl rfl g4 (X_p (p_eql rfl rfl rfl) ?_)
                refine L_go rfl (X_p (p_pick_t rfl rfl g4 rfl) ?_)
                refine L_go rfl (X_p (p_assign rfl rfl) ?_)
                refine L_then (.cons (k := 2) rfl (.cons (k := 3) rfl (.cons (k := 4) rfl (.cons (k := 5) rfl (.cons (k := 10) rfl (.cons (k := 12) rfl (.cons (k := 15) rfl (.cons (k := 70) rfl .nil)))))))) ?_
                refine V_cond rfl ?_ ?_
                · intro c7; have c7r := c7; try simp only [td] at c7
                  refine V_region rfl ?_
                  refine L_go rfl (X_p (p_move rfl rfl) ?_)
                  refine L_go rfl (X_p (p_move rfl rfl) ?_)
                  refine L_go rfl (X_p (p_idxo es43 rfl rfl rfl (by omega) (by omega)) ?_)
                  refine L_go rfl (X_p (p_fieldo fo47_1 rfl rfl) ?_)
                  refine L_go rfl (X_rd (r_load ag3 rfl rfl (by repeat first | exact mH | apply mT) (v := .int .i64 (l.getD ((n : Int) - 1).toNat (0, 0)).2) (cur_at hcur (gapV_at (by omega)).1)) ?_)
                  first | refine L_go rfl (X_p (p_add' rfl rfl rfl (by unfold InI; omega)) ?_) | refine L_go rfl (X_p (p_add rfl rfl rfl) ?_)
                  refine L_go rfl (X_p (p_idxo es43 rfl rfl rfl (by omega) (by omega)) ?_)
                  refine L_go rfl (X_p (p_fieldo fo47_1 rfl rfl) ?_)
                  refine L_go rfl (X_wr (w_store (cs' := cur.toList.set (0 + ((n : Int) - 1).toNat * 2 + 1) (.int .i64 ((l.getD ((n : Int) - 1).toNat (0, 0)).2 + 1))) sz3 rfl rfl rfl rfl rfl (by repeat first | exact .head | apply SetAt.tail) (by rw [Array.length_toList, hcs]; omega) rfl) ?_)
                  rintro _ _ ⟨rfl, rfl⟩
                  refine L_keep (.cons (k := 2) rfl (.cons (k := 3) rfl (.cons (k := 4) rfl (.cons (k := 5) rfl (.cons (k := 10) rfl (.cons (k := 12) rfl .nil)))))) (blk_n (blk_n (then_n ?_)))
                  refine V_region rfl ?_
                  refine L_go rfl (X_p (p_move rfl rfl) ?_)
                  first | refine L_go rfl (X_p (p_add' rfl rfl rfl (by unfold InI; omega)) ?_) | refine L_go rfl (X_p (p_add rfl rfl rfl) ?_)
                  refine L_go rfl (X_p (p_assign rfl rfl) ?_)
                  refine L_keep (.cons (k := 2) rfl (.cons (k := 3) rfl (.cons (k := 4) rfl (.cons (k := 5) rfl (.cons (k := 10) rfl (.cons (k := 12) rfl .nil)))))) (then_n ?_)
                  refine ⟨(u + 1, l.set ((n : Int) - 1).toNat ((l.getD ((n : Int) - 1).toNat (0, 0)).1, u + 1), n, some ⟨gb, 0, none⟩, gc, _), ?_, ?_, (.cons rfl (.cons rfl (.cons rfl (.cons rfl (.cons rfl (.cons rfl (.nil _))))))), (by repeat (first | exact List.nil_sublist _ | exact List.Sublist.refl _ | apply List.Sublist.cons_cons | apply List.Sublist.cons | apply List.sublist_append_of_sublist_right)), rfl⟩
                  · refine ⟨by omega, by omega, ?_, by rw [List.length_set]; exact hn, ?_⟩
                    · have hsu := gapsN_succ (t := t) (now := now) (wd := wd) hfu
                      rw [← hl] at hsu
                      have elast : ((n : Int) - 1).toNat = l.length - 1 := by omega
                      rw [hsu, step_more (l := l) (step_bad rfl (.inl g2)) (by omega) (by rw [← elast]; exact c7), ← elast]
                    · rw [gapV_set l _ _ (by omega), ← c7]
                      exact grow_set hgn hgm hcs hcur (by rw [gapV_len]; omega)
                  · dsimp only; omega
                · intro c7; have c7r := c7; try simp only [td] at c7
                  refine V_region rfl ?_
                  refine L_go rfl (X_p (p_move rfl rfl) ?_)
                  refine L_go rfl (X_p (p_move rfl rfl) ?_)
                  refine L_go rfl (X_p (p_move rfl rfl) ?_)
                  first | refine L_go rfl (X_p (p_add' rfl rfl rfl (by unfold InI; omega)) ?_) | refine L_go rfl (X_p (p_add rfl rfl rfl) ?_)
                  refine L_go rfl (X_p (p_build (r := [_, _]) pl47 zr47 rfl rfl rfl) ?_)
                  refine L_go rfl (X_wr (w_slice (r := [_, _]) un43 sz47 zr47 rfl (by decide) rfl (by decide) rfl rfl) ?_)
                  rintro _ _ ⟨b4, hb4, rfl, rfl⟩
                  refine L_go rfl (X_wr (w_app (pre := [_, _, _]) (G := _) (post := []) ap43 rfl rfl rfl hgr (by rw [List.append_nil]; rfl) rfl (news_own (by repeat first | exact mH | apply mT)) (by simp [Value.oneCell']) (by omega) (by simp only [maxLen]; omega)) ?_)
                  rintro _ _ ⟨G1a, G1c, G1, rfl, rfl, hgr1⟩
                  try simp only [List.cons_append, List.nil_append, List.append_nil]
                  refine L_go rfl (X_p (p_assign rfl rfl) ?_)
                  refine L_keep (.cons (k := 2) rfl (.cons (k := 3) rfl (.cons (k := 4) rfl (.cons (k := 5) rfl (.cons (k := 10) rfl (.cons (k := 12) rfl .nil)))))) (blk_n (blk_n (then_n ?_)))
                  refine V_region rfl ?_
                  refine L_go rfl (X_p (p_move rfl rfl) ?_)
                  first | refine L_go rfl (X_p (p_add' rfl rfl rfl (by unfold InI; omega)) ?_) | refine L_go rfl (X_p (p_add rfl rfl rfl) ?_)
                  refine L_go rfl (X_p (p_assign rfl rfl) ?_)
                  refine L_keep (.cons (k := 2) rfl (.cons (k := 3) rfl (.cons (k := 4) rfl (.cons (k := 5) rfl (.cons (k := 10) rfl (.cons (k := 12) rfl .nil)))))) (then_n ?_)
                  refine ⟨(u + 1, l ++ [(u, u + 1)], n + 1, _, _, G1), ?_, ?_, (.cons rfl (.cons rfl (.cons rfl (.cons rfl (.cons rfl (.cons rfl (.nil _))))))), (by repeat (first | exact List.nil_sublist _ | exact List.Sublist.refl _ | apply List.Sublist.cons_cons | apply List.Sublist.cons | apply List.sublist_append_of_sublist_right)), rfl⟩
                  · refine ⟨by omega, by omega, ?_, by rw [List.length_append, hn]; rfl, ?_⟩
                    · have hsu := gapsN_succ (t := t) (now := now) (wd := wd) hfu
                      rw [← hl] at hsu
                      have elast : ((n : Int) - 1).toNat = l.length - 1 := by omega
                      rw [hsu, step_new (l := l) (step_bad rfl (.inl g2)) (by rintro ⟨_, h⟩; exact c7 (by rw [elast]; exact h))]
                    · rw [gapV_app]; exact hgr1
                  · dsimp only; omega
              · intro g4; have g4' := g4; try simp only [td] at g4'
                refine L_no rfl rfl rfl g4 ?_
                refine L_no rfl rfl rfl g4 ?_
                refine L_no rfl rfl rfl g4 ?_
                refine L_no rfl rfl rfl g4 ?_
                refine L_no rfl rfl rfl g4 ?_
                refine L_no rfl rfl rfl g4 ?_
                refine L_no rfl rfl rfl g4 ?_
                refine L_go rfl (X_p (p_pick_f rfl rfl g4 rfl) ?_)
                refine L_go rfl (X_p (p_assign rfl rfl) ?_)
                refine L_then (.cons (k := 2) rfl (.cons (k := 3) rfl (.cons (k := 4) rfl (.cons (k := 5) rfl (.cons (k := 10) rfl (.cons (k := 12) rfl (.cons (k := 15) rfl (.cons (k := 70) rfl .nil)))))))) ?_
                refine V_cond_f rfl rfl ?_
                refine V_region rfl ?_
                refine L_go rfl (X_p (p_move rfl rfl) ?_)
                refine L_go rfl (X_p (p_move rfl rfl) ?_)
                refine L_go rfl (X_p (p_move rfl rfl) ?_)
                first | refine L_go rfl (X_p (p_add' rfl rfl rfl (by unfold InI; omega)) ?_) | refine L_go rfl (X_p (p_add rfl rfl rfl) ?_)
                refine L_go rfl (X_p (p_build (r := [_, _]) pl47 zr47 rfl rfl rfl) ?_)
                refine L_go rfl (X_wr (w_slice (r := [_, _]) un43 sz47 zr47 rfl (by decide) rfl (by decide) rfl rfl) ?_)
                rintro _ _ ⟨b4, hb4, rfl, rfl⟩
                refine L_go rfl (X_wr (w_app (pre := [_, _, _]) (G := _) (post := []) ap43 rfl rfl rfl hgr (by rw [List.append_nil]; rfl) rfl (news_own (by repeat first | exact mH | apply mT)) (by simp [Value.oneCell']) (by omega) (by simp only [maxLen]; omega)) ?_)
                rintro _ _ ⟨G1a, G1c, G1, rfl, rfl, hgr1⟩
                try simp only [List.cons_append, List.nil_append, List.append_nil]
                refine L_go rfl (X_p (p_assign rfl rfl) ?_)
                refine L_keep (.cons (k := 2) rfl (.cons (k := 3) rfl (.cons (k := 4) rfl (.cons (k := 5) rfl (.cons (k := 10) rfl (.cons (k := 12) rfl .nil)))))) (blk_n (blk_n (then_n ?_)))
                refine V_region rfl ?_
                refine L_go rfl (X_p (p_move rfl rfl) ?_)
                first | refine L_go rfl (X_p (p_add' rfl rfl rfl (by unfold InI; omega)) ?_) | refine L_go rfl (X_p (p_add rfl rfl rfl) ?_)
                refine L_go rfl (X_p (p_assign rfl rfl) ?_)
                refine L_keep (.cons (k := 2) rfl (.cons (k := 3) rfl (.cons (k := 4) rfl (.cons (k := 5) rfl (.cons (k := 10) rfl (.cons (k := 12) rfl .nil)))))) (then_n ?_)
                refine ⟨(u + 1, l ++ [(u, u + 1)], n + 1, _, _, G1), ?_, ?_, (.cons rfl (.cons rfl (.cons rfl (.cons rfl (.cons rfl (.cons rfl (.nil _))))))), (by repeat (first | exact List.nil_sublist _ | exact List.Sublist.refl _ | apply List.Sublist.cons_cons | apply List.Sublist.cons | apply List.sublist_append_of_sublist_right)), rfl⟩
                · refine ⟨by omega, by omega, ?_, by rw [List.length_append, hn]; rfl, ?_⟩
                  · have hsu := gapsN_succ (t := t) (now := now) (wd := wd) hfu
                    rw [← hl] at hsu
                    have elast : ((n : Int) - 1).toNat = l.length - 1 := by omega
                    rw [hsu, step_new (l := l) (step_bad rfl (.inl g2)) (by rintro ⟨h, _⟩; omega)]
                  · rw [gapV_app]; exact hgr1
                · dsimp only; omega
          · intro c4; have c4r := c4; try simp only [td] at c4
            refine V_exit (then_e (then_e (blk_e rfl (then_n ?_))))
            refine V_seq (V_region rfl ?_)
            refine L_go rfl (X_p (p_move rfl rfl) ?_)
            refine L_go rfl (X_p (p_assign rfl rfl) ?_)
            refine L_go rfl (X_p (p_assign rfl rfl) ?_)
            refine L_then (.cons (k := 10) rfl (.cons (k := 11) rfl .nil)) ?_
            refine V_ret ?_
            refine Leave.nil (.tmp rfl (.tmp rfl .nil)) ?_
            have ek : u = til := by omega
            subst ek
            refine ⟨G, (by (try dsimp only); repeat (first | exact HSub.nil _ | refine HSub.take (by repeat first | exact Take.head | apply Take.tail) ?_ | exact HSub.refl _ | refine HSub.drop ?_ | refine HSub.app ?_)), [], G, rfl, .slice ga n gc, rfl, ?_, ?_⟩
            · rw [he]; rfl
            · rw [gapsL_ok he, ← hl, ← hn]; exact hgr

end Go.Proofs.Ytclbbchehjapjab
