/- Ytclbbchehjapjab: the exported functions of package track. -/
import Derived.Test.YtclbbchehjapjabT10
set_option linter.all false
namespace Go.Proofs.Ytclbbchehjapjab
open Go.Vc Go.Tk
set_option maxRecDepth 100000
theorem where_c (t : Task) (tv pv : Value) (u now : Int) (w : World) (ht : TaskR w (.agg #[.int .i64 t.frm, .int .i64 t.speed, .int .i64 t.accel, tv, pv]) t) : FnP Try.prog 9 [.agg #[.int .i64 t.frm, .int .i64 t.speed, .int .i64 t.accel, tv, pv], .int .i64 u, .int .i64 now] w (whereT t u now) := by
  have hT := ht
  refine fn_pure Try.func9 rfl (by kernel_rfl) Try.ntmps9 Try.results9 rfl ?_
  refine V_seq (V_region rfl ?_)
  refine L_go rfl (X_wr (w_box rfl rfl) ?_)
  rintro _ _ ⟨b1, hb1, rfl, rfl⟩
  refine L_go rfl (X_wr (w_alloc zr34 rfl) ?_)
  rintro _ _ ⟨b2, hb2, rfl, rfl⟩
  refine L_go rfl (X_p (p_assign rfl rfl) ?_)
  refine L_then (.cons (k := 1) rfl (.cons (k := 2) rfl (.cons (k := 3) rfl (.cons (k := 6) rfl .nil)))) ?_
  refine V_seq ?_
  refine V_seq (V_region rfl ?_)
  refine L_go rfl (X_rd (r_loadA (vs := [_, _, _, _, _]) ag25 sz25 rfl rfl (by repeat first | exact mH | apply mT) rfl) ?_)
  refine L_go rfl (X_p (p_move rfl rfl) ?_)
  refine L_go rfl (X_p (p_move rfl rfl) ?_)
  refine L_go rfl (X_wr (w_slice (r := [_, _]) un27 sz3 zr3 rfl (by decide) rfl (by decide) rfl rfl) ?_)
  rintro _ _ ⟨b3, hb3, rfl, rfl⟩
  refine L_go rfl (X_wr (w_callP rfl rfl rfl (fun w hg => asked_c t [u, now] _ _ w (hT.good hg) (own_ints (l := [u, now]) (hg.own (b3, _) (by repeat first | exact mH | apply mT)) rfl (by decide)) (by simp))) ?_)
  rintro _ _ ⟨rfl, rfl⟩
  refine L_go rfl (X_p (p_assign rfl rfl) ?_)
  refine L_then (.cons (k := 1) rfl (.cons (k := 2) rfl (.cons (k := 3) rfl (.cons (k := 6) rfl (.cons (k := 8) rfl .nil))))) ?_
  refine V_seq (V_region rfl ?_)
  refine L_go rfl (X_p (p_move rfl rfl) ?_)
  refine L_go rfl (X_p (p_neq rfl rfl rfl) ?_)
  refine L_then (.cons (k := 1) rfl (.cons (k := 2) rfl (.cons (k := 3) rfl (.cons (k := 6) rfl (.cons (k := 8) rfl (.cons (k := 15) rfl .nil)))))) ?_
  refine V_cond rfl ?_ ?_
  · intro c1; try simp only [td] at c1
    refine V_seq (V_region rfl ?_)
    refine L_go rfl (X_p (p_build (r := [_, _, _, _, _, _, _, _, _, _, _, _, _]) pl34 zr34 rfl rfl rfl) ?_)
    refine L_go rfl (X_p (p_move rfl rfl) ?_)
    refine L_go rfl (X_wr (w_store (cs' := [_, _, _, _, _, _, _, _, _, _, _, _, _]) sz34 rfl rfl rfl rfl rfl (by repeat first | exact .head | apply SetAt.tail) (Nat.le_of_ble_eq_true rfl) rfl) ?_)
    rintro _ _ ⟨rfl, rfl⟩
    refine L_go rfl (X_p (p_assign rfl rfl) ?_)
    refine L_then (.cons (k := 6) rfl (.cons (k := 7) rfl .nil)) ?_
    refine V_ret (then_r ?_)
    refine Leave.nil (.cellA (us := [_, _, _, _, _, _, _, _, _, _, _, _, _]) rfl ag34 sz34 (by repeat first | exact mH | apply mT) rfl (.tmp rfl .nil)) ?_
    rw [whereT, if_pos c1]; rfl
  · intro c1; try simp only [td] at c1
    obtain ⟨hG, hn⟩ := asked_zero c1
    refine V_skip (then_n ?_)
    refine V_seq (V_region rfl ?_)
    refine L_go rfl (X_rd (r_loadA (vs := [_, _, _, _, _]) ag25 sz25 rfl rfl (by repeat first | exact mH | apply mT) rfl) ?_)
    refine L_go rfl (X_p (p_move rfl rfl) ?_)
    refine L_go rfl (X_wr (w_callG (pre := [_, _, _]) (post := []) rfl rfl rfl (by rw [List.append_nil]) (fun w hg => pickOf_c t hG _ _ now (fun _ => true) _ _ w (hT.good hg) (fun x w' he => all_c x w'))) ?_)
    rintro _ _ ⟨_, G, rfl, hfr, bp, bm, sv, clk, rfl, rfl, hgr⟩
    try simp only [List.cons_append, List.nil_append, List.append_nil]
    refine L_go rfl (X_p (p_move rfl rfl) ?_)
    refine L_go rfl (X_wr (w_callM rfl rfl rfl (fun o' => (by repeat first | exact .head | apply SetAt.tail)) (fun w hg => box_c bp bm #[] clk t _ u (hn u (.head _)) w (PickR.own hg hG hT (hfr _ (.tail _ (.head _))) (by repeat first | exact mH | apply mT) (by repeat first | exact mH | apply mT) (fun p hp => by repeat first | exact hp | exact List.mem_append_left _ hp | apply List.mem_append_right | apply mT) hgr) (Cache.nil _ _) (hg.own (bm, _) (by repeat first | exact mH | apply mT)))) ?_)
    rintro _ _ ⟨_, rfl, rfl, es2, clk2, rfl, _⟩
    refine L_go rfl (X_p (p_ext rfl rfl rfl) ?_)
    refine L_go rfl (X_p (p_ext rfl rfl rfl) ?_)
    refine L_go rfl (X_wr (w_callP rfl rfl rfl (fun w hg => found_c _ w)) ?_)
    rintro _ _ ⟨rfl, rfl⟩
    refine L_go rfl (X_p (p_ext rfl rfl rfl) ?_)
    refine L_go rfl (X_p (p_ext rfl rfl rfl) ?_)
    refine L_go rfl (X_wr (w_store (cs' := [_, _, _, _, _, _, _, _, _, _, _, _, _]) sz34 rfl rfl rfl rfl rfl (by repeat first | exact .head | apply SetAt.tail) (Nat.le_of_ble_eq_true rfl) rfl) ?_)
    rintro _ _ ⟨rfl, rfl⟩
    refine L_go rfl (X_p (p_assign rfl rfl) ?_)
    refine L_then (.cons (k := 6) rfl (.cons (k := 7) rfl .nil)) ?_
    refine V_ret ?_
    refine Leave.nil (.cellA (us := [_, _, _, _, _, _, _, _, _, _, _, _, _]) rfl ag34 sz34 (by repeat first | exact mH | apply mT) rfl (.tmp rfl .nil)) ?_
    have e : whereT t u now = foundT (boxT t (byT t now fun _ => true) u) := if_neg (fun h => h c1)
    rw [e]; rfl
theorem spareR_c (t : Task) (tv pv : Value) (u now : Int) (w : World) (ht : TaskR w (.agg #[.int .i64 t.frm, .int .i64 t.speed, .int .i64 t.accel, tv, pv]) t) : FnP Try.prog 11 [.agg #[.int .i64 t.frm, .int .i64 t.speed, .int .i64 t.accel, tv, pv], .int .i64 u, .int .i64 now] w (spareR t u now) := by
  have hT := ht
  refine fn_pure Try.func11 rfl (by kernel_rfl) Try.ntmps11 Try.results11 rfl ?_
  refine V_seq (V_region rfl ?_)
  refine L_go rfl (X_wr (w_box rfl rfl) ?_)
  rintro _ _ ⟨b1, hb1, rfl, rfl⟩
  refine L_go rfl (X_wr (w_alloc zr34 rfl) ?_)
  rintro _ _ ⟨b2, hb2, rfl, rfl⟩
  refine L_go rfl (X_p (p_assign rfl rfl) ?_)
  refine L_then (.cons (k := 1) rfl (.cons (k := 2) rfl (.cons (k := 3) rfl (.cons (k := 6) rfl .nil)))) ?_
  refine V_seq ?_
  refine V_seq (V_region rfl ?_)
  refine L_go rfl (X_rd (r_loadA (vs := [_, _, _, _, _]) ag25 sz25 rfl rfl (by repeat first | exact mH | apply mT) rfl) ?_)
  refine L_go rfl (X_p (p_move rfl rfl) ?_)
  refine L_go rfl (X_p (p_move rfl rfl) ?_)
  refine L_go rfl (X_wr (w_slice (r := [_, _]) un27 sz3 zr3 rfl (by decide) rfl (by decide) rfl rfl) ?_)
  rintro _ _ ⟨b3, hb3, rfl, rfl⟩
  refine L_go rfl (X_wr (w_callP rfl rfl rfl (fun w hg => asked_c t [u, now] _ _ w (hT.good hg) (own_ints (l := [u, now]) (hg.own (b3, _) (by repeat first | exact mH | apply mT)) rfl (by decide)) (by simp))) ?_)
  rintro _ _ ⟨rfl, rfl⟩
  refine L_go rfl (X_p (p_assign rfl rfl) ?_)
  refine L_then (.cons (k := 1) rfl (.cons (k := 2) rfl (.cons (k := 3) rfl (.cons (k := 6) rfl (.cons (k := 8) rfl .nil))))) ?_
  refine V_seq (V_region rfl ?_)
  refine L_go rfl (X_p (p_move rfl rfl) ?_)
  refine L_go rfl (X_p (p_neq rfl rfl rfl) ?_)
  refine L_then (.cons (k := 1) rfl (.cons (k := 2) rfl (.cons (k := 3) rfl (.cons (k := 6) rfl (.cons (k := 8) rfl (.cons (k := 15) rfl .nil)))))) ?_
  refine V_cond rfl ?_ ?_
  · intro c1; try simp only [td] at c1
    refine V_seq (V_region rfl ?_)
    refine L_go rfl (X_p (p_build (r := [_, _, _, _, _, _, _, _, _, _, _, _, _]) pl34 zr34 rfl rfl rfl) ?_)
    refine L_go rfl (X_p (p_move rfl rfl) ?_)
    refine L_go rfl (X_wr (w_store (cs' := [_, _, _, _, _, _, _, _, _, _, _, _, _]) sz34 rfl rfl rfl rfl rfl (by repeat first | exact .head | apply SetAt.tail) (Nat.le_of_ble_eq_true rfl) rfl) ?_)
    rintro _ _ ⟨rfl, rfl⟩
    refine L_go rfl (X_p (p_assign rfl rfl) ?_)
    refine L_then (.cons (k := 6) rfl (.cons (k := 7) rfl .nil)) ?_
    refine V_ret (then_r ?_)
    refine Leave.nil (.cellA (us := [_, _, _, _, _, _, _, _, _, _, _, _, _]) rfl ag34 sz34 (by repeat first | exact mH | apply mT) rfl (.tmp rfl .nil)) ?_
    rw [spareR, if_pos c1]; rfl
  · intro c1; try simp only [td] at c1
    obtain ⟨hG, hn⟩ := asked_zero c1
    refine V_skip (then_n ?_)
    refine V_seq (V_region rfl ?_)
    refine L_go rfl (X_rd (r_loadA (vs := [_, _, _, _, _]) ag25 sz25 rfl rfl (by repeat first | exact mH | apply mT) rfl) ?_)
    refine L_go rfl (X_p (p_move rfl rfl) ?_)
    refine L_go rfl (X_p (p_move rfl rfl) ?_)
    refine L_go rfl (X_wr (w_callP rfl rfl rfl (fun w hg => spare_c t hG _ _ u now (hn u (.head _)) w (hT.good hg))) ?_)
    rintro _ _ ⟨rfl, rfl⟩
    refine L_go rfl (X_p (p_ext rfl rfl rfl) ?_)
    refine L_go rfl (X_p (p_ext rfl rfl rfl) ?_)
    refine L_go rfl (X_wr (w_callP rfl rfl rfl (fun w hg => found_c _ w)) ?_)
    rintro _ _ ⟨rfl, rfl⟩
    refine L_go rfl (X_p (p_ext rfl rfl rfl) ?_)
    refine L_go rfl (X_p (p_ext rfl rfl rfl) ?_)
    refine L_go rfl (X_wr (w_store (cs' := [_, _, _, _, _, _, _, _, _, _, _, _, _]) sz34 rfl rfl rfl rfl rfl (by repeat first | exact .head | apply SetAt.tail) (Nat.le_of_ble_eq_true rfl) rfl) ?_)
    rintro _ _ ⟨rfl, rfl⟩
    refine L_go rfl (X_p (p_assign rfl rfl) ?_)
    refine L_then (.cons (k := 6) rfl (.cons (k := 7) rfl .nil)) ?_
    refine V_ret ?_
    refine Leave.nil (.cellA (us := [_, _, _, _, _, _, _, _, _, _, _, _, _]) rfl ag34 sz34 (by repeat first | exact mH | apply mT) rfl (.tmp rfl .nil)) ?_
    have e : spareR t u now = foundT (spareT t u now) := if_neg (fun h => h c1)
    rw [e]; rfl
theorem reachR_c (t : Task) (tv pv : Value) (n : Int) (w : World) (ht : TaskR w (.agg #[.int .i64 t.frm, .int .i64 t.speed, .int .i64 t.accel, tv, pv]) t) : FnP Try.prog 28 [.agg #[.int .i64 t.frm, .int .i64 t.speed, .int .i64 t.accel, tv, pv], .int .i64 n] w (reachR t n) := by
  have hT := ht
  refine fn_pure Try.func28 rfl (by kernel_rfl) Try.ntmps28 Try.results28 rfl ?_
  refine V_seq (V_region rfl ?_)
  refine L_go rfl (X_wr (w_box rfl rfl) ?_)
  rintro _ _ ⟨b1, hb1, rfl, rfl⟩
  refine L_go rfl (X_p (p_assign rfl rfl) ?_)
  refine L_go rfl (X_p (p_assign rfl rfl) ?_)
  refine L_then (.cons (k := 1) rfl (.cons (k := 2) rfl .nil)) ?_
  refine V_seq ?_
  refine V_seq (V_region rfl ?_)
  refine L_go rfl (X_rd (r_loadA (vs := [_, _, _, _, _]) ag25 sz25 rfl rfl (by repeat first | exact mH | apply mT) rfl) ?_)
  refine L_go rfl (X_p (p_move rfl rfl) ?_)
  refine L_go rfl (X_wr (w_slice (r := [_]) un27 sz3 zr3 rfl (by decide) rfl (by decide) rfl rfl) ?_)
  rintro _ _ ⟨b2, hb2, rfl, rfl⟩
  refine L_go rfl (X_wr (w_callP rfl rfl rfl (fun w hg => asked_c t [n] _ _ w (hT.good hg) (own_ints (l := [n]) (hg.own (b2, _) (by repeat first | exact mH | apply mT)) rfl (by decide)) (by simp))) ?_)
  rintro _ _ ⟨rfl, rfl⟩
  refine L_go rfl (X_p (p_assign rfl rfl) ?_)
  refine L_then (.cons (k := 1) rfl (.cons (k := 2) rfl (.cons (k := 6) rfl .nil))) ?_
  refine V_seq (V_region rfl ?_)
  refine L_go rfl (X_p (p_move rfl rfl) ?_)
  refine L_go rfl (X_p (p_neq rfl rfl rfl) ?_)
  refine L_then (.cons (k := 1) rfl (.cons (k := 2) rfl (.cons (k := 6) rfl (.cons (k := 12) rfl .nil)))) ?_
  refine V_cond rfl ?_ ?_
  · intro c1; try simp only [td] at c1
    refine V_seq (V_region rfl ?_)
    refine L_go rfl (X_p (p_move rfl rfl) ?_)
    refine L_go rfl (X_p (p_assign rfl rfl) ?_)
    refine L_go rfl (X_p (p_assign rfl rfl) ?_)
    refine L_then (.cons (k := 4) rfl (.cons (k := 5) rfl .nil)) ?_
    refine V_ret (then_r ?_)
    refine Leave.nil (.tmp rfl (.tmp rfl .nil)) ?_
    rw [reachR, if_pos c1]; rfl
  · intro c1; try simp only [td] at c1
    obtain ⟨hG, hn⟩ := asked_zero c1
    refine V_skip (then_n ?_)
    refine V_seq (V_region rfl ?_)
    refine L_go rfl (X_rd (r_loadA (vs := [_, _, _, _, _]) ag25 sz25 rfl rfl (by repeat first | exact mH | apply mT) rfl) ?_)
    refine L_go rfl (X_p (p_build (r := [_, _, _, _, _, _, _]) pl120 zr120 rfl rfl rfl) ?_)
    refine L_go rfl (X_wr (w_box rfl rfl) ?_)
    rintro _ _ ⟨b3, hb3, rfl, rfl⟩
    refine L_go rfl (X_p (p_move rfl rfl) ?_)
    refine L_go rfl (X_wr (w_callP rfl rfl rfl (fun w hg => reach_c b3 _ _ t [] w (PickR.box hg hG hT (by repeat first | exact mH | apply mT)) n (hn n (.head _)))) ?_)
    rintro _ _ ⟨rfl, rfl⟩
    refine L_go rfl (X_p (p_assign rfl rfl) ?_)
    refine L_go rfl (X_p (p_assign rfl rfl) ?_)
    refine L_then (.cons (k := 4) rfl (.cons (k := 5) rfl .nil)) ?_
    refine V_ret ?_
    refine Leave.nil (.tmp rfl (.tmp rfl .nil)) ?_
    rw [reachR, if_neg (fun h => h c1)]; rfl
theorem widthR_c (t : Task) (tv pv : Value) (i : Int) (w : World) (ht : TaskR w (.agg #[.int .i64 t.frm, .int .i64 t.speed, .int .i64 t.accel, tv, pv]) t) : FnP Try.prog 26 [.agg #[.int .i64 t.frm, .int .i64 t.speed, .int .i64 t.accel, tv, pv], .int .i64 i] w (widthR t i) := by
  have hT := ht
  obtain ⟨_, _, _, htr, hpl⟩ := ht.lit
  obtain ⟨pa, pc, rfl, hpc, hpe⟩ := hpl.ex
  have hlp := ht.lpl
  simp only [List.length_map] at hT hpc ⊢
  refine fn_pure Try.func26 rfl (by kernel_rfl) Try.ntmps26 Try.results26 rfl ?_
  refine V_seq (V_region rfl ?_)
  refine L_go rfl (X_wr (w_box rfl rfl) ?_)
  rintro _ _ ⟨b1, hb1, rfl, rfl⟩
  refine L_go rfl (X_p (p_assign rfl rfl) ?_)
  refine L_go rfl (X_p (p_assign rfl rfl) ?_)
  refine L_then (.cons (k := 1) rfl (.cons (k := 2) rfl .nil)) ?_
  refine V_seq ?_
  refine V_seq (V_region rfl ?_)
  refine L_go rfl (X_rd (r_loadA (vs := [_, _, _, _, _]) ag25 sz25 rfl rfl (by repeat first | exact mH | apply mT) rfl) ?_)
  refine L_go rfl (X_wr (w_callP rfl rfl rfl (fun w hg => asked_c t [] _ _ w (hT.good hg) (SliceR.nil _ _) (by simp))) ?_)
  rintro _ _ ⟨rfl, rfl⟩
  refine L_go rfl (X_p (p_assign rfl rfl) ?_)
  refine L_then (.cons (k := 1) rfl (.cons (k := 2) rfl (.cons (k := 6) rfl .nil))) ?_
  refine V_seq (V_region rfl ?_)
  refine L_go rfl (X_p (p_move rfl rfl) ?_)
  refine L_go rfl (X_p (p_neq rfl rfl rfl) ?_)
  refine L_then (.cons (k := 1) rfl (.cons (k := 2) rfl (.cons (k := 6) rfl (.cons (k := 10) rfl .nil)))) ?_
  refine V_cond rfl ?_ ?_
  · intro c1; try simp only [td] at c1
    refine V_seq (V_region rfl ?_)
    refine L_go rfl (X_p (p_move rfl rfl) ?_)
    refine L_go rfl (X_p (p_assign rfl rfl) ?_)
    refine L_go rfl (X_p (p_assign rfl rfl) ?_)
    refine L_then (.cons (k := 4) rfl (.cons (k := 5) rfl .nil)) ?_
    refine V_ret (then_r ?_)
    refine Leave.nil (.tmp rfl (.tmp rfl .nil)) ?_
    rw [widthR, if_pos c1]; rfl
  · intro c1; try simp only [td] at c1
    obtain ⟨hG, hn⟩ := asked_zero c1
    have hpl2 := hG.h2
    refine V_skip (then_n ?_)
    refine V_seq ?_
    refine V_seq (V_region rfl ?_)
    refine L_go rfl (X_p (p_move rfl rfl) ?_)
    refine L_go rfl (X_p (p_fieldo fo25_4 rfl rfl) ?_)
    refine L_go rfl (X_rd (r_load ag23 rfl rfl (by repeat first | exact mH | apply mT) rfl) ?_)
    refine L_go rfl (X_p (p_len isl23 rfl rfl) ?_)
    first | refine L_go rfl (X_p (p_sub' rfl rfl rfl (by unfold InI; omega)) ?_) | refine L_go rfl (X_p (p_sub rfl rfl rfl) ?_)
    refine L_go rfl (X_wr (w_callP rfl rfl rfl (fun w hg => out_c _ _ _ w)) ?_)
    rintro _ _ ⟨rfl, rfl⟩
    refine L_then (.cons (k := 1) rfl (.cons (k := 2) rfl (.cons (k := 17) rfl .nil))) ?_
    refine V_cond rfl ?_ ?_
    · intro c2; try simp only [td] at c2
      refine V_seq (V_region rfl ?_)
      refine L_go rfl (X_p (p_assign rfl rfl) ?_)
      refine L_go rfl (X_p (p_assign rfl rfl) ?_)
      refine L_then (.cons (k := 4) rfl (.cons (k := 5) rfl .nil)) ?_
      refine V_ret (then_r ?_)
      refine Leave.nil (.tmp rfl (.tmp rfl .nil)) ?_
      rw [widthR, if_neg (fun h => h c1), if_pos c2]; rfl
    · intro c2; try simp only [td] at c2
      have hio := oP_in c2
      refine V_skip (then_n ?_)
      refine V_seq (V_region rfl ?_)
      refine L_go rfl (X_rd (r_loadA (vs := [_, _, _, _, _]) ag25 sz25 rfl rfl (by repeat first | exact mH | apply mT) rfl) ?_)
      refine L_go rfl (X_p (p_build (r := [_, _, _, _, _, _, _]) pl120 zr120 rfl rfl rfl) ?_)
      refine L_go rfl (X_wr (w_box rfl rfl) ?_)
      rintro _ _ ⟨b2, hb2, rfl, rfl⟩
      refine L_go rfl (X_p (p_move rfl rfl) ?_)
      refine L_go rfl (X_wr (w_callP rfl rfl rfl (fun w hg => width_c b2 _ _ t [] w (PickR.box hg hG hT (by repeat first | exact mH | apply mT)) i (by omega) (by omega))) ?_)
      rintro _ _ ⟨rfl, rfl⟩
      refine L_go rfl (X_p (p_assign rfl rfl) ?_)
      refine L_go rfl (X_p (p_assign rfl rfl) ?_)
      refine L_then (.cons (k := 4) rfl (.cons (k := 5) rfl .nil)) ?_
      refine V_ret ?_
      refine Leave.nil (.tmp rfl (.tmp rfl .nil)) ?_
      rw [widthR, if_neg (fun h => h c1), if_neg (by rw [c2]; decide)]; rfl
theorem bestE_c (t : Task) (tv pv : Value) (u now : Int) (w : World) (ht : TaskR w (.agg #[.int .i64 t.frm, .int .i64 t.speed, .int .i64 t.accel, tv, pv]) t) (he : askedT t [u, now] ≠ 0) : FnP Try.prog 30 [.agg #[.int .i64 t.frm, .int .i64 t.speed, .int .i64 t.accel, tv, pv], .int .i64 u, .int .i64 now] w (.tuple #[.int .i64 0, .int .i64 (askedT t [u, now])]) := by
  have hT := ht
  refine fn_pure Try.func30 rfl (by kernel_rfl) Try.ntmps30 Try.results30 rfl ?_
  refine V_seq (V_region rfl ?_)
  refine L_go rfl (X_wr (w_box rfl rfl) ?_)
  rintro _ _ ⟨b1, hb1, rfl, rfl⟩
  refine L_go rfl (X_p (p_assign rfl rfl) ?_)
  refine L_go rfl (X_p (p_assign rfl rfl) ?_)
  refine L_then (.cons (k := 1) rfl (.cons (k := 2) rfl (.cons (k := 3) rfl .nil))) ?_
  refine V_seq (V_region rfl ?_)
  refine L_go rfl (X_rd (r_loadA (vs := [_, _, _, _, _]) ag25 sz25 rfl rfl (by repeat first | exact mH | apply mT) rfl) ?_)
  refine L_go rfl (X_p (p_move rfl rfl) ?_)
  refine L_go rfl (X_p (p_move rfl rfl) ?_)
  refine L_go rfl (X_wr (w_callP rfl rfl rfl (fun w hg => (show FnP _ _ _ w (.tuple #[.agg (Box.cells boxZ).toArray, .int .i64 (askedT t [u, now])]) from (if_pos he : spareR t u now = _) ▸ spareR_c t _ _ u now w (hT.good hg)))) ?_)
  rintro _ _ ⟨rfl, rfl⟩
  refine L_go rfl (X_p (p_move rfl rfl) ?_)
  refine L_go rfl (X_p (p_ext rfl rfl rfl) ?_)
  refine L_go rfl (X_p (p_ext rfl rfl rfl) ?_)
  refine L_go rfl (X_wr (w_alloc zr34 rfl) ?_)
  rintro _ _ ⟨b2, hb2, rfl, rfl⟩
  refine L_go rfl (X_wr (w_store (cs' := [_, _, _, _, _, _, _, _, _, _, _, _, _]) sz34 rfl rfl rfl rfl rfl (by repeat first | exact .head | apply SetAt.tail) (Nat.le_of_ble_eq_true rfl) rfl) ?_)
  rintro _ _ ⟨rfl, rfl⟩
  refine L_go rfl (X_p (p_assign rfl rfl) ?_)
  refine L_then (.cons (k := 1) rfl (.cons (k := 2) rfl (.cons (k := 3) rfl (.cons (k := 8) rfl (.cons (k := 9) rfl .nil))))) ?_
  refine V_seq ?_
  refine V_seq (V_region rfl ?_)
  refine L_go rfl (X_p (p_move rfl rfl) ?_)
  refine L_go rfl (X_p (p_neq rfl rfl rfl) ?_)
  refine L_then (.cons (k := 1) rfl (.cons (k := 2) rfl (.cons (k := 3) rfl (.cons (k := 8) rfl (.cons (k := 9) rfl (.cons (k := 23) rfl .nil)))))) ?_
  refine V_cond rfl ?_ ?_
  · intro c1; try simp only [td] at c1
    refine V_seq (V_region rfl ?_)
    refine L_go rfl (X_p (p_move rfl rfl) ?_)
    refine L_go rfl (X_p (p_assign rfl rfl) ?_)
    refine L_go rfl (X_p (p_assign rfl rfl) ?_)
    refine L_then (.cons (k := 6) rfl (.cons (k := 7) rfl .nil)) ?_
    refine V_ret (then_r ?_)
    refine Leave.nil (.tmp rfl (.tmp rfl .nil)) ?_
    rfl
  · intro c1; try simp only [td] at c1
    exfalso; omega

end Go.Proofs.Ytclbbchehjapjab
