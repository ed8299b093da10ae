/- Ytclbbchehjapjaa: Known; the reference's Width, Known, Reach. -/
import Derived.Test.YtclbbchehjapjaaT11
import Derived.Test.YtclbbchehjapjaaT
set_option linter.all false
namespace Go.Proofs.Ytclbbchehjapjaa
open Go.Vc Go.Tk
set_option maxRecDepth 100000
theorem knownR_c (t : Task) (tv pv : Value) (now : Int) (w : World) (ht : TaskR w (.agg #[.int .i64 t.frm, .int .i64 t.speed, .int .i64 t.accel, tv, pv]) t) : FnC Try.prog 25 [.agg #[.int .i64 t.frm, .int .i64 t.speed, .int .i64 t.accel, tv, pv], .int .i64 now] w fun v w' => ∃ Hc, Vc.Good w [] Hc w' ∧ ∃ A G, Hc = A ++ G ∧ ListOut 3 (knownL t now) (fun sv => .tuple #[sv, .int .i64 (askedT t [now])]) v A G := by
  have hT := ht
  refine fn_new Try.func25 rfl (by kernel_rfl) Try.ntmps25 Try.results25 rfl ?_
  refine V_seq (V_region rfl ?_)
  refine L_go rfl (X_wr (w_box rfl rfl) ?_)
  rintro _ _ ⟨b1, hb1, rfl, rfl⟩
  refine L_go rfl (X_p (p_assign rfl rfl) ?_)
  refine L_go rfl (X_p (p_assign rfl rfl) ?_)
  refine L_then (.cons (k := 1) rfl (.cons (k := 2) rfl .nil)) ?_
  refine V_seq ?_
  refine V_seq (V_region rfl ?_)
  refine L_go rfl (X_rd (r_loadA (vs := [_, _, _, _, _]) ag25 sz25 rfl rfl (by repeat first | exact mH | apply mT) rfl) ?_)
  refine L_go rfl (X_p (p_move rfl rfl) ?_)
  refine L_go rfl (X_wr (w_slice (r := [_]) un57 sz3 zr3 rfl (by decide) rfl (by decide) rfl rfl) ?_)
  rintro _ _ ⟨b2, hb2, rfl, rfl⟩
  refine L_go rfl (X_wr (w_callP rfl rfl rfl (fun w hg => asked_c t [now] _ _ w (hT.good hg) (own_ints (l := [now]) (hg.own (b2, _) (by repeat first | exact mH | apply mT)) rfl (by decide)) (by simp))) ?_)
  rintro _ _ ⟨rfl, rfl⟩
  refine L_go rfl (X_p (p_assign rfl rfl) ?_)
  refine L_then (.cons (k := 1) rfl (.cons (k := 2) rfl (.cons (k := 6) rfl .nil))) ?_
  refine V_seq (V_region rfl ?_)
  refine L_go rfl (X_p (p_move rfl rfl) ?_)
  refine L_go rfl (X_p (p_neq rfl rfl rfl) ?_)
  refine L_then (.cons (k := 1) rfl (.cons (k := 2) rfl (.cons (k := 6) rfl (.cons (k := 12) rfl .nil)))) ?_
  refine V_cond rfl ?_ ?_
  · intro c1; try simp only [td] at c1
    refine V_seq (V_region rfl ?_)
    refine L_go rfl (X_p (p_move rfl rfl) ?_)
    refine L_go rfl (X_p (p_assign rfl rfl) ?_)
    refine L_go rfl (X_p (p_assign rfl rfl) ?_)
    refine L_then (.cons (k := 4) rfl (.cons (k := 5) rfl .nil)) ?_
    refine V_ret (then_r ?_)
    refine Leave.nil (.tmp rfl (.tmp rfl .nil)) ?_
    refine ⟨[], HSub.nil _, [], [], rfl, .slice none 0 0, rfl, rfl, ?_⟩
    rw [knownL_bad c1]; exact .nil
  · intro c1; try simp only [td] at c1
    obtain ⟨hG, hn⟩ := asked_zero c1
    refine V_skip (then_n ?_)
    refine V_seq (V_region rfl ?_)
    refine L_go rfl (X_rd (r_loadA (vs := [_, _, _, _, _]) ag25 sz25 rfl rfl (by repeat first | exact mH | apply mT) rfl) ?_)
    refine L_go rfl (X_p (p_move rfl rfl) ?_)
    refine L_go rfl (X_wr (w_callG (pre := [_, _]) (post := []) rfl rfl rfl (by rw [List.append_nil]) (fun w hg => pickOf_c t hG _ _ now (fun _ => true) _ _ w (hT.good hg) (fun x w' he => all_c x w'))) ?_)
    rintro _ _ ⟨_, G, rfl, hfr, bp, bm, sv, clk, rfl, rfl, hgr⟩
    try simp only [List.cons_append, List.nil_append, List.append_nil]
    refine L_go rfl (X_p (p_nil rfl rfl) ?_)
    refine L_go rfl (X_p (p_fieldo fo109_1 rfl rfl) ?_)
    refine L_go rfl (X_rd (r_load ag57 rfl rfl (by repeat first | exact mH | apply mT) rfl) ?_)
    refine L_go rfl (X_p (p_assign rfl rfl) ?_)
    refine L_go rfl (X_p (p_assign rfl rfl) ?_)
    refine L_then (.cons (k := 4) rfl (.cons (k := 5) rfl .nil)) ?_
    refine V_ret ?_
    refine Leave.nil (.tmp rfl (.tmp rfl .nil)) ?_
    refine ⟨G, (by (try dsimp only); repeat (first | exact HSub.nil _ | refine HSub.take (by repeat first | exact Take.head | apply Take.tail) ?_ | exact HSub.refl _ | refine HSub.drop ?_ | refine HSub.app ?_)), [], G, rfl, sv, rfl, ?_, ?_⟩
    · rw [c1]; rfl
    · rw [knownL_ok c1]; exact hgr
theorem rvalid_c (t : Task) (v : Value) (w : World) (ht : TaskR w v t) : FnP Try.prog 67 [v] w (.int .i64 (checkT t).2.2) := by
  have hT := ht
  obtain ⟨tv, pv, rfl, htr, hpl⟩ := ht.ex
  obtain ⟨ta, tc, rfl, htc, hte⟩ := htr.ex
  obtain ⟨pa, pc, rfl, hpc, hpe⟩ := hpl.ex
  have hltr := hT.ltr
  have hlpl := hT.lpl
  simp only [List.length_map] at hT htc hpc ⊢
  refine fn_pure Try.func67 rfl (by kernel_rfl) Try.ntmps67 Try.results67 rfl ?_
  refine V_seq (V_region rfl ?_)
  refine L_go rfl (X_wr (w_box rfl rfl) ?_)
  rintro _ _ ⟨b1, hb1, rfl, rfl⟩
  refine L_go rfl (X_p (p_assign rfl rfl) ?_)
  refine L_then (.cons (k := 1) rfl .nil) ?_
  refine V_seq (V_region rfl ?_)
  refine L_go rfl (X_rd (r_loadA (vs := [_, _, _, _, _]) ag25 sz25 rfl rfl (by repeat first | exact mH | apply mT) rfl) ?_)
  refine L_go rfl (X_wr (w_callP rfl rfl rfl (fun w hg => rcheck_c t _ w (hT.good hg))) ?_)
  rintro _ _ ⟨rfl, rfl⟩
  refine L_go rfl (X_p (p_move rfl rfl) ?_)
  refine L_go rfl (X_p (p_ext rfl rfl rfl) ?_)
  refine L_go rfl (X_p (p_ext rfl rfl rfl) ?_)
  refine L_go rfl (X_p (p_ext rfl rfl rfl) ?_)
  refine L_go rfl (X_p (p_assign rfl rfl) ?_)
  refine L_go rfl (X_p (p_assign rfl rfl) ?_)
  refine L_go rfl (X_p (p_assign rfl rfl) ?_)
  refine L_then (.cons (k := 5) rfl .nil) ?_
  refine V_seq (V_region rfl ?_)
  refine L_go rfl (X_p (p_move rfl rfl) ?_)
  refine L_go rfl (X_p (p_assign rfl rfl) ?_)
  refine L_then (.cons (k := 2) rfl .nil) ?_
  refine V_ret ?_
  refine Leave.nil (.tmp rfl .nil) ?_
  rfl
theorem rsize_c (n : Int) (hn : -1000000000000000000 ≤ n ∧ n ≤ 1000000000000000000) (w : World) : FnP Try.prog 95 [.int .i64 n] w (.int .i64 (max n (-n))) := by
  refine fn_pure Try.func95 rfl (by kernel_rfl) Try.ntmps95 Try.results95 rfl ?_
  refine V_seq (V_region rfl ?_)
  refine L_go rfl (X_p (p_assign rfl rfl) ?_)
  refine L_then (.cons (k := 0) rfl .nil) ?_
  refine V_seq (V_region rfl ?_)
  refine L_go rfl (X_p (p_move rfl rfl) ?_)
  refine L_go rfl (X_p (p_move rfl rfl) ?_)
  first | refine L_go rfl (X_p (p_neg' rfl rfl (by unfold InI; omega)) ?_) | refine L_go rfl (X_p (p_neg rfl rfl) ?_)
  refine L_go rfl (X_p (p_max rfl rfl rfl) ?_)
  refine L_go rfl (X_p (p_assign rfl rfl) ?_)
  refine L_then (.cons (k := 2) rfl .nil) ?_
  refine V_ret ?_
  refine Leave.nil (.tmp rfl .nil) ?_
  rfl
theorem rwidth_c (t : Task) (v : Value) (w : World) (ht : TaskR w v t) (hG : GoodT t) (i : Int) (hi0 : 0 ≤ i) (hi1 : i < t.plots.length) : FnP Try.prog 68 [v, .int .i64 i] w (.int .i64 (widthT t i.toNat)) := by
  have hT := ht
  obtain ⟨tv, pv, rfl, htr, hpl⟩ := ht.ex
  obtain ⟨ta, tc, rfl, htc, hte⟩ := htr.ex
  obtain ⟨pa, pc, rfl, hpc, hpe⟩ := hpl.ex
  have hltr := hT.ltr
  have hlpl := hT.lpl
  simp only [List.length_map] at hT htc hpc ⊢
  obtain ⟨hfrm, hspd, hacc⟩ := hG.nums
  have hpl60 := hG.h2
  have htr5 := hG.h1
  have hi : i.toNat < t.plots.length := by omega
  have pb := hG.plot hi
  have tb := hG.of hi
  obtain ⟨p1, p2, p3, p4, p5, p6⟩ := pb
  obtain ⟨q1, q2, q3, q4, q5⟩ := tb
  have b1 := far_bnd hG hi
  have b2 := km_bnd hG hi
  have b3 := grow_bnd hG hi
  simp only [farT, Task.trOf, Task.pl, Task.tr, apart_size, Int.sub_zero] at p1 p2 p3 p4 p5 p6 q1 q2 q3 q4 q5 b1 b2 b3
  obtain ⟨qa, rfl, hcp⟩ := hpe i.toNat _ (getD_cells (d := plZ) (by omega))
  obtain ⟨ra, rfl, hct⟩ := hte (t.plots.getD i.toNat plZ).tracker.toNat _ (getD_cells (d := trZ) (by omega))
  refine fn_pure Try.func68 rfl (by kernel_rfl) Try.ntmps68 Try.results68 rfl ?_
  refine V_seq (V_region rfl ?_)
  refine L_go rfl (X_wr (w_box rfl rfl) ?_)
  rintro _ _ ⟨b1, hb1, rfl, rfl⟩
  refine L_go rfl (X_p (p_assign rfl rfl) ?_)
  refine L_then (.cons (k := 1) rfl (.cons (k := 2) rfl .nil)) ?_
  refine V_seq (V_region rfl ?_)
  refine L_go rfl (X_p (p_fieldo fo25_4 rfl rfl) ?_)
  refine L_go rfl (X_rd (r_load ag23 rfl rfl (by repeat first | exact mH | apply mT) rfl) ?_)
  refine L_go rfl (X_p (p_move rfl rfl) ?_)
  refine L_go rfl (X_p (p_idx es23 rfl rfl rfl (by omega) (by omega)) ?_)
  refine L_go rfl (X_rd (r_loadBA ag64 sz64 rfl rfl hcp rfl List.not_mem_nil) ?_)
  refine L_go rfl (X_wr (w_alloc zr64 rfl) ?_)
  rintro _ _ ⟨b2, hb2, rfl, rfl⟩
  refine L_go rfl (X_wr (w_store (cs' := [_, _, _, _, _]) sz64 rfl rfl rfl rfl rfl (by repeat first | exact .head | apply SetAt.tail) (Nat.le_of_ble_eq_true rfl) rfl) ?_)
  rintro _ _ ⟨rfl, rfl⟩
  refine L_then (.cons (k := 2) rfl (.cons (k := 5) rfl .nil)) ?_
  refine V_seq (V_region rfl ?_)
  refine L_go rfl (X_p (p_fieldo fo25_3 rfl rfl) ?_)
  refine L_go rfl (X_rd (r_load ag22 rfl rfl (by repeat first | exact mH | apply mT) rfl) ?_)
  refine L_go rfl (X_p (p_fieldo fo64_0 rfl rfl) ?_)
  refine L_go rfl (X_rd (r_load ag3 rfl rfl (by repeat first | exact mH | apply mT) rfl) ?_)
  refine L_go rfl (X_p (p_idx es22 rfl rfl rfl (by omega) (by omega)) ?_)
  refine L_go rfl (X_rd (r_loadBA ag44 sz44 rfl rfl hct rfl List.not_mem_nil) ?_)
  refine L_go rfl (X_wr (w_alloc zr44 rfl) ?_)
  rintro _ _ ⟨b3, hb3, rfl, rfl⟩
  refine L_go rfl (X_wr (w_store (cs' := [_, _, _, _, _, _]) sz44 rfl rfl rfl rfl rfl (by repeat first | exact .head | apply SetAt.tail) (Nat.le_of_ble_eq_true rfl) rfl) ?_)
  rintro _ _ ⟨rfl, rfl⟩
  refine L_then (.cons (k := 5) rfl (.cons (k := 6) rfl .nil)) ?_
  refine V_seq (V_draw (.rd 0 (.rd 1 (.rd 2 (.rd 3 (.rd 4 (.rd 6 (.rd 7 (.rd 8 (.rd 9 (.rd 10 (.rd 12 (.rd 13 (.wr 5 [13, 12, 10, 9, 8, 7, 6, 3, 2, 1, 0] (.wr 11 [13, 12, 9, 8, 7, 6, 4, 3, 2, 1, 0] (.wr 14 [12, 10, 9, 8, 7, 6, 4, 3, 2, 1, 0] (.rd 15 (.rd 16 .done))))))))))))))))) mixed (by kernel_rfl) rfl ?_)
  refine D_p rfl (.plain rfl) (p_fieldo fo64_2 rfl rfl) ?_
  refine D_rd rfl (.plain rfl) (r_load ag3 rfl rfl (by repeat first | exact mH | apply mT) rfl) ?_
  refine D_p rfl (.plain rfl) (p_fieldo fo44_1 rfl rfl) ?_
  refine D_rd rfl (.plain rfl) (r_load ag3 rfl rfl (by repeat first | exact mH | apply mT) rfl) ?_
  first | refine D_p rfl (.plain rfl) (p_sub' rfl rfl rfl (by unfold InI; omega)) ?_ | refine D_p rfl (.plain rfl) (p_sub rfl rfl rfl) ?_
  refine D_p rfl (.plain rfl) (p_fieldo fo64_3 rfl rfl) ?_
  refine D_rd rfl (.plain rfl) (r_load ag3 rfl rfl (by repeat first | exact mH | apply mT) rfl) ?_
  refine D_p rfl (.plain rfl) (p_fieldo fo44_2 rfl rfl) ?_
  refine D_rd rfl (.plain rfl) (r_load ag3 rfl rfl (by repeat first | exact mH | apply mT) rfl) ?_
  first | refine D_p rfl (.plain rfl) (p_sub' rfl rfl rfl (by unfold InI; omega)) ?_ | refine D_p rfl (.plain rfl) (p_sub rfl rfl rfl) ?_
  refine D_p rfl (.plain rfl) (p_fieldo fo64_4 rfl rfl) ?_
  refine D_rd rfl (.plain rfl) (r_load ag3 rfl rfl (by repeat first | exact mH | apply mT) rfl) ?_
  refine D_wr (.go (E' := [(13, _), (9, _), (7, _), (3, _), (1, _)]) rfl (.plain rfl) (w_callP rfl rfl rfl (fun w hg => rsize_c _ (by omega) w)) rfl ?_)
  rintro _ _ ⟨rfl, rfl⟩
  refine ⟨(.cons rfl (.plain rfl) (r_load ag3 rfl rfl (by repeat first | exact mH | apply mT) rfl) (.cons rfl (.plain rfl) (r_load ag3 rfl rfl (by repeat first | exact mH | apply mT) rfl) (.cons rfl (.plain rfl) (r_load ag3 rfl rfl (by repeat first | exact mH | apply mT) rfl) (.cons rfl (.plain rfl) (r_load ag3 rfl rfl (by repeat first | exact mH | apply mT) rfl) (.cons rfl (.plain rfl) (r_load ag3 rfl rfl (by repeat first | exact mH | apply mT) rfl) .nil))))), ?_⟩
  refine D_wr (.go (E' := [(13, _), (9, _), (7, _), (3, _), (1, _)]) rfl (.plain rfl) (w_callP rfl rfl rfl (fun w hg => rsize_c _ (by omega) w)) rfl ?_)
  rintro _ _ ⟨rfl, rfl⟩
  refine ⟨(.cons rfl (.plain rfl) (r_load ag3 rfl rfl (by repeat first | exact mH | apply mT) rfl) (.cons rfl (.plain rfl) (r_load ag3 rfl rfl (by repeat first | exact mH | apply mT) rfl) (.cons rfl (.plain rfl) (r_load ag3 rfl rfl (by repeat first | exact mH | apply mT) rfl) (.cons rfl (.plain rfl) (r_load ag3 rfl rfl (by repeat first | exact mH | apply mT) rfl) (.cons rfl (.plain rfl) (r_load ag3 rfl rfl (by repeat first | exact mH | apply mT) rfl) .nil))))), ?_⟩
  refine D_wr (.go (E' := [(9, _), (7, _), (3, _), (1, _)]) rfl (.plain rfl) (w_callP rfl rfl rfl (fun w hg => rsize_c _ (by omega) w)) rfl ?_)
  rintro _ _ ⟨rfl, rfl⟩
  refine ⟨(.cons rfl (.plain rfl) (r_load ag3 rfl rfl (by repeat first | exact mH | apply mT) rfl) (.cons rfl (.plain rfl) (r_load ag3 rfl rfl (by repeat first | exact mH | apply mT) rfl) (.cons rfl (.plain rfl) (r_load ag3 rfl rfl (by repeat first | exact mH | apply mT) rfl) (.cons rfl (.plain rfl) (r_load ag3 rfl rfl (by repeat first | exact mH | apply mT) rfl) .nil)))), ?_⟩
  refine D_p rfl (.plain rfl) (p_max3 rfl rfl rfl rfl) ?_
  refine D_p rfl (.plain rfl) (p_assign rfl rfl) ?_
  refine D_then (.cons (k := 6) rfl (.cons (k := 7) rfl .nil)) ?_
  refine V_seq (V_region rfl ?_)
  refine L_go rfl (X_p (p_fieldo fo44_3 rfl rfl) ?_)
  refine L_go rfl (X_rd (r_load ag3 rfl rfl (by repeat first | exact mH | apply mT) rfl) ?_)
  refine L_go rfl (X_p (p_fieldo fo44_4 rfl rfl) ?_)
  refine L_go rfl (X_rd (r_load ag3 rfl rfl (by repeat first | exact mH | apply mT) rfl) ?_)
  refine L_go rfl (X_p (p_move rfl rfl) ?_)
  first | refine L_go rfl (X_p (p_add' rfl rfl rfl (by unfold InI; omega)) ?_) | refine L_go rfl (X_p (p_add rfl rfl rfl) ?_)
  first | refine L_go rfl (X_p (p_sub' rfl rfl rfl (by unfold InI; omega)) ?_) | refine L_go rfl (X_p (p_sub rfl rfl rfl) ?_)
  first | refine L_go rfl (X_p (p_quo' rfl rfl rfl (by first | decide | omega) (by unfold InI; omega)) ?_) | refine L_go rfl (X_p (p_quo rfl rfl rfl (by first | decide | omega)) ?_)
  first | refine L_go rfl (X_p (p_mul' rfl rfl rfl (by unfold InI; omega)) ?_) | refine L_go rfl (X_p (p_mul rfl rfl rfl) ?_)
  first | refine L_go rfl (X_p (p_add' rfl rfl rfl (by unfold InI; omega)) ?_) | refine L_go rfl (X_p (p_add rfl rfl rfl) ?_)
  refine L_go rfl (X_p (p_assign rfl rfl) ?_)
  refine L_then (.cons (k := 4) rfl .nil) ?_
  refine V_ret ?_
  refine Leave.nil (.tmp rfl .nil) ?_
  show Value.int .i64 _ = _
  simp only [widthT, farT, Task.trOf, Task.pl, Task.tr, apart_size, Int.sub_zero]
theorem rknown_c (t : Task) (v : Value) (w : World) (ht : TaskR w v t) (hG : GoodT t) (i now : Int) (hi0 : 0 ≤ i) (hi1 : i < t.plots.length) : FnP Try.prog 69 [v, .int .i64 i, .int .i64 now] w (.bool (knownB t now i.toNat)) := by
  have hT := ht
  obtain ⟨tv, pv, rfl, htr, hpl⟩ := ht.ex
  obtain ⟨ta, tc, rfl, htc, hte⟩ := htr.ex
  obtain ⟨pa, pc, rfl, hpc, hpe⟩ := hpl.ex
  have hltr := hT.ltr
  have hlpl := hT.lpl
  simp only [List.length_map] at hT htc hpc ⊢
  obtain ⟨hfrm, hspd, hacc⟩ := hG.nums
  have hpl60 := hG.h2
  have htr5 := hG.h1
  have hi : i.toNat < t.plots.length := by omega
  have pb := hG.plot hi
  have tb := hG.of hi
  obtain ⟨p1, p2, p3, p4, p5, p6⟩ := pb
  obtain ⟨q1, q2, q3, q4, q5⟩ := tb
  have b1 := far_bnd hG hi
  have b2 := km_bnd hG hi
  have b3 := grow_bnd hG hi
  simp only [farT, Task.trOf, Task.pl, Task.tr, apart_size, Int.sub_zero] at p1 p2 p3 p4 p5 p6 q1 q2 q3 q4 q5 b1 b2 b3
  obtain ⟨qa, rfl, hcp⟩ := hpe i.toNat _ (getD_cells (d := plZ) (by omega))
  obtain ⟨ra, rfl, hct⟩ := hte (t.plots.getD i.toNat plZ).tracker.toNat _ (getD_cells (d := trZ) (by omega))
  refine fn_pure Try.func69 rfl (by kernel_rfl) Try.ntmps69 Try.results69 rfl ?_
  refine V_seq (V_region rfl ?_)
  refine L_go rfl (X_wr (w_box rfl rfl) ?_)
  rintro _ _ ⟨b1, hb1, rfl, rfl⟩
  refine L_go rfl (X_p (p_assign rfl rfl) ?_)
  refine L_then (.cons (k := 1) rfl (.cons (k := 2) rfl (.cons (k := 3) rfl .nil))) ?_
  refine V_seq (V_draw (.rd 0 (.rd 1 (.rd 2 (.rd 3 (.rd 4 (.rd 5 (.rd 6 (.rd 7 (.rd 8 (.rd 9 (.rd 10 (.rd 11 (.rd 12 (.rd 13 (.rd 14 (.rd 15 (.rd 16 (.rd 17 (.rd 18 (.rd 19 (.rd 20 .done))))))))))))))))))))) mixed (by kernel_rfl) rfl ?_)
  refine D_p rfl (.plain rfl) (p_fieldo fo25_4 rfl rfl) ?_
  refine D_rd rfl (.plain rfl) (r_load ag23 rfl rfl (by repeat first | exact mH | apply mT) rfl) ?_
  refine D_p rfl (.plain rfl) (p_move rfl rfl) ?_
  refine D_p rfl (.plain rfl) (p_idx es23 rfl rfl rfl (by omega) (by omega)) ?_
  refine D_p rfl (.plain rfl) (p_field fo64_1 rfl rfl) ?_
  refine D_rd rfl (.plain rfl) (r_loadB ag3 rfl rfl (hcp 1 _ rfl) List.not_mem_nil) ?_
  refine D_p rfl (.plain rfl) (p_fieldo fo25_3 rfl rfl) ?_
  refine D_rd rfl (.plain rfl) (r_load ag22 rfl rfl (by repeat first | exact mH | apply mT) rfl) ?_
  refine D_p rfl (.plain rfl) (p_fieldo fo25_4 rfl rfl) ?_
  refine D_rd rfl (.plain rfl) (r_load ag23 rfl rfl (by repeat first | exact mH | apply mT) rfl) ?_
  refine D_p rfl (.plain rfl) (p_move rfl rfl) ?_
  refine D_p rfl (.plain rfl) (p_idx es23 rfl rfl rfl (by omega) (by omega)) ?_
  refine D_p rfl (.plain rfl) (p_field fo64_0 rfl rfl) ?_
  refine D_rd rfl (.plain rfl) (r_loadB ag3 rfl rfl (hcp 0 _ rfl) List.not_mem_nil) ?_
  refine D_p rfl (.plain rfl) (p_idx es22 rfl rfl rfl (by omega) (by omega)) ?_
  refine D_p rfl (.plain rfl) (p_field fo44_5 rfl rfl) ?_
  refine D_rd rfl (.plain rfl) (r_loadB ag3 rfl rfl (hct 5 _ rfl) List.not_mem_nil) ?_
  first | refine D_p rfl (.plain rfl) (p_add' rfl rfl rfl (by unfold InI; omega)) ?_ | refine D_p rfl (.plain rfl) (p_add rfl rfl rfl) ?_
  refine D_p rfl (.plain rfl) (p_move rfl rfl) ?_
  refine D_p rfl (.plain rfl) (p_leq rfl rfl rfl) ?_
  refine D_p rfl (.plain rfl) (p_assign rfl rfl) ?_
  refine D_then (.cons (k := 6) rfl .nil) ?_
  refine V_ret ?_
  refine Leave.nil (.tmp rfl .nil) ?_
  rfl
theorem rreach_c (t : Task) (v : Value) (w : World) (ht : TaskR w v t) (hG : GoodT t) (n : Int) (hn : 0 ≤ n ∧ n ≤ 100000) : FnP Try.prog 70 [v, .int .i64 n] w (.int .i64 (reachT t n)) := by
  have hT := ht
  obtain ⟨tv, pv, rfl, htr, hpl⟩ := ht.ex
  obtain ⟨ta, tc, rfl, htc, hte⟩ := htr.ex
  obtain ⟨pa, pc, rfl, hpc, hpe⟩ := hpl.ex
  have hltr := hT.ltr
  have hlpl := hT.lpl
  simp only [List.length_map] at hT htc hpc ⊢
  obtain ⟨hfrm, hspd, hacc⟩ := hG.nums
  have hpl60 := hG.h2
  have htr5 := hG.h1
  have hb := reach_bnd hG hn
  have hcp := cap_bnd hG hn
  have hq := tdiv_bnd (b := t.accel) (by omega) (show 0 ≤ t.speed ∧ t.speed ≤ t.speed by omega)
  have h1 := mul_bnd (show 0 ≤ t.accel ∧ t.accel ≤ 1000000 by omega) (show 0 ≤ capT t n ∧ capT t n ≤ 100000 by omega)
  have h2 := mul_bnd h1 (show 0 ≤ capT t n + 1 ∧ capT t n + 1 ≤ 100001 by omega)
  have h3 := half_mul t.accel (m := capT t n)
  have h4 := Int.mul_comm (n - capT t n) t.speed
  simp only [capT] at hb hcp h1 h2 h3 h4
  refine fn_pure Try.func70 rfl (by kernel_rfl) Try.ntmps70 Try.results70 rfl ?_
  refine V_seq (V_region rfl ?_)
  refine L_go rfl (X_wr (w_box rfl rfl) ?_)
  rintro _ _ ⟨b1, hb1, rfl, rfl⟩
  refine L_go rfl (X_p (p_assign rfl rfl) ?_)
  refine L_then (.cons (k := 1) rfl (.cons (k := 2) rfl .nil)) ?_
  refine V_seq (V_region rfl ?_)
  refine L_go rfl (X_p (p_move rfl rfl) ?_)
  refine L_go rfl (X_p (p_fieldo fo25_1 rfl rfl) ?_)
  refine L_go rfl (X_rd (r_load ag3 rfl rfl (by repeat first | exact mH | apply mT) rfl) ?_)
  refine L_go rfl (X_p (p_fieldo fo25_2 rfl rfl) ?_)
  refine L_go rfl (X_rd (r_load ag3 rfl rfl (by repeat first | exact mH | apply mT) rfl) ?_)
  first | refine L_go rfl (X_p (p_quo' rfl rfl rfl (by first | decide | omega) (by unfold InI; omega)) ?_) | refine L_go rfl (X_p (p_quo rfl rfl rfl (by first | decide | omega)) ?_)
  refine L_go rfl (X_p (p_min rfl rfl rfl) ?_)
  refine L_go rfl (X_p (p_assign rfl rfl) ?_)
  refine L_then (.cons (k := 1) rfl (.cons (k := 2) rfl (.cons (k := 5) rfl .nil))) ?_
  refine V_seq (V_region rfl ?_)
  refine L_go rfl (X_p (p_fieldo fo25_2 rfl rfl) ?_)
  refine L_go rfl (X_rd (r_load ag3 rfl rfl (by repeat first | exact mH | apply mT) rfl) ?_)
  refine L_go rfl (X_p (p_move rfl rfl) ?_)
  first | refine L_go rfl (X_p (p_mul' rfl rfl rfl (by unfold InI; omega)) ?_) | refine L_go rfl (X_p (p_mul rfl rfl rfl) ?_)
  refine L_go rfl (X_p (p_move rfl rfl) ?_)
  first | refine L_go rfl (X_p (p_add' rfl rfl rfl (by unfold InI; omega)) ?_) | refine L_go rfl (X_p (p_add rfl rfl rfl) ?_)
  first | refine L_go rfl (X_p (p_mul' rfl rfl rfl (by unfold InI; omega)) ?_) | refine L_go rfl (X_p (p_mul rfl rfl rfl) ?_)
  first | refine L_go rfl (X_p (p_quo' rfl rfl rfl (by first | decide | omega) (by unfold InI; omega)) ?_) | refine L_go rfl (X_p (p_quo rfl rfl rfl (by first | decide | omega)) ?_)
  refine L_go rfl (X_p (p_fieldo fo25_1 rfl rfl) ?_)
  refine L_go rfl (X_rd (r_load ag3 rfl rfl (by repeat first | exact mH | apply mT) rfl) ?_)
  refine L_go rfl (X_p (p_move rfl rfl) ?_)
  refine L_go rfl (X_p (p_move rfl rfl) ?_)
  first | refine L_go rfl (X_p (p_sub' rfl rfl rfl (by unfold InI; omega)) ?_) | refine L_go rfl (X_p (p_sub rfl rfl rfl) ?_)
  first | refine L_go rfl (X_p (p_mul' rfl rfl rfl (by unfold InI; omega)) ?_) | refine L_go rfl (X_p (p_mul rfl rfl rfl) ?_)
  first | refine L_go rfl (X_p (p_add' rfl rfl rfl (by unfold InI; omega)) ?_) | refine L_go rfl (X_p (p_add rfl rfl rfl) ?_)
  refine L_go rfl (X_p (p_assign rfl rfl) ?_)
  refine L_then (.cons (k := 4) rfl .nil) ?_
  refine V_ret ?_
  refine Leave.nil (.tmp rfl .nil) ?_
  show Value.int .i64 _ = _
  rw [reachT_alt]; rfl
theorem rwidthR_c (t : Task) (v : Value) (w : World) (ht : TaskR w v t) (i : Int) : FnP Try.prog 24 [v, .int .i64 i] w (.tuple #[.int .i64 (widthP t i).1, .int .i64 (widthP t i).2]) := by
  have hT := ht
  obtain ⟨tv, pv, rfl, htr, hpl⟩ := ht.ex
  obtain ⟨ta, tc, rfl, htc, hte⟩ := htr.ex
  obtain ⟨pa, pc, rfl, hpc, hpe⟩ := hpl.ex
  have hltr := hT.ltr
  have hlpl := hT.lpl
  simp only [List.length_map] at hT htc hpc ⊢
  refine fn_pure Try.func24 rfl (by kernel_rfl) Try.ntmps24 Try.results24 rfl ?_
  refine V_seq (V_region rfl ?_)
  refine L_go rfl (X_wr (w_box rfl rfl) ?_)
  rintro _ _ ⟨b1, hb1, rfl, rfl⟩
  refine L_go rfl (X_p (p_assign rfl rfl) ?_)
  refine L_go rfl (X_p (p_assign rfl rfl) ?_)
  refine L_then (.cons (k := 1) rfl (.cons (k := 2) rfl .nil)) ?_
  refine V_seq (V_region rfl ?_)
  refine L_go rfl (X_rd (r_loadA (vs := [_, _, _, _, _]) ag25 sz25 rfl rfl (by repeat first | exact mH | apply mT) rfl) ?_)
  refine L_go rfl (X_wr (w_callP rfl rfl rfl (fun w hg => rvalid_c t _ w (hT.good hg))) ?_)
  rintro _ _ ⟨rfl, rfl⟩
  refine L_go rfl (X_p (p_assign rfl rfl) ?_)
  refine L_then (.cons (k := 1) rfl (.cons (k := 2) rfl (.cons (k := 6) rfl .nil))) ?_
  refine V_seq ?_
  refine V_seq (V_region rfl ?_)
  refine L_go rfl (X_p (p_move rfl rfl) ?_)
  refine L_go rfl (X_p (p_eql rfl rfl rfl) ?_)
  refine L_go rfl (X_p (p_move rfl rfl) ?_)
  refine L_cases (d := 11) rfl ?_ ?_
  · intro g1; have g1' := g1; try simp only [td] at g1'
    refine L_yes rfl rfl rfl g1 (X_p (p_move rfl rfl) ?_)
    refine L_yes rfl rfl rfl g1 (X_p (p_fieldo fo25_4 rfl rfl) ?_)
    refine L_yes rfl rfl rfl g1 (X_rd (r_load ag23 rfl rfl (by repeat first | exact mH | apply mT) rfl) ?_)
    refine L_yes rfl rfl rfl g1 (X_p (p_len isl23 rfl rfl) ?_)
    first | refine L_yes rfl rfl rfl g1 (X_p (p_sub' rfl rfl rfl (by unfold InI; omega)) ?_) | refine L_yes rfl rfl rfl g1 (X_p (p_sub rfl rfl rfl) ?_)
    refine L_yes rfl rfl rfl g1 (X_wr (w_callP rfl rfl rfl (fun w hg => rin_c _ _ _ w)) ?_)
    rintro _ _ ⟨rfl, rfl⟩
    refine L_yes rfl rfl rfl g1 (X_p (p_not rfl rfl) ?_)
    refine L_go rfl (X_p (p_pick_t rfl rfl g1 rfl) ?_)
    refine L_then (.cons (k := 1) rfl (.cons (k := 2) rfl (.cons (k := 6) rfl (.cons (k := 19) rfl .nil)))) ?_
    refine V_cond rfl ?_ ?_
    · intro c1; try simp only [td] at c1
      refine V_region rfl ?_
      refine L_go rfl (X_p (p_assign rfl rfl) ?_)
      refine L_then (.cons (k := 1) rfl (.cons (k := 2) rfl (.cons (k := 6) rfl .nil))) ?_
      refine V_seq ?_
      refine V_seq (V_region rfl ?_)
      refine L_go rfl (X_p (p_move rfl rfl) ?_)
      refine L_go rfl (X_p (p_neq rfl rfl rfl) ?_)
      refine L_then (.cons (k := 1) rfl (.cons (k := 2) rfl (.cons (k := 6) rfl (.cons (k := 21) rfl .nil)))) ?_
      refine V_cond_t rfl rfl ?_
      refine V_seq (V_region rfl ?_)
      refine L_go rfl (X_p (p_move rfl rfl) ?_)
      refine L_go rfl (X_p (p_assign rfl rfl) ?_)
      refine L_go rfl (X_p (p_assign rfl rfl) ?_)
      refine L_then (.cons (k := 4) rfl (.cons (k := 5) rfl .nil)) ?_
      refine V_ret (then_r ?_)
      refine Leave.nil (.tmp rfl (.tmp rfl .nil)) ?_
      have ea : askedT t [] = 0 := asked_ok (by assumption) rfl
      rw [widthP, if_neg (fun h => h ea), if_pos (by assumption)]; rfl
    · intro c1; try simp only [td] at c1
      refine V_skip (then_n ?_)
      refine V_seq ?_
      refine V_seq (V_region rfl ?_)
      refine L_go rfl (X_p (p_move rfl rfl) ?_)
      refine L_go rfl (X_p (p_neq rfl rfl rfl) ?_)
      refine L_then (.cons (k := 1) rfl (.cons (k := 2) rfl (.cons (k := 6) rfl (.cons (k := 21) rfl .nil)))) ?_
      refine V_cond rfl ?_ ?_
      · intro c2; try simp only [td] at c2
        exfalso; omega
      · intro c2; try simp only [td] at c2
        refine V_skip (then_n ?_)
        refine V_seq (V_region rfl ?_)
        have hz : (checkT t).2.2 = 0 := by assumption
        have hG := good_of_check hz
        have ea : askedT t [] = 0 := asked_ok hz rfl
        have ho : oP i 0 (t.plots.length - 1) = false := by assumption
        have hio := oP_in ho
        have hpl60 := hG.h2
        refine L_go rfl (X_rd (r_loadA (vs := [_, _, _, _, _]) ag25 sz25 rfl rfl (by repeat first | exact mH | apply mT) rfl) ?_)
        refine L_go rfl (X_p (p_move rfl rfl) ?_)
        refine L_go rfl (X_wr (w_callP rfl rfl rfl (fun w hg => rwidth_c t _ w (hT.good hg) hG _ (by omega) (by omega))) ?_)
        rintro _ _ ⟨rfl, rfl⟩
        refine L_go rfl (X_p (p_assign rfl rfl) ?_)
        refine L_go rfl (X_p (p_assign rfl rfl) ?_)
        refine L_then (.cons (k := 4) rfl (.cons (k := 5) rfl .nil)) ?_
        refine V_ret ?_
        refine Leave.nil (.tmp rfl (.tmp rfl .nil)) ?_
        rw [widthP, if_neg (fun h => h ea), if_neg (by rw [ho]; decide)]; rfl
  · intro g1; have g1' := g1; try simp only [td] at g1'
    refine L_no rfl rfl rfl g1 ?_
    refine L_no rfl rfl rfl g1 ?_
    refine L_no rfl rfl rfl g1 ?_
    refine L_no rfl rfl rfl g1 ?_
    refine L_no rfl rfl rfl g1 ?_
    refine L_no rfl rfl rfl g1 ?_
    refine L_no rfl rfl rfl g1 ?_
    refine L_go rfl (X_p (p_pick_f rfl rfl g1 rfl) ?_)
    refine L_then (.cons (k := 1) rfl (.cons (k := 2) rfl (.cons (k := 6) rfl (.cons (k := 19) rfl .nil)))) ?_
    refine V_cond_f rfl rfl ?_
    refine V_skip (then_n ?_)
    refine V_seq ?_
    refine V_seq (V_region rfl ?_)
    refine L_go rfl (X_p (p_move rfl rfl) ?_)
    refine L_go rfl (X_p (p_neq rfl rfl rfl) ?_)
    refine L_then (.cons (k := 1) rfl (.cons (k := 2) rfl (.cons (k := 6) rfl (.cons (k := 21) rfl .nil)))) ?_
    refine V_cond rfl ?_ ?_
    · intro c3; try simp only [td] at c3
      refine V_seq (V_region rfl ?_)
      refine L_go rfl (X_p (p_move rfl rfl) ?_)
      refine L_go rfl (X_p (p_assign rfl rfl) ?_)
      refine L_go rfl (X_p (p_assign rfl rfl) ?_)
      refine L_then (.cons (k := 4) rfl (.cons (k := 5) rfl .nil)) ?_
      refine V_ret (then_r ?_)
      refine Leave.nil (.tmp rfl (.tmp rfl .nil)) ?_
      have ea : askedT t [] = (checkT t).2.2 := asked_bad (by assumption)
      rw [widthP, if_pos (by rw [ea]; assumption), ea]; rfl
    · intro c3; try simp only [td] at c3
      exfalso; omega
theorem rreachR_c (t : Task) (v : Value) (w : World) (ht : TaskR w v t) (n : Int) : FnP Try.prog 28 [v, .int .i64 n] w (.tuple #[.int .i64 (reachP t n).1, .int .i64 (reachP t n).2]) := by
  have hT := ht
  obtain ⟨tv, pv, rfl, htr, hpl⟩ := ht.ex
  obtain ⟨ta, tc, rfl, htc, hte⟩ := htr.ex
  obtain ⟨pa, pc, rfl, hpc, hpe⟩ := hpl.ex
  have hltr := hT.ltr
  have hlpl := hT.lpl
  simp only [List.length_map] at hT htc hpc ⊢
  refine fn_pure Try.func28 rfl (by kernel_rfl) Try.ntmps28 Try.results28 rfl ?_
  refine V_seq (V_region rfl ?_)
  refine L_go rfl (X_wr (w_box rfl rfl) ?_)
  rintro _ _ ⟨b1, hb1, rfl, rfl⟩
  refine L_go rfl (X_p (p_assign rfl rfl) ?_)
  refine L_go rfl (X_p (p_assign rfl rfl) ?_)
  refine L_then (.cons (k := 1) rfl (.cons (k := 2) rfl .nil)) ?_
  refine V_seq (V_region rfl ?_)
  refine L_go rfl (X_rd (r_loadA (vs := [_, _, _, _, _]) ag25 sz25 rfl rfl (by repeat first | exact mH | apply mT) rfl) ?_)
  refine L_go rfl (X_wr (w_callP rfl rfl rfl (fun w hg => rvalid_c t _ w (hT.good hg))) ?_)
  rintro _ _ ⟨rfl, rfl⟩
  refine L_go rfl (X_p (p_assign rfl rfl) ?_)
  refine L_then (.cons (k := 1) rfl (.cons (k := 2) rfl (.cons (k := 6) rfl .nil))) ?_
  refine V_seq ?_
  refine V_seq (V_region rfl ?_)
  refine L_go rfl (X_p (p_move rfl rfl) ?_)
  refine L_go rfl (X_p (p_eql rfl rfl rfl) ?_)
  refine L_go rfl (X_p (p_move rfl rfl) ?_)
  refine L_cases (d := 11) rfl ?_ ?_
  · intro g1; have g1' := g1; try simp only [td] at g1'
    refine L_yes rfl rfl rfl g1 (X_p (p_move rfl rfl) ?_)
    refine L_yes rfl rfl rfl g1 (X_wr (w_callP rfl rfl rfl (fun w hg => rtick_c _ w)) ?_)
    rintro _ _ ⟨rfl, rfl⟩
    refine L_yes rfl rfl rfl g1 (X_p (p_not rfl rfl) ?_)
    refine L_go rfl (X_p (p_pick_t rfl rfl g1 rfl) ?_)
    refine L_then (.cons (k := 1) rfl (.cons (k := 2) rfl (.cons (k := 6) rfl (.cons (k := 15) rfl .nil)))) ?_
    refine V_cond rfl ?_ ?_
    · intro c1; try simp only [td] at c1
      refine V_region rfl ?_
      refine L_go rfl (X_p (p_assign rfl rfl) ?_)
      refine L_then (.cons (k := 1) rfl (.cons (k := 2) rfl (.cons (k := 6) rfl .nil))) ?_
      refine V_seq ?_
      refine V_seq (V_region rfl ?_)
      refine L_go rfl (X_p (p_move rfl rfl) ?_)
      refine L_go rfl (X_p (p_neq rfl rfl rfl) ?_)
      refine L_then (.cons (k := 1) rfl (.cons (k := 2) rfl (.cons (k := 6) rfl (.cons (k := 17) rfl .nil)))) ?_
      refine V_cond_t rfl rfl ?_
      refine V_seq (V_region rfl ?_)
      refine L_go rfl (X_p (p_move rfl rfl) ?_)
      refine L_go rfl (X_p (p_assign rfl rfl) ?_)
      refine L_go rfl (X_p (p_assign rfl rfl) ?_)
      refine L_then (.cons (k := 4) rfl (.cons (k := 5) rfl .nil)) ?_
      refine V_ret (then_r ?_)
      refine Leave.nil (.tmp rfl (.tmp rfl .nil)) ?_
      have ea : askedT t [n] = 7 := asked_any (by assumption) (by simp [*])
      rw [reachP, if_pos (by rw [ea]; decide), ea]; rfl
    · intro c1; try simp only [td] at c1
      refine V_skip (then_n ?_)
      refine V_seq ?_
      refine V_seq (V_region rfl ?_)
      refine L_go rfl (X_p (p_move rfl rfl) ?_)
      refine L_go rfl (X_p (p_neq rfl rfl rfl) ?_)
      refine L_then (.cons (k := 1) rfl (.cons (k := 2) rfl (.cons (k := 6) rfl (.cons (k := 17) rfl .nil)))) ?_
      refine V_cond rfl ?_ ?_
      · intro c2; try simp only [td] at c2
        exfalso; omega
      · intro c2; try simp only [td] at c2
        refine V_skip (then_n ?_)
        refine V_seq (V_region rfl ?_)
        have hz : (checkT t).2.2 = 0 := by assumption
        have hG := good_of_check hz
        have ho : oP n 0 100000 = false := by assumption
        have hio := oP_in ho
        have ea : askedT t [n] = 0 := asked_ok hz (by simp [ho])
        refine L_go rfl (X_rd (r_loadA (vs := [_, _, _, _, _]) ag25 sz25 rfl rfl (by repeat first | exact mH | apply mT) rfl) ?_)
        refine L_go rfl (X_p (p_move rfl rfl) ?_)
        refine L_go rfl (X_wr (w_callP rfl rfl rfl (fun w hg => rreach_c t _ w (hT.good hg) hG _ (by omega))) ?_)
        rintro _ _ ⟨rfl, rfl⟩
        refine L_go rfl (X_p (p_assign rfl rfl) ?_)
        refine L_go rfl (X_p (p_assign rfl rfl) ?_)
        refine L_then (.cons (k := 4) rfl (.cons (k := 5) rfl .nil)) ?_
        refine V_ret ?_
        refine Leave.nil (.tmp rfl (.tmp rfl .nil)) ?_
        rw [reachP, if_neg (fun h => h ea)]; rfl
  · intro g1; have g1' := g1; try simp only [td] at g1'
    refine L_no rfl rfl rfl g1 ?_
    refine L_no rfl rfl rfl g1 ?_
    refine L_no rfl rfl rfl g1 ?_
    refine L_go rfl (X_p (p_pick_f rfl rfl g1 rfl) ?_)
    refine L_then (.cons (k := 1) rfl (.cons (k := 2) rfl (.cons (k := 6) rfl (.cons (k := 15) rfl .nil)))) ?_
    refine V_cond_f rfl rfl ?_
    refine V_skip (then_n ?_)
    refine V_seq ?_
    refine V_seq (V_region rfl ?_)
    refine L_go rfl (X_p (p_move rfl rfl) ?_)
    refine L_go rfl (X_p (p_neq rfl rfl rfl) ?_)
    refine L_then (.cons (k := 1) rfl (.cons (k := 2) rfl (.cons (k := 6) rfl (.cons (k := 17) rfl .nil)))) ?_
    refine V_cond rfl ?_ ?_
    · intro c3; try simp only [td] at c3
      refine V_seq (V_region rfl ?_)
      refine L_go rfl (X_p (p_move rfl rfl) ?_)
      refine L_go rfl (X_p (p_assign rfl rfl) ?_)
      refine L_go rfl (X_p (p_assign rfl rfl) ?_)
      refine L_then (.cons (k := 4) rfl (.cons (k := 5) rfl .nil)) ?_
      refine V_ret (then_r ?_)
      refine Leave.nil (.tmp rfl (.tmp rfl .nil)) ?_
      have ea : askedT t [n] = (checkT t).2.2 := asked_bad (by assumption)
      rw [reachP, if_pos (by rw [ea]; assumption), ea]; rfl
    · intro c3; try simp only [td] at c3
      exfalso; omega
theorem rknownR_c (t : Task) (v : Value) (w : World) (ht : TaskR w v t) (now : Int) : FnC Try.prog 26 [v, .int .i64 now] w fun v w' => ∃ Hc, Vc.Good w [] Hc w' ∧ ∃ A G, Hc = A ++ G ∧ ListOut 3 (knownL t now) (fun sv => .tuple #[sv, .int .i64 (askedT t [now])]) v A G := by
  have hT := ht
  obtain ⟨tv, pv, rfl, htr, hpl⟩ := ht.ex
  obtain ⟨ta, tc, rfl, htc, hte⟩ := htr.ex
  obtain ⟨pa, pc, rfl, hpc, hpe⟩ := hpl.ex
  have hltr := hT.ltr
  have hlpl := hT.lpl
  simp only [List.length_map] at hT htc hpc ⊢
  refine fn_new Try.func26 rfl (by kernel_rfl) Try.ntmps26 Try.results26 rfl ?_
  refine V_seq (V_region rfl ?_)
  refine L_go rfl (X_wr (w_box rfl rfl) ?_)
  rintro _ _ ⟨b1, hb1, rfl, rfl⟩
  refine L_go rfl (X_p (p_assign rfl rfl) ?_)
  refine L_go rfl (X_p (p_assign rfl rfl) ?_)
  refine L_then (.cons (k := 1) rfl (.cons (k := 2) rfl .nil)) ?_
  refine V_seq (V_region rfl ?_)
  refine L_go rfl (X_rd (r_loadA (vs := [_, _, _, _, _]) ag25 sz25 rfl rfl (by repeat first | exact mH | apply mT) rfl) ?_)
  refine L_go rfl (X_wr (w_callP rfl rfl rfl (fun w hg => rvalid_c t _ w (hT.good hg))) ?_)
  rintro _ _ ⟨rfl, rfl⟩
  refine L_go rfl (X_p (p_assign rfl rfl) ?_)
  refine L_then (.cons (k := 1) rfl (.cons (k := 2) rfl (.cons (k := 6) rfl .nil))) ?_
  refine V_seq ?_
  refine V_seq (V_region rfl ?_)
  refine L_go rfl (X_p (p_move rfl rfl) ?_)
  refine L_go rfl (X_p (p_eql rfl rfl rfl) ?_)
  refine L_go rfl (X_p (p_move rfl rfl) ?_)
  refine L_cases (d := 13) rfl ?_ ?_
  · intro g1; have g1' := g1; try simp only [td] at g1'
    refine L_yes rfl rfl rfl g1 (X_p (p_move rfl rfl) ?_)
    refine L_yes rfl rfl rfl g1 (X_wr (w_callP rfl rfl rfl (fun w hg => rtick_c _ w)) ?_)
    rintro _ _ ⟨rfl, rfl⟩
    refine L_yes rfl rfl rfl g1 (X_p (p_not rfl rfl) ?_)
    refine L_go rfl (X_p (p_pick_t rfl rfl g1 rfl) ?_)
    refine L_then (.cons (k := 1) rfl (.cons (k := 2) rfl (.cons (k := 6) rfl (.cons (k := 17) rfl .nil)))) ?_
    refine V_cond rfl ?_ ?_
    · intro c1; try simp only [td] at c1
      refine V_region rfl ?_
      refine L_go rfl (X_p (p_assign rfl rfl) ?_)
      refine L_then (.cons (k := 1) rfl (.cons (k := 2) rfl (.cons (k := 6) rfl .nil))) ?_
      refine V_seq ?_
      refine V_seq (V_region rfl ?_)
      refine L_go rfl (X_p (p_move rfl rfl) ?_)
      refine L_go rfl (X_p (p_neq rfl rfl rfl) ?_)
      refine L_then (.cons (k := 1) rfl (.cons (k := 2) rfl (.cons (k := 6) rfl (.cons (k := 19) rfl .nil)))) ?_
      refine V_cond_t rfl rfl ?_
      refine V_seq (V_region rfl ?_)
      refine L_go rfl (X_p (p_move rfl rfl) ?_)
      refine L_go rfl (X_p (p_assign rfl rfl) ?_)
      refine L_go rfl (X_p (p_assign rfl rfl) ?_)
      refine L_then (.cons (k := 4) rfl (.cons (k := 5) rfl .nil)) ?_
      refine V_ret (then_r ?_)
      refine Leave.nil (.tmp rfl (.tmp rfl .nil)) ?_
      have ea : askedT t [now] = 7 := asked_any (by assumption) (by simp [*])
      refine ⟨[], HSub.nil _, [], [], rfl, .slice none 0 0, rfl, ?_, ?_⟩
      · rw [ea]; rfl
      · rw [knownL_bad (by rw [ea]; first | assumption | decide)]; exact .nil
    · intro c1; try simp only [td] at c1
      refine V_skip (then_n ?_)
      refine V_seq ?_
      refine V_seq (V_region rfl ?_)
      refine L_go rfl (X_p (p_move rfl rfl) ?_)
      refine L_go rfl (X_p (p_neq rfl rfl rfl) ?_)
      refine L_then (.cons (k := 1) rfl (.cons (k := 2) rfl (.cons (k := 6) rfl (.cons (k := 19) rfl .nil)))) ?_
      refine V_cond rfl ?_ ?_
      · intro c2; try simp only [td] at c2
        exfalso; omega
      · intro c2; try simp only [td] at c2
        refine V_skip (then_n ?_)
        refine V_seq (V_region rfl ?_)
        have hz : (checkT t).2.2 = 0 := by assumption
        have hG := good_of_check hz
        have ho : oP now 0 100000 = false := by assumption
        have hio := oP_in ho
        have ea : askedT t [now] = 0 := asked_ok hz (by simp [ho])
        have hpl60 := hG.h2
        refine L_go rfl (X_p (p_assign rfl rfl) ?_)
        refine L_then (.cons (k := 1) rfl (.cons (k := 2) rfl (.cons (k := 7) rfl .nil))) ?_
        refine V_seq ?_
        refine V_seq (V_region rfl ?_)
        refine L_go rfl (X_p (p_assign rfl rfl) ?_)
        refine L_then (.cons (k := 1) rfl (.cons (k := 2) rfl (.cons (k := 7) rfl (.cons (k := 8) rfl .nil)))) ?_
        refine V_block ?_
        refine V_loop1 (γ := Int × Value × Heap) (.cons (k := 1) rfl (.cons (k := 2) rfl .nil)) (fun (k, sv, G) => [(8, .int .i64 k), (7, sv)]) (fun (k, sv, G) => (b1, t.obj (.slice ta t.trackers.length tc) (.slice pa t.plots.length pc) 25) :: G) (fun (k, sv, G) => 0 ≤ k ∧ k ≤ t.plots.length ∧ Grow 3 1 sv (knownN t now k.toNat).length (iiL (knownN t now k.toNat)) G) (fun (k, sv, G) => (t.plots.length - k).toNat) ((0, .slice none 0 0, [])) (.cons rfl (.cons rfl (.nil _))) (by repeat (first | exact List.Sublist.refl _ | apply List.Sublist.cons_cons | apply List.Sublist.cons)) (⟨by omega, by omega, .nil⟩) ?_
        rintro ⟨k, sv, G⟩ hi
        obtain ⟨hk0, hk1, hgr⟩ := hi
        have hkl := knownN_len (t := t) (now := now) k.toNat
        refine V_seq ?_
        refine V_seq (V_region rfl ?_)
        refine L_go rfl (X_p (p_move rfl rfl) ?_)
        refine L_go rfl (X_p (p_fieldo fo25_4 rfl rfl) ?_)
        refine L_go rfl (X_rd (r_load ag23 rfl rfl (by repeat first | exact mH | apply mT) rfl) ?_)
        refine L_go rfl (X_p (p_len isl23 rfl rfl) ?_)
        refine L_go rfl (X_p (p_lss rfl rfl rfl) ?_)
        refine L_then (.cons (k := 1) rfl (.cons (k := 2) rfl (.cons (k := 7) rfl (.cons (k := 8) rfl (.cons (k := 25) rfl .nil))))) ?_
        refine V_cond rfl ?_ ?_
        · intro c3; try simp only [td] at c3
          refine V_skip (then_n ?_)
          refine V_seq ?_
          refine V_block ?_
          refine V_seq (V_region rfl ?_)
          refine L_go rfl (X_rd (r_loadA (vs := [_, _, _, _, _]) ag25 sz25 rfl rfl (by repeat first | exact mH | apply mT) rfl) ?_)
          refine L_go rfl (X_p (p_move rfl rfl) ?_)
          refine L_go rfl (X_p (p_move rfl rfl) ?_)
          refine L_go rfl (X_wr (w_callP rfl rfl rfl (fun w hg => rknown_c t _ w (hT.good hg) hG _ _ (by omega) (by omega))) ?_)
          rintro _ _ ⟨rfl, rfl⟩
          refine L_then (.cons (k := 1) rfl (.cons (k := 2) rfl (.cons (k := 7) rfl (.cons (k := 8) rfl (.cons (k := 31) rfl .nil))))) ?_
          refine V_cond rfl ?_ ?_
          · intro c4; try simp only [td] at c4
            refine V_region rfl ?_
            refine L_go rfl (X_p (p_move rfl rfl) ?_)
            refine L_go rfl (X_p (p_move rfl rfl) ?_)
            refine L_go rfl (X_wr (w_slice (r := [_]) un57 sz3 zr3 rfl (by decide) rfl (by decide) rfl rfl) ?_)
            rintro _ _ ⟨b2, hb2, rfl, rfl⟩
            refine L_go rfl (X_wr (w_app (pre := [_, _]) (G := G) (post := []) ap57 rfl rfl rfl hgr (by rw [List.append_nil]; rfl) rfl (news_own (by repeat first | exact mH | apply mT)) (by simp [Value.oneCell']) (by omega) (by simp only [maxLen]; omega)) ?_)
            rintro _ _ ⟨G1a, G1c, G1, rfl, rfl, hgr1⟩
            try simp only [List.cons_append, List.nil_append, List.append_nil]
            refine L_go rfl (X_p (p_assign rfl rfl) ?_)
            refine L_keep (.cons (k := 1) rfl (.cons (k := 2) rfl (.cons (k := 7) rfl (.cons (k := 8) rfl .nil)))) (blk_n (then_n ?_))
            refine V_region rfl ?_
            refine L_go rfl (X_p (p_move rfl rfl) ?_)
            first | refine L_go rfl (X_p (p_add' rfl rfl rfl (by unfold InI; omega)) ?_) | refine L_go rfl (X_p (p_add rfl rfl rfl) ?_)
            refine L_go rfl (X_p (p_assign rfl rfl) ?_)
            refine L_keep (.cons (k := 1) rfl (.cons (k := 2) rfl (.cons (k := 7) rfl (.cons (k := 8) rfl .nil)))) (then_n ?_)
            refine ⟨(k + 1, _, G1), ?_, ?_, (.cons rfl (.cons rfl (.cons rfl (.cons rfl (.nil _))))), (by repeat (first | exact List.Sublist.refl _ | apply List.Sublist.cons_cons | apply List.Sublist.cons | apply List.sublist_append_of_sublist_right)), rfl⟩
            · refine ⟨by omega, by omega, ?_⟩
              rw [knownN_yes hk0 (by assumption), List.length_append, iiL, List.map_append]; exact hgr1
            · dsimp only; omega
          · intro c4; try simp only [td] at c4
            refine V_skip (blk_n (then_n ?_))
            refine V_region rfl ?_
            refine L_go rfl (X_p (p_move rfl rfl) ?_)
            first | refine L_go rfl (X_p (p_add' rfl rfl rfl (by unfold InI; omega)) ?_) | refine L_go rfl (X_p (p_add rfl rfl rfl) ?_)
            refine L_go rfl (X_p (p_assign rfl rfl) ?_)
            refine L_keep (.cons (k := 1) rfl (.cons (k := 2) rfl (.cons (k := 7) rfl (.cons (k := 8) rfl .nil)))) (then_n ?_)
            refine ⟨(k + 1, sv, G), ?_, ?_, (.cons rfl (.cons rfl (.cons rfl (.cons rfl (.nil _))))), (by repeat (first | exact List.Sublist.refl _ | apply List.Sublist.cons_cons | apply List.Sublist.cons | apply List.sublist_append_of_sublist_right)), rfl⟩
            · refine ⟨by omega, by omega, ?_⟩
              rw [knownN_no hk0 (by assumption)]; exact hgr
            · dsimp only; omega
        · intro c3; try simp only [td] at c3
          refine V_exit (then_e (then_e (blk_e rfl (then_n ?_))))
          refine V_seq (V_region rfl ?_)
          refine L_go rfl (X_p (p_move rfl rfl) ?_)
          refine L_go rfl (X_p (p_assign rfl rfl) ?_)
          refine L_go rfl (X_p (p_assign rfl rfl) ?_)
          refine L_then (.cons (k := 4) rfl (.cons (k := 5) rfl .nil)) ?_
          refine V_ret ?_
          refine Leave.nil (.tmp rfl (.tmp rfl .nil)) ?_
          have ek : k.toNat = t.plots.length := by omega
          rw [ek] at hgr
          refine ⟨G, (by (try dsimp only); repeat (first | exact HSub.nil _ | refine HSub.take (by repeat first | exact Take.head | apply Take.tail) ?_ | exact HSub.refl _ | refine HSub.drop ?_ | refine HSub.app ?_)), [], G, rfl, sv, rfl, ?_, ?_⟩
          · rw [ea]; rfl
          · rw [knownL_ok ea, byT_all]; exact hgr
  · intro g1; have g1' := g1; try simp only [td] at g1'
    refine L_no rfl rfl rfl g1 ?_
    refine L_no rfl rfl rfl g1 ?_
    refine L_no rfl rfl rfl g1 ?_
    refine L_go rfl (X_p (p_pick_f rfl rfl g1 rfl) ?_)
    refine L_then (.cons (k := 1) rfl (.cons (k := 2) rfl (.cons (k := 6) rfl (.cons (k := 17) rfl .nil)))) ?_
    refine V_cond_f rfl rfl ?_
    refine V_skip (then_n ?_)
    refine V_seq ?_
    refine V_seq (V_region rfl ?_)
    refine L_go rfl (X_p (p_move rfl rfl) ?_)
    refine L_go rfl (X_p (p_neq rfl rfl rfl) ?_)
    refine L_then (.cons (k := 1) rfl (.cons (k := 2) rfl (.cons (k := 6) rfl (.cons (k := 19) rfl .nil)))) ?_
    refine V_cond rfl ?_ ?_
    · intro c5; try simp only [td] at c5
      refine V_seq (V_region rfl ?_)
      refine L_go rfl (X_p (p_move rfl rfl) ?_)
      refine L_go rfl (X_p (p_assign rfl rfl) ?_)
      refine L_go rfl (X_p (p_assign rfl rfl) ?_)
      refine L_then (.cons (k := 4) rfl (.cons (k := 5) rfl .nil)) ?_
      refine V_ret (then_r ?_)
      refine Leave.nil (.tmp rfl (.tmp rfl .nil)) ?_
      have ea : askedT t [now] = (checkT t).2.2 := asked_bad (by assumption)
      refine ⟨[], HSub.nil _, [], [], rfl, .slice none 0 0, rfl, ?_, ?_⟩
      · rw [ea]; rfl
      · rw [knownL_bad (by rw [ea]; first | assumption | decide)]; exact .nil
    · intro c5; try simp only [td] at c5
      exfalso; omega
theorem ints_c (a b : List Int) (va vb : Value) (w : World) (ha : SliceR w 1 va (a.map fun n => [Value.int .i64 n])) (hb : SliceR w 1 vb (b.map fun n => [Value.int .i64 n])) (hl : (a.length : Int) ≤ 9223372036854775806) (hl2 : (b.length : Int) ≤ 9223372036854775806) : FnP Try.prog 27 [va, vb] w (.bool (decide (a = b))) := by
  obtain ⟨aa, ca, rfl, hca, hae⟩ := ha.ex
  obtain ⟨ab, cb, rfl, hcb, hbe⟩ := hb.ex
  simp only [List.length_map] at hca hcb ⊢
  refine fn_pure Try.func27 rfl (by kernel_rfl) Try.ntmps27 Try.results27 rfl ?_
  refine V_seq (V_region rfl ?_)
  refine L_go rfl (X_p (p_assign rfl rfl) ?_)
  refine L_then (.cons (k := 0) rfl (.cons (k := 1) rfl .nil)) ?_
  refine V_seq ?_
  refine V_seq (V_region rfl ?_)
  refine L_go rfl (X_p (p_move rfl rfl) ?_)
  refine L_go rfl (X_p (p_len isl57 rfl rfl) ?_)
  refine L_go rfl (X_p (p_move rfl rfl) ?_)
  refine L_go rfl (X_p (p_len isl57 rfl rfl) ?_)
  refine L_go rfl (X_p (p_neq rfl rfl rfl) ?_)
  refine L_then (.cons (k := 0) rfl (.cons (k := 1) rfl (.cons (k := 10) rfl .nil))) ?_
  refine V_cond rfl ?_ ?_
  · intro c1; try simp only [td] at c1
    refine V_seq (V_region rfl ?_)
    refine L_go rfl (X_p (p_assign rfl rfl) ?_)
    refine L_then (.cons (k := 4) rfl .nil) ?_
    refine V_ret (then_r ?_)
    refine Leave.nil (.tmp rfl .nil) ?_
    have e : decide (a = b) = false := decide_eq_false (by rintro rfl; omega)
    rw [e]; rfl
  · intro c1; try simp only [td] at c1
    refine V_skip (then_n ?_)
    refine V_seq ?_
    refine V_seq (V_region rfl ?_)
    refine L_go rfl (X_p (p_assign rfl rfl) ?_)
    refine L_then (.cons (k := 0) rfl (.cons (k := 1) rfl (.cons (k := 5) rfl .nil))) ?_
    refine V_block ?_
    refine V_loop0 (γ := Int) (.cons (k := 0) rfl (.cons (k := 1) rfl .nil)) (fun k => [(5, .int .i64 k)]) (fun k => 0 ≤ k ∧ k ≤ a.length ∧ ∀ j : Nat, (j : Int) < k → a.getD j 0 = b.getD j 0) (fun k => (a.length - k).toNat) (0) (.cons rfl (.nil _)) (⟨by omega, by omega, fun j hj => by omega⟩) ?_
    rintro k hi
    obtain ⟨hk0, hk1, hkp⟩ := hi
    refine V_seq ?_
    refine V_seq (V_region rfl ?_)
    refine L_go rfl (X_p (p_move rfl rfl) ?_)
    refine L_go rfl (X_p (p_move rfl rfl) ?_)
    refine L_go rfl (X_p (p_len isl57 rfl rfl) ?_)
    refine L_go rfl (X_p (p_lss rfl rfl rfl) ?_)
    refine L_then (.cons (k := 0) rfl (.cons (k := 1) rfl (.cons (k := 5) rfl (.cons (k := 14) rfl .nil)))) ?_
    refine V_cond rfl ?_ ?_
    · intro c2; try simp only [td] at c2
      obtain ⟨xa, rfl, hxa⟩ := hae k.toNat _ (getD_cells (f := fun n : Int => [Value.int .i64 n]) (d := 0) (by omega))
      obtain ⟨xb, rfl, hxb⟩ := hbe k.toNat _ (getD_cells (f := fun n : Int => [Value.int .i64 n]) (d := 0) (by omega))
      refine V_skip (then_n ?_)
      refine V_seq ?_
      refine V_block ?_
      refine V_seq (V_draw (.rd 0 (.rd 1 (.rd 2 (.rd 3 (.rd 4 (.rd 5 (.rd 6 (.rd 7 (.rd 8 .done))))))))) mixed (by kernel_rfl) rfl ?_)
      refine D_p rfl (.plain rfl) (p_move rfl rfl) ?_
      refine D_p rfl (.plain rfl) (p_move rfl rfl) ?_
      refine D_p rfl (.plain rfl) (p_idx es57 rfl rfl rfl (by omega) (by omega)) ?_
      refine D_rd rfl (.plain rfl) (r_loadB ag3 rfl rfl (hxa.zero) List.not_mem_nil) ?_
      refine D_p rfl (.plain rfl) (p_move rfl rfl) ?_
      refine D_p rfl (.plain rfl) (p_move rfl rfl) ?_
      refine D_p rfl (.plain rfl) (p_idx es57 rfl rfl rfl (by omega) (by omega)) ?_
      refine D_rd rfl (.plain rfl) (r_loadB ag3 rfl rfl (hxb.zero) List.not_mem_nil) ?_
      refine D_p rfl (.plain rfl) (p_neq rfl rfl rfl) ?_
      refine D_then (.cons (k := 0) rfl (.cons (k := 1) rfl (.cons (k := 5) rfl (.cons (k := 25) rfl .nil)))) ?_
      refine V_cond rfl ?_ ?_
      · intro c3; try simp only [td] at c3
        refine V_seq (V_region rfl ?_)
        refine L_go rfl (X_p (p_assign rfl rfl) ?_)
        refine L_then (.cons (k := 4) rfl .nil) ?_
        refine V_ret (blk_r (then_r (then_r (blk_r (then_r ?_)))))
        refine Leave.nil (.tmp rfl .nil) ?_
        rw [ints_ne c3]; rfl
      · intro c3; try simp only [td] at c3
        refine V_skip (blk_n (then_n ?_))
        refine V_region rfl ?_
        refine L_go rfl (X_p (p_move rfl rfl) ?_)
        first | refine L_go rfl (X_p (p_add' rfl rfl rfl (by unfold InI; omega)) ?_) | refine L_go rfl (X_p (p_add rfl rfl rfl) ?_)
        refine L_go rfl (X_p (p_assign rfl rfl) ?_)
        refine L_keep (.cons (k := 0) rfl (.cons (k := 1) rfl (.cons (k := 5) rfl .nil))) (then_n ?_)
        refine ⟨k + 1, ?_, ?_, (.cons rfl (.cons rfl (.cons rfl (.nil _)))), (by repeat (first | exact List.Sublist.refl _ | apply List.Sublist.cons_cons | apply List.Sublist.cons | apply List.sublist_append_of_sublist_right)), rfl⟩
        · refine ⟨by omega, by omega, fun j hj => ?_⟩; by_cases e : (j : Int) < k
          · exact hkp j e
          · have ej : j = k.toNat := by omega
            rw [ej]; exact c3
        · omega
    · intro c2; try simp only [td] at c2
      refine V_exit (then_e (then_e (blk_e rfl (then_n ?_))))
      refine V_seq (V_region rfl ?_)
      refine L_go rfl (X_p (p_assign rfl rfl) ?_)
      refine L_then (.cons (k := 4) rfl .nil) ?_
      refine V_ret ?_
      refine Leave.nil (.tmp rfl .nil) ?_
      have e : a = b := ints_eq (by omega) (fun j hj => hkp j (by omega))
      rw [decide_eq_true e]; rfl
theorem ints_same (a : List Int) (va vb : Value) (w : World) (ha : SliceR w 1 va (a.map fun n => [Value.int .i64 n])) (hb : SliceR w 1 vb (a.map fun n => [Value.int .i64 n])) (hl : (a.length : Int) ≤ 9223372036854775806) : FnP Try.prog 27 [va, vb] w (.bool true) := by
  have h := ints_c a a va vb w ha hb hl hl
  rwa [decide_eq_true rfl] at h

end Go.Proofs.Ytclbbchehjapjaa
