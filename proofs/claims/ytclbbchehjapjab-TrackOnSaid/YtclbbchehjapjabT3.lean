/- Ytclbbchehjapjab: rooms and picks of package track. -/
import Derived.Test.YtclbbchehjapjabT2
import Derived.Test.YtclbbchehjapjabO
set_option linter.all false
namespace Go.Proofs.Ytclbbchehjapjab
open Go.Vc Go.Tk
set_option maxRecDepth 100000
theorem apart_c (a b : Int) (ha : (-1000000000000000 ≤ a ∧ a ≤ 1000000000000000)) (hb : (-1000000000000000 ≤ b ∧ b ≤ 1000000000000000)) (w : World) : FnP Try.prog 74 [.int .i64 a, .int .i64 b] w (.int .i64 (apartI a b)) := by
  refine fn_pure Try.func74 rfl (by kernel_rfl) Try.ntmps74 Try.results74 rfl ?_
  refine V_seq (V_region rfl ?_)
  refine L_go rfl (X_p (p_assign rfl rfl) ?_)
  refine L_then (.cons (k := 0) rfl (.cons (k := 1) rfl .nil)) ?_
  refine V_seq (V_region rfl ?_)
  refine L_go rfl (X_p (p_move rfl rfl) ?_)
  refine L_go rfl (X_p (p_move rfl rfl) ?_)
  first | refine L_go rfl (X_p (p_sub' rfl rfl rfl (by unfold InI; omega)) ?_) | refine L_go rfl (X_p (p_sub rfl rfl rfl) ?_)
  refine L_go rfl (X_p (p_move rfl rfl) ?_)
  refine L_go rfl (X_p (p_move rfl rfl) ?_)
  first | refine L_go rfl (X_p (p_sub' rfl rfl rfl (by unfold InI; omega)) ?_) | refine L_go rfl (X_p (p_sub rfl rfl rfl) ?_)
  refine L_go rfl (X_p (p_max rfl rfl rfl) ?_)
  refine L_go rfl (X_p (p_assign rfl rfl) ?_)
  refine L_then (.cons (k := 4) rfl .nil) ?_
  refine V_ret ?_
  refine Leave.nil (.tmp rfl .nil) ?_
  rfl
theorem down_c (a b : Int) (hb : 0 < b) (ha : (-1000000000000000 ≤ a ∧ a ≤ 1000000000000000)) (w : World) : FnP Try.prog 87 [.int .i64 a, .int .i64 b] w (.int .i64 (a / b)) := by
  have hq := tdiv_abs hb ha
  refine fn_pure Try.func87 rfl (by kernel_rfl) Try.ntmps87 Try.results87 rfl ?_
  refine V_seq (V_region rfl ?_)
  refine L_go rfl (X_p (p_assign rfl rfl) ?_)
  refine L_then (.cons (k := 0) rfl (.cons (k := 1) rfl .nil)) ?_
  refine V_seq (V_region rfl ?_)
  refine L_go rfl (X_p (p_move rfl rfl) ?_)
  refine L_go rfl (X_p (p_move rfl rfl) ?_)
  first | refine L_go rfl (X_p (p_quo' rfl rfl rfl (by first | decide | omega) (by unfold InI; omega)) ?_) | refine L_go rfl (X_p (p_quo rfl rfl rfl (by first | decide | omega)) ?_)
  refine L_go rfl (X_p (p_assign rfl rfl) ?_)
  refine L_then (.cons (k := 0) rfl (.cons (k := 1) rfl (.cons (k := 5) rfl .nil))) ?_
  refine V_seq ?_
  refine V_seq (V_region rfl ?_)
  refine L_go rfl (X_p (p_move rfl rfl) ?_)
  refine L_go rfl (X_p (p_move rfl rfl) ?_)
  refine L_go rfl (X_p (p_rem rfl rfl rfl (by first | decide | omega)) ?_)
  refine L_go rfl (X_p (p_lss rfl rfl rfl) ?_)
  refine L_then (.cons (k := 5) rfl (.cons (k := 12) rfl .nil)) ?_
  refine V_cond rfl ?_ ?_
  · intro c1; try simp only [td] at c1
    refine V_region rfl ?_
    refine L_go rfl (X_p (p_move rfl rfl) ?_)
    first | refine L_go rfl (X_p (p_sub' rfl rfl rfl (by unfold InI; omega)) ?_) | refine L_go rfl (X_p (p_sub rfl rfl rfl) ?_)
    refine L_go rfl (X_p (p_assign rfl rfl) ?_)
    refine L_then (.cons (k := 5) rfl .nil) ?_
    refine V_seq (V_region rfl ?_)
    refine L_go rfl (X_p (p_move rfl rfl) ?_)
    refine L_go rfl (X_p (p_assign rfl rfl) ?_)
    refine L_then (.cons (k := 4) rfl .nil) ?_
    refine V_ret ?_
    refine Leave.nil (.tmp rfl .nil) ?_
    show Value.int .i64 _ = _; rw [← down_eq hb, if_pos c1]
  · intro c1; try simp only [td] at c1
    refine V_skip (then_n ?_)
    refine V_seq (V_region rfl ?_)
    refine L_go rfl (X_p (p_move rfl rfl) ?_)
    refine L_go rfl (X_p (p_assign rfl rfl) ?_)
    refine L_then (.cons (k := 4) rfl .nil) ?_
    refine V_ret ?_
    refine Leave.nil (.tmp rfl .nil) ?_
    show Value.int .i64 _ = _; rw [← down_eq hb, if_neg (by omega)]
theorem around_c (m : Int) (hm : 0 ≤ m ∧ m ≤ 1000000000000000000) (w : World) : FnP Try.prog 76 [.int .i64 m] w (.agg #[.int .i64 (-m), .int .i64 m]) := by
  refine fn_pure Try.func76 rfl (by kernel_rfl) Try.ntmps76 Try.results76 rfl ?_
  refine V_seq (V_region rfl ?_)
  refine L_go rfl (X_wr (w_alloc zr103 rfl) ?_)
  rintro _ _ ⟨b1, hb1, rfl, rfl⟩
  refine L_then (.cons (k := 0) rfl (.cons (k := 2) rfl .nil)) ?_
  refine V_seq (V_region rfl ?_)
  refine L_go rfl (X_p (p_move rfl rfl) ?_)
  first | refine L_go rfl (X_p (p_neg' rfl rfl (by unfold InI; omega)) ?_) | refine L_go rfl (X_p (p_neg rfl rfl) ?_)
  refine L_go rfl (X_p (p_move rfl rfl) ?_)
  refine L_go rfl (X_p (p_build (r := [_, _]) pl32 zr32 rfl rfl rfl) ?_)
  refine L_go rfl (X_p (p_build (r := [_, _]) pl103 zr103 rfl rfl rfl) ?_)
  refine L_go rfl (X_wr (w_store (cs' := [_, _]) sz103 rfl rfl rfl rfl rfl (by repeat first | exact .head | apply SetAt.tail) (Nat.le_of_ble_eq_true rfl) rfl) ?_)
  rintro _ _ ⟨rfl, rfl⟩
  refine L_then (.cons (k := 2) rfl .nil) ?_
  refine V_ret ?_
  refine Leave.nil (.cellA (us := [_, _]) rfl ag103 sz103 (by repeat first | exact mH | apply mT) rfl .nil) ?_
  rfl
theorem empty_c (b : Nat) (lo hi : Int) (ty : Nat) (w : World) (hb : w.heap[b]? = some (.cells #[.int .i64 lo, .int .i64 hi] ty)) : FnP Try.prog 50 [.pointer (some ⟨b, 0, none⟩)] w (.bool (Span.none ⟨lo, hi⟩)) := by
  refine fn_pure Try.func50 rfl (by kernel_rfl) Try.ntmps50 Try.results50 rfl ?_
  refine V_seq (V_region rfl ?_)
  refine L_go rfl (X_p (p_assign rfl rfl) ?_)
  refine L_then (.cons (k := 0) rfl .nil) ?_
  refine V_seq (V_draw (.rd 0 (.rd 1 (.rd 2 (.rd 3 (.rd 4 (.rd 5 (.rd 6 (.rd 7 (.rd 8 (.rd 9 (.rd 10 (.rd 11 .done)))))))))))) mixed (by kernel_rfl) rfl ?_)
  refine D_p rfl (.plain rfl) (p_move rfl rfl) ?_
  refine D_p rfl (.plain rfl) (p_nil rfl rfl) ?_
  refine D_p rfl (.plain rfl) (p_fieldo fo103_0 rfl rfl) ?_
  refine D_p rfl (.plain rfl) (p_fieldo fo32_0 rfl rfl) ?_
  refine D_rd rfl (.plain rfl) (r_loadB ag3 rfl rfl (own_cell hb _) List.not_mem_nil) ?_
  refine D_p rfl (.plain rfl) (p_move rfl rfl) ?_
  refine D_p rfl (.plain rfl) (p_nil rfl rfl) ?_
  refine D_p rfl (.plain rfl) (p_fieldo fo103_0 rfl rfl) ?_
  refine D_p rfl (.plain rfl) (p_fieldo fo32_1 rfl rfl) ?_
  refine D_rd rfl (.plain rfl) (r_loadB ag3 rfl rfl (own_cell hb _) List.not_mem_nil) ?_
  refine D_p rfl (.plain rfl) (p_gtr rfl rfl rfl) ?_
  refine D_p rfl (.plain rfl) (p_assign rfl rfl) ?_
  refine D_then (.cons (k := 2) rfl .nil) ?_
  refine V_ret ?_
  refine Leave.nil (.tmp rfl .nil) ?_
  rfl
theorem narrow_c (b : Nat) (lo hi : Int) (ty : Nat) (x y : Int) (w : World) (hb : w.heap[b]? = some (.cells #[.int .i64 lo, .int .i64 hi] ty)) : FnC Try.prog 49 [.pointer (some ⟨b, 0, none⟩), .int .i64 x, .int .i64 y] w fun v w' => ∃ o', Vc.Good w [b] [(b, o')] w' ∧ (v = .tuple #[] ∧ o' = .cells #[.int .i64 (max lo x), .int .i64 (min hi y)] ty) := by
  refine fn_mod (b := b) Try.func49 rfl (by kernel_rfl) Try.ntmps49 Try.results49 rfl hb ?_
  refine V_draw (.rd 0 (.rd 1 (.rd 2 (.rd 3 (.rd 4 (.rd 5 (.rd 6 (.rd 7 (.rd 8 (.rd 9 (.rd 10 (.rd 11 (.rd 12 (.rd 13 (.rd 14 (.rd 15 (.rd 16 (.rd 17 (.rd 18 (.wr 19 [17, 16, 15, 14, 12, 11, 10, 9, 1] (.rd 20 (.rd 21 (.rd 22 (.wr 23 [21, 20] .done)))))))))))))))))))))))) mixed (by kernel_rfl) rfl ?_
  refine D_p rfl (.plain rfl) (p_move rfl rfl) ?_
  refine D_p rfl (.plain rfl) (p_move rfl rfl) ?_
  refine D_p rfl (.plain rfl) (p_move rfl rfl) ?_
  refine D_p rfl (.plain rfl) (p_nil rfl rfl) ?_
  refine D_p rfl (.plain rfl) (p_fieldo fo103_0 rfl rfl) ?_
  refine D_p rfl (.plain rfl) (p_fieldo fo32_0 rfl rfl) ?_
  refine D_rd rfl (.plain rfl) (r_load ag3 rfl rfl (by repeat first | exact mH | apply mT) rfl) ?_
  refine D_p rfl (.plain rfl) (p_move rfl rfl) ?_
  refine D_p rfl (.plain rfl) (p_max rfl rfl rfl) ?_
  refine D_p rfl (.plain rfl) (p_move rfl rfl) ?_
  refine D_p rfl (.plain rfl) (p_nil rfl rfl) ?_
  refine D_p rfl (.plain rfl) (p_fieldo fo103_0 rfl rfl) ?_
  refine D_p rfl (.plain rfl) (p_fieldo fo32_1 rfl rfl) ?_
  refine D_rd rfl (.plain rfl) (r_load ag3 rfl rfl (by repeat first | exact mH | apply mT) rfl) ?_
  refine D_p rfl (.plain rfl) (p_move rfl rfl) ?_
  refine D_p rfl (.plain rfl) (p_min rfl rfl rfl) ?_
  refine D_p rfl (.plain rfl) (p_nil rfl rfl) ?_
  refine D_p rfl (.plain rfl) (p_fieldo fo103_0 rfl rfl) ?_
  refine D_p rfl (.plain rfl) (p_fieldo fo32_0 rfl rfl) ?_
  refine D_wr (.go (E' := []) rfl (.plain rfl) (w_store (cs' := [_, _]) sz3 rfl rfl rfl rfl rfl (by repeat first | exact .head | apply SetAt.tail) (Nat.le_of_ble_eq_true rfl) rfl) rfl ?_)
  rintro _ _ ⟨rfl, rfl⟩
  refine ⟨.nil, ?_⟩
  refine D_p rfl (.plain rfl) (p_nil rfl rfl) ?_
  refine D_p rfl (.plain rfl) (p_fieldo fo103_0 rfl rfl) ?_
  refine D_p rfl (.plain rfl) (p_fieldo fo32_1 rfl rfl) ?_
  refine D_wr (.go (E' := []) rfl (.plain rfl) (w_store (cs' := [_, _]) sz3 rfl rfl rfl rfl rfl (by repeat first | exact .head | apply SetAt.tail) (Nat.le_of_ble_eq_true rfl) rfl) rfl ?_)
  rintro _ _ ⟨rfl, rfl⟩
  refine ⟨.nil, ?_⟩
  refine D_keep .nil ?_
  refine Leave.nil .nil ?_
  exact ⟨_, (by repeat first | exact mH | apply mT), rfl, rfl⟩
theorem gone_c (b : Nat) (lo hi : Int) (ty : Nat) (x y k : Int) (hx : (-1000000000000000 ≤ x ∧ x ≤ 1000000000000000)) (hy : (-1000000000000000 ≤ y ∧ y ≤ 1000000000000000)) (hk : 0 < k) (w : World) (hb : w.heap[b]? = some (.cells #[.int .i64 lo, .int .i64 hi] ty)) : FnC Try.prog 78 [.pointer (some ⟨b, 0, none⟩), .int .i64 x, .int .i64 y, .int .i64 k] w fun v w' => ∃ o', Vc.Good w [b] [(b, o')] w' ∧ (v = .tuple #[] ∧ o' = .cells #[.int .i64 (max lo (-((-x) / k))), .int .i64 (min hi (y / k))] ty) := by
  refine fn_mod (b := b) Try.func78 rfl (by kernel_rfl) Try.ntmps78 Try.results78 rfl hb ?_
  refine V_region rfl ?_
  refine L_go rfl (X_p (p_move rfl rfl) ?_)
  refine L_go rfl (X_p (p_move rfl rfl) ?_)
  first | refine L_go rfl (X_p (p_neg' rfl rfl (by unfold InI; omega)) ?_) | refine L_go rfl (X_p (p_neg rfl rfl) ?_)
  refine L_go rfl (X_p (p_move rfl rfl) ?_)
  refine L_go rfl (X_wr (w_callP rfl rfl rfl (fun w hg => down_c _ _ hk (by omega) w)) ?_)
  rintro _ _ ⟨rfl, rfl⟩
  have hq := ediv_abs (a := -x) (A := 1000000000000000) hk (by omega)
  first | refine L_go rfl (X_p (p_neg' rfl rfl (by unfold InI; omega)) ?_) | refine L_go rfl (X_p (p_neg rfl rfl) ?_)
  refine L_go rfl (X_p (p_move rfl rfl) ?_)
  refine L_go rfl (X_p (p_move rfl rfl) ?_)
  refine L_go rfl (X_wr (w_callP rfl rfl rfl (fun w hg => down_c _ _ hk (by omega) w)) ?_)
  rintro _ _ ⟨rfl, rfl⟩
  refine L_go rfl (X_wr (w_callM rfl rfl rfl (fun o' => (by repeat first | exact .head | apply SetAt.tail)) (fun w hg => narrow_c b lo hi ty _ _ w (hg.own _ (by repeat first | exact mH | apply mT)))) ?_)
  rintro _ _ ⟨_, rfl, rfl, rfl⟩
  refine L_keep .nil ?_
  refine Leave.nil .nil ?_
  exact ⟨_, (by repeat first | exact mH | apply mT), rfl, rfl⟩
theorem part1_c (x : Plot) (w : World) : FnP Try.prog 84 [.agg (Plot.cells x).toArray] w (.int .i64 x.x) := by
  refine fn_pure Try.func84 rfl (by kernel_rfl) Try.ntmps84 Try.results84 rfl ?_
  refine V_seq (V_region rfl ?_)
  refine L_go rfl (X_wr (w_box rfl rfl) ?_)
  rintro _ _ ⟨b1, hb1, rfl, rfl⟩
  refine L_go rfl (X_p (p_assign rfl rfl) ?_)
  refine L_then (.cons (k := 1) rfl .nil) ?_
  refine V_seq (V_region rfl ?_)
  refine L_go rfl (X_p (p_fieldo fo114_2 rfl rfl) ?_)
  refine L_go rfl (X_rd (r_load ag3 rfl rfl (by repeat first | exact mH | apply mT) rfl) ?_)
  refine L_go rfl (X_p (p_assign rfl rfl) ?_)
  refine L_then (.cons (k := 2) rfl .nil) ?_
  refine V_ret ?_
  refine Leave.nil (.tmp rfl .nil) ?_
  rfl
theorem part2_c (x : Plot) (w : World) : FnP Try.prog 85 [.agg (Plot.cells x).toArray] w (.int .i64 x.y) := by
  refine fn_pure Try.func85 rfl (by kernel_rfl) Try.ntmps85 Try.results85 rfl ?_
  refine V_seq (V_region rfl ?_)
  refine L_go rfl (X_wr (w_box rfl rfl) ?_)
  rintro _ _ ⟨b1, hb1, rfl, rfl⟩
  refine L_go rfl (X_p (p_assign rfl rfl) ?_)
  refine L_then (.cons (k := 1) rfl .nil) ?_
  refine V_seq (V_region rfl ?_)
  refine L_go rfl (X_p (p_fieldo fo114_3 rfl rfl) ?_)
  refine L_go rfl (X_rd (r_load ag3 rfl rfl (by repeat first | exact mH | apply mT) rfl) ?_)
  refine L_go rfl (X_p (p_assign rfl rfl) ?_)
  refine L_then (.cons (k := 2) rfl .nil) ?_
  refine V_ret ?_
  refine Leave.nil (.tmp rfl .nil) ?_
  rfl
theorem part3_c (x : Plot) (w : World) : FnP Try.prog 86 [.agg (Plot.cells x).toArray] w (.int .i64 x.z) := by
  refine fn_pure Try.func86 rfl (by kernel_rfl) Try.ntmps86 Try.results86 rfl ?_
  refine V_seq (V_region rfl ?_)
  refine L_go rfl (X_wr (w_box rfl rfl) ?_)
  rintro _ _ ⟨b1, hb1, rfl, rfl⟩
  refine L_go rfl (X_p (p_assign rfl rfl) ?_)
  refine L_then (.cons (k := 1) rfl .nil) ?_
  refine V_seq (V_region rfl ?_)
  refine L_go rfl (X_p (p_fieldo fo114_4 rfl rfl) ?_)
  refine L_go rfl (X_rd (r_load ag3 rfl rfl (by repeat first | exact mH | apply mT) rfl) ?_)
  refine L_go rfl (X_p (p_assign rfl rfl) ?_)
  refine L_then (.cons (k := 2) rfl .nil) ?_
  refine V_ret ?_
  refine Leave.nil (.tmp rfl .nil) ?_
  rfl
def pf (k : Int) : Nat := if k = 0 then 84 else if k = 1 then 85 else 86
theorem pf_c (k : Int) (x : Plot) (w : World) : FnP Try.prog (pf k) [.agg (Plot.cells x).toArray] w (.int .i64 (partI x k)) := by
  unfold pf partI
  split
  · exact part1_c x w
  · split
    · exact part2_c x w
    · exact part3_c x w
theorem part_c (k : Int) (hk : k = 0 ∨ k = 1 ∨ k = 2) (w : World) : FnP Try.prog 77 [.int .i64 k] w (.func (.func (pf k)) #[] #[]) := by
  refine fn_pure Try.func77 rfl (by kernel_rfl) Try.ntmps77 Try.results77 rfl ?_
  refine V_seq (V_region rfl ?_)
  refine L_go rfl (X_p (p_assign rfl rfl) ?_)
  refine L_then (.cons (k := 0) rfl .nil) ?_
  refine V_seq (V_region rfl ?_)
  refine L_go rfl (X_wr (w_slice (r := [_, _, _]) un148 sz141 zr141 rfl (by decide) rfl (by decide) rfl rfl) ?_)
  rintro _ _ ⟨b1, hb1, rfl, rfl⟩
  refine L_go rfl (X_p (p_move rfl rfl) ?_)
  refine L_go rfl (X_p (p_idxo es148 rfl rfl rfl (by omega) (by omega)) ?_)
  refine L_go rfl (X_rd (r_load ag141 rfl rfl (by repeat first | exact mH | apply mT) (v := .func (.func (pf k)) #[] #[]) (by rcases hk with rfl | rfl | rfl <;> rfl)) ?_)
  refine L_go rfl (X_p (p_assign rfl rfl) ?_)
  refine L_then (.cons (k := 2) rfl .nil) ?_
  refine V_ret ?_
  refine Leave.nil (.tmp rfl .nil) ?_
  rfl
theorem reach_c (bp bm : Nat) (mv : Value) (t : Task) (ps : List Int) (w : World) (hp : PickR w bp bm mv t ps) (n : Int) (hn : 0 ≤ n ∧ n ≤ 100000) : FnP Try.prog 57 [.pointer (some ⟨bp, 0, none⟩), .int .i64 n] w (.int .i64 (reachT t n)) := by
  have hP := hp
  obtain ⟨tv, pv, sv, ty, fr, hbp, htr, hpl, hsv⟩ := hp.ex
  obtain ⟨ta, tc, rfl, htc, hte⟩ := htr.ex
  obtain ⟨pa, pc, rfl, hpc, hpe⟩ := hpl.ex
  obtain ⟨sa, sc, rfl, hsc, hse⟩ := hsv.ex
  have hG := hP.good
  obtain ⟨hfrm, hspd, hacc⟩ := hG.nums
  have hne := hP.ne
  have hpsl := hP.psl
  simp only [List.length_map] at hbp htc hpc hsc
  have hb := reach_bnd hG hn
  have hcp := cap_bnd hG hn
  have hq := tdiv_bnd (b := t.accel) (by omega) (show 0 ≤ t.speed ∧ t.speed ≤ t.speed by omega)
  simp only [capT] at hb hcp
  refine fn_pure Try.func57 rfl (by kernel_rfl) Try.ntmps57 Try.results57 rfl ?_
  refine V_seq (V_region rfl ?_)
  refine L_go rfl (X_p (p_assign rfl rfl) ?_)
  refine L_then (.cons (k := 0) rfl (.cons (k := 1) rfl .nil)) ?_
  refine V_seq (V_draw (.rd 0 (.rd 1 (.rd 2 (.rd 3 (.rd 4 (.rd 5 (.rd 6 (.rd 7 (.rd 8 (.rd 9 (.rd 10 (.rd 11 (.rd 12 (.rd 13 .done)))))))))))))) mixed (by kernel_rfl) rfl ?_)
  refine D_p rfl (.plain rfl) (p_move rfl rfl) ?_
  refine D_p rfl (.plain rfl) (p_move rfl rfl) ?_
  refine D_p rfl (.plain rfl) (p_nil rfl rfl) ?_
  refine D_p rfl (.plain rfl) (p_fieldo fo120_0 rfl rfl) ?_
  refine D_p rfl (.plain rfl) (p_fieldo fo25_1 rfl rfl) ?_
  refine D_rd rfl (.plain rfl) (r_loadB ag3 rfl rfl (own_cell hbp _) List.not_mem_nil) ?_
  refine D_p rfl (.plain rfl) (p_move rfl rfl) ?_
  refine D_p rfl (.plain rfl) (p_nil rfl rfl) ?_
  refine D_p rfl (.plain rfl) (p_fieldo fo120_0 rfl rfl) ?_
  refine D_p rfl (.plain rfl) (p_fieldo fo25_2 rfl rfl) ?_
  refine D_rd rfl (.plain rfl) (r_loadB ag3 rfl rfl (own_cell hbp _) List.not_mem_nil) ?_
  first | refine D_p rfl (.plain rfl) (p_quo' rfl rfl rfl (by first | decide | omega) (by unfold InI; omega)) ?_ | refine D_p rfl (.plain rfl) (p_quo rfl rfl rfl (by first | decide | omega)) ?_
  refine D_p rfl (.plain rfl) (p_min rfl rfl rfl) ?_
  refine D_p rfl (.plain rfl) (p_assign rfl rfl) ?_
  refine D_then (.cons (k := 0) rfl (.cons (k := 1) rfl (.cons (k := 5) rfl .nil))) ?_
  refine V_seq (V_draw (.rd 0 (.rd 1 (.rd 2 (.rd 3 (.rd 4 (.rd 5 (.rd 6 (.rd 7 (.rd 8 (.rd 9 (.rd 10 (.rd 11 (.rd 12 (.rd 13 (.rd 14 (.rd 15 (.rd 16 (.rd 17 (.rd 18 (.rd 19 (.rd 20 (.rd 21 .done)))))))))))))))))))))) mixed (by kernel_rfl) rfl ?_)
  refine D_p rfl (.plain rfl) (p_move rfl rfl) ?_
  refine D_p rfl (.plain rfl) (p_nil rfl rfl) ?_
  refine D_p rfl (.plain rfl) (p_fieldo fo120_0 rfl rfl) ?_
  refine D_p rfl (.plain rfl) (p_fieldo fo25_2 rfl rfl) ?_
  refine D_rd rfl (.plain rfl) (r_loadB ag3 rfl rfl (own_cell hbp _) List.not_mem_nil) ?_
  refine D_p rfl (.plain rfl) (p_move rfl rfl) ?_
  refine D_p rfl (.plain rfl) (p_move rfl rfl) ?_
  first | refine D_p rfl (.plain rfl) (p_add' rfl rfl rfl (by unfold InI; omega)) ?_ | refine D_p rfl (.plain rfl) (p_add rfl rfl rfl) ?_
  first | refine D_p rfl (.plain rfl) (p_mul' rfl rfl rfl (by unfold InI; omega)) ?_ | refine D_p rfl (.plain rfl) (p_mul rfl rfl rfl) ?_
  first | refine D_p rfl (.plain rfl) (p_quo' rfl rfl rfl (by first | decide | omega) (by unfold InI; omega)) ?_ | refine D_p rfl (.plain rfl) (p_quo rfl rfl rfl (by first | decide | omega)) ?_
  first | refine D_p rfl (.plain rfl) (p_mul' rfl rfl rfl (by unfold InI; omega)) ?_ | refine D_p rfl (.plain rfl) (p_mul rfl rfl rfl) ?_
  refine D_p rfl (.plain rfl) (p_move rfl rfl) ?_
  refine D_p rfl (.plain rfl) (p_move rfl rfl) ?_
  first | refine D_p rfl (.plain rfl) (p_sub' rfl rfl rfl (by unfold InI; omega)) ?_ | refine D_p rfl (.plain rfl) (p_sub rfl rfl rfl) ?_
  refine D_p rfl (.plain rfl) (p_move rfl rfl) ?_
  refine D_p rfl (.plain rfl) (p_nil rfl rfl) ?_
  refine D_p rfl (.plain rfl) (p_fieldo fo120_0 rfl rfl) ?_
  refine D_p rfl (.plain rfl) (p_fieldo fo25_1 rfl rfl) ?_
  refine D_rd rfl (.plain rfl) (r_loadB ag3 rfl rfl (own_cell hbp _) List.not_mem_nil) ?_
  first | refine D_p rfl (.plain rfl) (p_mul' rfl rfl rfl (by unfold InI; omega)) ?_ | refine D_p rfl (.plain rfl) (p_mul rfl rfl rfl) ?_
  first | refine D_p rfl (.plain rfl) (p_add' rfl rfl rfl (by unfold InI; omega)) ?_ | refine D_p rfl (.plain rfl) (p_add rfl rfl rfl) ?_
  refine D_p rfl (.plain rfl) (p_assign rfl rfl) ?_
  refine D_then (.cons (k := 4) rfl .nil) ?_
  refine V_ret ?_
  refine Leave.nil (.tmp rfl .nil) ?_
  rfl
theorem width_c (bp bm : Nat) (mv : Value) (t : Task) (ps : List Int) (w : World) (hp : PickR w bp bm mv t ps) (i : Int) (hi0 : 0 ≤ i) (hi1 : i < t.plots.length) : FnP Try.prog 56 [.pointer (some ⟨bp, 0, none⟩), .int .i64 i] w (.int .i64 (widthT t i.toNat)) := by
  have hP := hp
  obtain ⟨tv, pv, sv, ty, fr, hbp, htr, hpl, hsv⟩ := hp.ex
  obtain ⟨ta, tc, rfl, htc, hte⟩ := htr.ex
  obtain ⟨pa, pc, rfl, hpc, hpe⟩ := hpl.ex
  obtain ⟨sa, sc, rfl, hsc, hse⟩ := hsv.ex
  have hG := hP.good
  obtain ⟨hfrm, hspd, hacc⟩ := hG.nums
  have hne := hP.ne
  have hpsl := hP.psl
  simp only [List.length_map] at hbp htc hpc hsc
  have hi : i.toNat < t.plots.length := by omega
  have pb := hG.plot hi
  have tb := hG.of hi
  obtain ⟨p1, p2, p3, p4, p5, p6⟩ := pb
  obtain ⟨q1, q2, q3, q4, q5⟩ := tb
  have b1 := far_bnd hG hi
  have b2 := km_bnd hG hi
  have b3 := grow_bnd hG hi
  simp only [farT, Task.trOf, Task.pl, Task.tr] at p1 p2 p3 p4 p5 p6 q1 q2 q3 q4 q5 b1 b2 b3
  obtain ⟨qa, rfl, hqn, hcp⟩ := hpe i.toNat _ (getD_cells (d := plZ) (by omega))
  obtain ⟨ra, rfl, hrn, hct⟩ := hte (t.plots.getD i.toNat plZ).tracker.toNat _ (getD_cells (d := trZ) (by omega))
  refine fn_pure Try.func56 rfl (by kernel_rfl) Try.ntmps56 Try.results56 rfl ?_
  refine V_seq (V_region rfl ?_)
  refine L_go rfl (X_p (p_assign rfl rfl) ?_)
  refine L_then (.cons (k := 0) rfl (.cons (k := 1) rfl .nil)) ?_
  refine V_seq (V_region rfl ?_)
  refine L_go rfl (X_p (p_move rfl rfl) ?_)
  refine L_go rfl (X_p (p_nil rfl rfl) ?_)
  refine L_go rfl (X_p (p_fieldo fo120_0 rfl rfl) ?_)
  refine L_go rfl (X_p (p_fieldo fo25_4 rfl rfl) ?_)
  refine L_go rfl (X_rd (r_loadB ag23 rfl rfl (own_cell hbp _) List.not_mem_nil) ?_)
  refine L_go rfl (X_p (p_move rfl rfl) ?_)
  refine L_go rfl (X_p (p_idx es23 rfl rfl rfl (by omega) (by omega)) ?_)
  refine L_go rfl (X_rd (r_loadBA ag114 sz114 rfl rfl hcp rfl List.not_mem_nil) ?_)
  refine L_go rfl (X_wr (w_alloc zr114 rfl) ?_)
  rintro _ _ ⟨b1, hb1, rfl, rfl⟩
  refine L_go rfl (X_wr (w_store (cs' := [_, _, _, _, _]) sz114 rfl rfl rfl rfl rfl (by repeat first | exact .head | apply SetAt.tail) (Nat.le_of_ble_eq_true rfl) rfl) ?_)
  rintro _ _ ⟨rfl, rfl⟩
  refine L_then (.cons (k := 0) rfl (.cons (k := 5) rfl .nil)) ?_
  refine V_seq (V_draw (.rd 0 (.rd 1 (.rd 2 (.rd 3 (.rd 4 (.rd 5 (.rd 6 (.rd 7 (.rd 8 (.wr 9 [8, 7, 6, 5, 4, 3, 2, 1, 0] (.wr 10 [] .done))))))))))) mixed (by kernel_rfl) rfl ?_)
  refine D_p rfl (.plain rfl) (p_move rfl rfl) ?_
  refine D_p rfl (.plain rfl) (p_nil rfl rfl) ?_
  refine D_p rfl (.plain rfl) (p_fieldo fo120_0 rfl rfl) ?_
  refine D_p rfl (.plain rfl) (p_fieldo fo25_3 rfl rfl) ?_
  refine D_rd rfl (.plain rfl) (r_loadB ag22 rfl rfl (own_cell hbp _) List.not_mem_nil) ?_
  refine D_p rfl (.plain rfl) (p_fieldo fo114_0 rfl rfl) ?_
  refine D_rd rfl (.plain rfl) (r_load ag3 rfl rfl (by repeat first | exact mH | apply mT) rfl) ?_
  refine D_p rfl (.plain rfl) (p_idx es22 rfl rfl rfl (by omega) (by omega)) ?_
  refine D_rd rfl (.plain rfl) (r_loadBA ag116 sz116 rfl rfl hct rfl List.not_mem_nil) ?_
  refine D_wr (.go (E' := [(8, _), (6, _), (4, _)]) rfl (.plain rfl) (w_alloc zr116 rfl) rfl ?_)
  rintro _ _ ⟨b2, hb2, rfl, rfl⟩
  refine ⟨(.cons rfl (.plain rfl) (r_loadBA ag116 sz116 rfl rfl hct rfl List.not_mem_nil) (.cons rfl (.plain rfl) (r_load ag3 rfl rfl (by repeat first | exact mH | apply mT) rfl) (.cons rfl (.plain rfl) (r_loadB ag22 rfl rfl (own_cell hbp _) List.not_mem_nil) .nil))), ?_⟩
  refine D_wr (.go (E' := []) rfl (.plain rfl) (w_store (cs' := [_, _, _, _, _, _]) sz116 rfl rfl rfl rfl rfl (by repeat first | exact .head | apply SetAt.tail) (Nat.le_of_ble_eq_true rfl) rfl) rfl ?_)
  rintro _ _ ⟨rfl, rfl⟩
  refine ⟨.nil, ?_⟩
  refine D_then (.cons (k := 5) rfl (.cons (k := 6) rfl .nil)) ?_
  refine V_seq (V_draw (.rd 0 (.rd 1 (.rd 2 (.rd 3 (.rd 4 (.rd 5 (.rd 6 (.rd 7 (.rd 9 (.rd 10 (.rd 11 (.rd 12 (.rd 14 (.rd 15 (.wr 8 [15, 14, 12, 11, 10, 9, 6, 4, 3, 2, 1, 0] (.wr 13 [15, 14, 11, 9, 7, 6, 5, 4, 3, 2, 1, 0] (.wr 16 [14, 12, 11, 10, 9, 7, 6, 5, 4, 3, 2, 1, 0] (.rd 17 (.rd 18 (.rd 19 (.rd 20 (.rd 21 (.rd 22 (.rd 23 .done)))))))))))))))))))))))) mixed (by kernel_rfl) rfl ?_)
  refine D_p rfl (.plain rfl) (p_fieldo fo116_3 rfl rfl) ?_
  refine D_rd rfl (.plain rfl) (r_load ag3 rfl rfl (by repeat first | exact mH | apply mT) rfl) ?_
  refine D_p rfl (.plain rfl) (p_fieldo fo116_4 rfl rfl) ?_
  refine D_rd rfl (.plain rfl) (r_load ag3 rfl rfl (by repeat first | exact mH | apply mT) rfl) ?_
  refine D_p rfl (.plain rfl) (p_fieldo fo114_2 rfl rfl) ?_
  refine D_rd rfl (.plain rfl) (r_load ag3 rfl rfl (by repeat first | exact mH | apply mT) rfl) ?_
  refine D_p rfl (.plain rfl) (p_fieldo fo116_1 rfl rfl) ?_
  refine D_rd rfl (.plain rfl) (r_load ag3 rfl rfl (by repeat first | exact mH | apply mT) rfl) ?_
  refine D_p rfl (.plain rfl) (p_fieldo fo114_3 rfl rfl) ?_
  refine D_rd rfl (.plain rfl) (r_load ag3 rfl rfl (by repeat first | exact mH | apply mT) rfl) ?_
  refine D_p rfl (.plain rfl) (p_fieldo fo116_2 rfl rfl) ?_
  refine D_rd rfl (.plain rfl) (r_load ag3 rfl rfl (by repeat first | exact mH | apply mT) rfl) ?_
  refine D_p rfl (.plain rfl) (p_fieldo fo114_4 rfl rfl) ?_
  refine D_rd rfl (.plain rfl) (r_load ag3 rfl rfl (by repeat first | exact mH | apply mT) rfl) ?_
  refine D_wr (.go (E' := [(15, _), (12, _), (10, _), (3, _), (1, _)]) rfl (.plain rfl) (w_callP rfl rfl rfl (fun w hg => apart_c _ _ (by omega) (by omega) w)) rfl ?_)
  rintro _ _ ⟨rfl, rfl⟩
  refine ⟨(.cons rfl (.plain rfl) (r_load ag3 rfl rfl (by repeat first | exact mH | apply mT) rfl) (.cons rfl (.plain rfl) (r_load ag3 rfl rfl (by repeat first | exact mH | apply mT) rfl) (.cons rfl (.plain rfl) (r_load ag3 rfl rfl (by repeat first | exact mH | apply mT) rfl) (.cons rfl (.plain rfl) (r_load ag3 rfl rfl (by repeat first | exact mH | apply mT) rfl) (.cons rfl (.plain rfl) (r_load ag3 rfl rfl (by repeat first | exact mH | apply mT) rfl) .nil))))), ?_⟩
  refine D_wr (.go (E' := [(15, _), (3, _), (1, _)]) rfl (.plain rfl) (w_callP rfl rfl rfl (fun w hg => apart_c _ _ (by omega) (by omega) w)) rfl ?_)
  rintro _ _ ⟨rfl, rfl⟩
  refine ⟨(.cons rfl (.plain rfl) (r_load ag3 rfl rfl (by repeat first | exact mH | apply mT) rfl) (.cons rfl (.plain rfl) (r_load ag3 rfl rfl (by repeat first | exact mH | apply mT) rfl) (.cons rfl (.plain rfl) (r_load ag3 rfl rfl (by repeat first | exact mH | apply mT) rfl) .nil))), ?_⟩
  refine D_wr (.go (E' := [(3, _), (1, _)]) rfl (.plain rfl) (w_callP rfl rfl rfl (fun w hg => apart_c _ _ (by omega) (by omega) w)) rfl ?_)
  rintro _ _ ⟨rfl, rfl⟩
  refine ⟨(.cons rfl (.plain rfl) (r_load ag3 rfl rfl (by repeat first | exact mH | apply mT) rfl) (.cons rfl (.plain rfl) (r_load ag3 rfl rfl (by repeat first | exact mH | apply mT) rfl) .nil)), ?_⟩
  refine D_p rfl (.plain rfl) (p_max3 rfl rfl rfl rfl) ?_
  first | refine D_p rfl (.plain rfl) (p_add' rfl rfl rfl (by unfold InI; omega)) ?_ | refine D_p rfl (.plain rfl) (p_add rfl rfl rfl) ?_
  first | refine D_p rfl (.plain rfl) (p_sub' rfl rfl rfl (by unfold InI; omega)) ?_ | refine D_p rfl (.plain rfl) (p_sub rfl rfl rfl) ?_
  first | refine D_p rfl (.plain rfl) (p_quo' rfl rfl rfl (by first | decide | omega) (by unfold InI; omega)) ?_ | refine D_p rfl (.plain rfl) (p_quo rfl rfl rfl (by first | decide | omega)) ?_
  first | refine D_p rfl (.plain rfl) (p_mul' rfl rfl rfl (by unfold InI; omega)) ?_ | refine D_p rfl (.plain rfl) (p_mul rfl rfl rfl) ?_
  first | refine D_p rfl (.plain rfl) (p_add' rfl rfl rfl (by unfold InI; omega)) ?_ | refine D_p rfl (.plain rfl) (p_add rfl rfl rfl) ?_
  refine D_p rfl (.plain rfl) (p_assign rfl rfl) ?_
  refine D_then (.cons (k := 4) rfl .nil) ?_
  refine V_ret ?_
  refine Leave.nil (.tmp rfl .nil) ?_
  rfl

end Go.Proofs.Ytclbbchehjapjab
