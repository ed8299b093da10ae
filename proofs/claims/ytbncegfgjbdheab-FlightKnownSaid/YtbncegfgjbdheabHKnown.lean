/- Ytbncegfgjbdheab: FlightKnown is proved: it returns true. -/
import Derived.Test.YtbncegfgjbdheabRows
import Derived.Test.YtbncegfgjbdheabZan
import Derived.Test.YtbncegfgjbdheabZaf
import Derived.Test.YtbncegfgjbdheabZam
import Derived.Test.YtbncegfgjbdheabZal
import Derived.Test.YtbncegfgjbdheabZai
import Derived.ProofKit
set_option linter.all false
namespace Go.Proofs.Ytbncegfgjbdheab
open Go.Vc Go.Tk Go.Fl Go.ChangeShapes Go.WideShapes Go.ChangeAt Go.RowKit
set_option maxRecDepth 100000
theorem rSameStates_c (l : List St) (va vb : Value) (w : World) (ha : SliceR w 12 va (l.map St.cells)) (hb : SliceR w 12 vb (l.map St.cells)) (hl : (l.length : Int) ≤ 9223372036854775806) : FnP Try.prog 16 [va, vb] w (.bool true) := by
 obtain ⟨aa, ca, rfl, hca, hae⟩ := ha.ex
 obtain ⟨ab, cb, rfl, hcb, hbe⟩ := hb.ex
 simp only [List.length_map] at hca hcb ⊢
 refine fn_pure Try.func16 rfl (by kernel_rfl) Try.ntmps16 Try.results16 rfl ?_
 refine Vs rfl ?_
 refine La rfl rfl rfl ?_
 refine L_then (kp [0, 1] rfl) ?_
 refine V_seq ?_
 refine Vs rfl ?_
 refine Lm rfl rfl rfl ?_
 refine Lp rfl (p_len isl39 rfl rfl) ?_
 refine Lm rfl rfl rfl ?_
 refine Lp rfl (p_len isl39 rfl rfl) ?_
 refine Lp rfl (p_neq rfl rfl rfl) ?_
 refine L_then (kp [0, 1, 10] rfl) ?_
 refine V_cond_f rfl (decide_eq_false (by omega)) ?_
 refine V_skip (then_n ?_)
 refine V_seq ?_
 refine Vs rfl ?_
 refine La rfl rfl rfl ?_
 refine L_then (kp [0, 1, 5] rfl) ?_
 refine V_block ?_
 refine V_loop0 (γ := Int) (kp [0, 1] rfl) (fun k => [(5, .int .i64 k)]) (fun k => 0 ≤ k ∧ k ≤ l.length) (fun k => (l.length - k).toNat) (0) (.cons rfl (.nil _)) (⟨by omega, by omega⟩) ?_
 rintro k hi
 obtain ⟨hk0, hk1⟩ := hi
 refine V_seq ?_
 refine Vs rfl ?_
 iterate 2 refine Lm rfl rfl rfl ?_
 refine Lp rfl (p_len isl39 rfl rfl) ?_
 refine Lp rfl (p_lss rfl rfl rfl) ?_
 refine L_then (kp [0, 1, 5, 14] rfl) ?_
 refine V_cond rfl ?_ ?_
 ·intro c1; try simp only [td] at c1
  obtain ⟨xa, rfl, hxa⟩ := hae k.toNat _ (getD_cells (f := St.cells) (d := Fl.stZ) (by omega))
  obtain ⟨xb, rfl, hxb⟩ := hbe k.toNat _ (getD_cells (f := St.cells) (d := Fl.stZ) (by omega))
  refine V_skip (then_n ?_)
  refine V_seq ?_
  refine V_block ?_
  refine V_seq (V_draw (.rd 0 (.rd 1 (.rd 2 (.rd 3 (.rd 4 (.rd 5 (.rd 6 (.rd 7 (.rd 8 .done))))))))) mixed (by kernel_rfl) rfl ?_)
  iterate 2 refine Dm rfl rfl rfl rfl ?_
  refine Dp rfl rfl (p_idx es39 rfl rfl rfl (by omega) (by omega)) ?_
  refine Dr rfl rfl (r_loadBA ag44 sz44 rfl rfl hxa rfl List.not_mem_nil) ?_
  iterate 2 refine Dm rfl rfl rfl rfl ?_
  refine Dp rfl rfl (p_idx es39 rfl rfl rfl (by omega) (by omega)) ?_
  refine Dr rfl rfl (r_loadBA ag44 sz44 rfl rfl hxb rfl List.not_mem_nil) ?_
  refine Dp rfl rfl (p_neS lv44 ag44 eg44 rfl rfl rfl rfl rfl) ?_
  refine D_then (kp [0, 1, 5, 25] rfl) ?_
  refine V_cond_f rfl (st_ne _) ?_
  refine V_skip (blk_n (then_n ?_))
  refine V_region rfl ?_
  refine Lm rfl rfl rfl ?_
  first | refine Lp rfl (p_add' rfl rfl rfl (by unfold InI; omega)) ?_ | refine Lp rfl (p_add rfl rfl rfl) ?_
  refine La rfl rfl rfl ?_
  refine L_keep (kp [0, 1, 5] rfl) (then_n ?_)
  refine ⟨k + 1, ?_, ?_, (.cons rfl (.cons rfl (.cons rfl (.nil _)))), (by repeat (first | exact List.Sublist.refl _ | apply List.Sublist.cons_cons | apply List.Sublist.cons | apply List.sublist_append_of_sublist_right)), rfl⟩
  ·exact ⟨by omega, by omega⟩
  omega
 intro c1; try simp only [td] at c1
 refine V_exit (then_e (then_e (blk_e rfl (then_n ?_))))
 refine Vs rfl ?_
 refine La rfl rfl rfl ?_
 refine L_then (kp [4] rfl) ?_
 refine V_ret ?_
 refine Leave.nil (.tmp rfl .nil) ?_
 rfl
theorem kA_c (b b2 ty ty2 : Nat) (fr fr2 : Nat × Nat) (w : World) (h : w.heap[b]? = some (.cells (Phase.cells dartP).toArray ty fr)) (h2 : w.heap[b2]? = some (.cells (Fl.Band.cells ⟨0, 100000, ⟨300, 300⟩, ⟨0, 0⟩⟩).toArray ty2 fr2)) : FnP Try.prog 14 [VehV dartV (.slice none 0 0) (.slice (some ⟨b, 0, none⟩) 1 1) (.slice none 0 0), .agg #[.int .i64 0, .int .i64 0, .int .i64 10000], .slice (some ⟨b2, 0, none⟩) 1 1, .int .i64 0, .agg #[.int .i64 0, .int .i64 0, .int .i64 0, .int .i64 0, .int .i64 0, .int .i64 0, .int .i64 0, .int .i64 0, .int .i64 0, .int .i64 0, .int .i64 0, .int .i64 0]] w (.tuple #[.agg #[.int .i64 (-1), .int .i64 1, .int .i64 0, .int .i64 0, .int .i64 902, .int .i64 902], .int .i64 0]) := by
 have h9 := fForce_c dartV upD exB _ _ _ _ w (dart_R h) (exB_R h2) 0 Fl.stZ
 rwa [kn_a0, kn_a] at h9
theorem kB_c (b b2 ty ty2 : Nat) (fr fr2 : Nat × Nat) (w : World) (h : w.heap[b]? = some (.cells (Phase.cells dartP).toArray ty fr)) (h2 : w.heap[b2]? = some (.cells (Fl.Band.cells ⟨0, 100000, ⟨300, 300⟩, ⟨0, 0⟩⟩).toArray ty2 fr2)) : FnP Try.prog 14 [VehV dartV (.slice none 0 0) (.slice (some ⟨b, 0, none⟩) 1 1) (.slice none 0 0), .agg #[.int .i64 0, .int .i64 0, .int .i64 10000], .slice (some ⟨b2, 0, none⟩) 1 1, .int .i64 2, .agg #[.int .i64 0, .int .i64 0, .int .i64 0, .int .i64 0, .int .i64 0, .int .i64 0, .int .i64 0, .int .i64 0, .int .i64 0, .int .i64 0, .int .i64 0, .int .i64 0]] w (.tuple #[.agg #[.int .i64 0, .int .i64 0, .int .i64 0, .int .i64 0, .int .i64 (-98), .int .i64 (-98)], .int .i64 0]) := by
 have h9 := fForce_c dartV upD exB _ _ _ _ w (dart_R h) (exB_R h2) 2 Fl.stZ
 rwa [kn_b0, kn_b] at h9
theorem kT_c (b b2 ty ty2 : Nat) (fr fr2 : Nat × Nat) (w : World) (h : w.heap[b]? = some (.cells (Phase.cells dartP).toArray ty fr)) (h2 : w.heap[b2]? = some (.cells (Fl.Band.cells ⟨0, 100000, ⟨300, 300⟩, ⟨0, 0⟩⟩).toArray ty2 fr2)) : FnP Try.prog 17 [VehV dartV (.slice none 0 0) (.slice (some ⟨b, 0, none⟩) 1 1) (.slice none 0 0), .agg #[.int .i64 0, .int .i64 0, .int .i64 10000], .slice (some ⟨b2, 0, none⟩) 1 1, .int .i64 25] w (.tuple #[.agg #[.int .i64 18420, .int .i64 18420], .int .i64 0]) := by
 have h9 := fTop_c dartV upD exB _ _ _ _ w (dart_R h) (exB_R h2) 25
 rwa [kn_t0, kn_t] at h9
theorem kU_c (b b2 ty ty2 : Nat) (fr fr2 : Nat × Nat) (w : World) (h : w.heap[b]? = some (.cells (Phase.cells dartP).toArray ty fr)) (h2 : w.heap[b2]? = some (.cells (Fl.Band.cells ⟨0, 100000, ⟨300, 300⟩, ⟨0, 0⟩⟩).toArray ty2 fr2)) : FnP Try.prog 17 [VehV dartV (.slice none 0 0) (.slice (some ⟨b, 0, none⟩) 1 1) (.slice none 0 0), .agg #[.int .i64 0, .int .i64 0, .int .i64 10000], .slice (some ⟨b2, 0, none⟩) 1 1, .int .i64 3] w (.tuple #[.agg #[.int .i64 4412, .int .i64 4412], .int .i64 0]) := by
 have h9 := fTop_c dartV upD exB _ _ _ _ w (dart_R h) (exB_R h2) 3
 rwa [kn_f0, kn_u] at h9
theorem kP_c (b b2 ty ty2 : Nat) (fr fr2 : Nat × Nat) (w : World) (h : w.heap[b]? = some (.cells (Phase.cells dartP).toArray ty fr)) (h2 : w.heap[b2]? = some (.cells (Fl.Band.cells ⟨0, 100000, ⟨300, 300⟩, ⟨0, 0⟩⟩).toArray ty2 fr2)) (x : Value) (hq : PtsR w x knP) : FnP Try.prog 5 [VehV dartV (.slice none 0 0) (.slice (some ⟨b, 0, none⟩) 1 1) (.slice none 0 0), .agg #[.int .i64 0, .int .i64 0, .int .i64 10000], .slice (some ⟨b2, 0, none⟩) 1 1, x] w (.tuple #[.int .i64 (-1), .int .i64 0]) := by
 have h9 := fOwn_c dartV upD exB _ _ _ _ w (dart_R h) (exB_R h2) knP x hq
 rwa [kn_p0, kn_p] at h9
theorem kQ_c (b b2 ty ty2 : Nat) (fr fr2 : Nat × Nat) (w : World) (h : w.heap[b]? = some (.cells (Phase.cells dartP).toArray ty fr)) (h2 : w.heap[b2]? = some (.cells (Fl.Band.cells ⟨0, 100000, ⟨300, 300⟩, ⟨0, 0⟩⟩).toArray ty2 fr2)) (x : Value) (hq : PtsR w x knQ) : FnP Try.prog 5 [VehV dartV (.slice none 0 0) (.slice (some ⟨b, 0, none⟩) 1 1) (.slice none 0 0), .agg #[.int .i64 0, .int .i64 0, .int .i64 10000], .slice (some ⟨b2, 0, none⟩) 1 1, x] w (.tuple #[.int .i64 1, .int .i64 0]) := by
 have h9 := fOwn_c dartV upD exB _ _ _ _ w (dart_R h) (exB_R h2) knQ x hq
 rwa [kn_q0, kn_q] at h9
theorem kF_c (b b2 ty ty2 : Nat) (fr fr2 : Nat × Nat) (w : World) (h : w.heap[b]? = some (.cells (Phase.cells dartP).toArray ty fr)) (h2 : w.heap[b2]? = some (.cells (Fl.Band.cells ⟨0, 100000, ⟨300, 300⟩, ⟨0, 0⟩⟩).toArray ty2 fr2)) : FnC Try.prog 7 [VehV dartV (.slice none 0 0) (.slice (some ⟨b, 0, none⟩) 1 1) (.slice none 0 0), .agg #[.int .i64 0, .int .i64 0, .int .i64 10000], .slice (some ⟨b2, 0, none⟩) 1 1, .int .i64 3] w fun u w' => ∃ Hc, Vc.Good w [] Hc w' ∧ ∃ A G, Hc = A ++ G ∧ LstOut 44 12 4 (stL knS) (fun sv => .tuple #[sv, .int .i64 0]) u A G := by
 have h9 := fFly_c dartV upD exB _ _ _ _ w (dart_R h) (exB_R h2) 3
 rwa [kn_f0, kn_f] at h9
theorem kC_c (b b2 ty ty2 : Nat) (fr fr2 : Nat × Nat) (w : World) (h : w.heap[b]? = some (.cells (Phase.cells windyP).toArray ty fr)) (h2 : w.heap[b2]? = some (.cells (Fl.Band.cells ⟨0, 100000, ⟨300, 300⟩, ⟨0, 0⟩⟩).toArray ty2 fr2)) (b3 ty3 : Nat) (fr3 : Nat × Nat) (h3 : w.heap[b3]? = some (.cells (AirE.cells ⟨0, 1000⟩).toArray ty3 fr3)) : FnP Try.prog 14 [VehV windyV (.slice (some ⟨b3, 0, none⟩) 1 1) (.slice (some ⟨b, 0, none⟩) 1 1) (.slice none 0 0), .agg #[.int .i64 0, .int .i64 0, .int .i64 10000], .slice (some ⟨b2, 0, none⟩) 1 1, .int .i64 2, .agg #[.int .i64 0, .int .i64 0, .int .i64 0, .int .i64 0, .int .i64 5000, .int .i64 5000, .int .i64 300, .int .i64 300, .int .i64 0, .int .i64 0, .int .i64 10000, .int .i64 10000]] w (.tuple #[.agg #[.int .i64 0, .int .i64 0, .int .i64 0, .int .i64 0, .int .i64 (-198), .int .i64 (-198)], .int .i64 0]) := by
 have h9 := fForce_c windyV upD exB _ _ _ _ w (windy_R h h3) (exB_R h2) 2 knC
 rwa [kn_c0, kn_c] at h9
theorem kW_c (b2 ty2 : Nat) (fr2 : Nat × Nat) (w : World) (h2 : w.heap[b2]? = some (.cells (Fl.Band.cells ⟨0, 100000, ⟨300, 300⟩, ⟨0, 0⟩⟩).toArray ty2 fr2)) : FnP Try.prog 19 [.slice (some ⟨b2, 0, none⟩) 1 1, .agg #[.int .i64 0, .int .i64 99999]] w (.tuple #[.agg #[.int .i64 300, .int .i64 300, .int .i64 0, .int .i64 0], .int .i64 0]) := by
 have h9 := fWinds_c ⟨0, 99999⟩ exB _ w (exB_R h2)
 rwa [kn_w0.1, kn_w.1] at h9
theorem kX_c (b2 ty2 : Nat) (fr2 : Nat × Nat) (w : World) (h2 : w.heap[b2]? = some (.cells (Fl.Band.cells ⟨0, 100000, ⟨300, 300⟩, ⟨0, 0⟩⟩).toArray ty2 fr2)) : FnP Try.prog 19 [.slice (some ⟨b2, 0, none⟩) 1 1, .agg #[.int .i64 0, .int .i64 100000]] w (.tuple #[.agg #[.int .i64 0, .int .i64 300, .int .i64 0, .int .i64 0], .int .i64 0]) := by
 have h9 := fWinds_c ⟨0, 100000⟩ exB _ w (exB_R h2)
 rwa [kn_w0.2, kn_w.2] at h9
set_option maxHeartbeats 8000000 in
theorem flightKnown_c (w : World) : FnP Try.prog 4 [] w (.bool true) := by
 refine fn_pure Try.func4 rfl (by kernel_rfl) Try.ntmps4 Try.results4 rfl ?_
 refine Vs rfl ?_
 refine La rfl rfl rfl ?_
 refine L_then .nil ?_
 refine Vs rfl ?_
 refine Lw rfl (w_callN rfl rfl rfl (fun w hg => lDart_c w)) ?_
 rintro _ _ ⟨_, rfl, _, x1, rfl, rfl⟩
 refine Lc rfl rfl rfl rfl (fun w hg => lUp_c w) ?_
 refine Lw rfl (w_callN rfl rfl rfl (fun w hg => lBands_c w)) ?_
 rintro _ _ ⟨_, rfl, _, x2, rfl, rfl⟩
 refine Lw rfl (w_alloc zr28 rfl) ?_
 rintro _ _ ⟨b3, hb3, rfl, rfl⟩
 refine Lw rfl (w_alloc zr30 rfl) ?_
 rintro _ _ ⟨b4, hb4, rfl, rfl⟩
 refine Ls (cs' := [_, _, _, _, _, _]) rfl sz28 rfl rfl rfl rfl rfl rfl rfl ?_
 refine Ls (cs' := [_, _, _]) rfl sz30 rfl rfl rfl rfl rfl rfl rfl ?_
 refine La rfl rfl rfl ?_
 refine L_then (kp [1, 2, 3] rfl) ?_
 refine Vs rfl ?_
 refine Lr rfl (rlA (vs := [_, _, _, _, _, _]) ag28 sz28 rfl rfl rfl) ?_
 refine Lr rfl (rlA (vs := [_, _, _]) ag30 sz30 rfl rfl rfl) ?_
 refine Lm rfl rfl rfl ?_
 refine Lp rfl (p_build (r := [_, _, _, _, _, _, _, _, _, _, _, _]) pl44 zr44 rfl rfl rfl) ?_
 refine Lc rfl rfl rfl rfl (fun w hg => kA_c x1 x2 _ _ _ _ w (hg.own (x1, _) (by repeat first | exact mH | apply mT | apply List.mem_append_right)) (hg.own (x2, _) (by repeat first | exact mH | apply mT | apply List.mem_append_right))) ?_
 refine Lm rfl rfl rfl ?_
 iterate 2 refine Lp rfl (p_ext rfl rfl rfl) ?_
 refine Lw rfl (w_alloc zr60 rfl) ?_
 rintro _ _ ⟨b5, hb5, rfl, rfl⟩
 refine Ls (cs' := [_, _, _, _, _, _]) rfl sz60 rfl rfl rfl rfl rfl rfl rfl ?_
 refine La rfl rfl rfl ?_
 refine L_then (kp [1, 2, 3, 4, 5] rfl) ?_
 refine Vs rfl ?_
 refine Lr rfl (rlA (vs := [_, _, _, _, _, _]) ag28 sz28 rfl rfl rfl) ?_
 refine Lr rfl (rlA (vs := [_, _, _]) ag30 sz30 rfl rfl rfl) ?_
 refine Lm rfl rfl rfl ?_
 refine Lp rfl (p_build (r := [_, _, _, _, _, _, _, _, _, _, _, _]) pl44 zr44 rfl rfl rfl) ?_
 refine Lc rfl rfl rfl rfl (fun w hg => kB_c x1 x2 _ _ _ _ w (hg.own (x1, _) (by repeat first | exact mH | apply mT | apply List.mem_append_right)) (hg.own (x2, _) (by repeat first | exact mH | apply mT | apply List.mem_append_right))) ?_
 refine Lm rfl rfl rfl ?_
 iterate 2 refine Lp rfl (p_ext rfl rfl rfl) ?_
 refine Lw rfl (w_alloc zr60 rfl) ?_
 rintro _ _ ⟨b6, hb6, rfl, rfl⟩
 refine Ls (cs' := [_, _, _, _, _, _]) rfl sz60 rfl rfl rfl rfl rfl rfl rfl ?_
 refine La rfl rfl rfl ?_
 refine L_then (kp [1, 2, 3, 4, 5, 6, 7] rfl) ?_
 refine V_seq ?_
 refine V_seq (V_draw (.rd 0 (.rd 1 (.rd 2 (.rd 3 (.rd 4 (.rd 5 (.rd 6 (.rd 7 (.wr 8 [7, 5, 4, 3, 2, 1, 0] (.wr 9 [7, 5, 4, 3, 2, 1, 0] (.rd 10 (.rd 11 (.rd 12 (.rd 13 (.rd 14 (.wr 15 [14, 12, 11, 10, 7, 6, 5, 4, 3, 2, 1, 0] (.rd 16 (.rd 17 (.rd 18 .done))))))))))))))))))) mixed (by kernel_rfl) rfl ?_)
 refine Dm rfl rfl rfl rfl ?_
 refine Dp rfl rfl (p_neq rfl rfl rfl) ?_
 refine Dm rfl rfl rfl rfl ?_
 refine D_p rfl (.yes rfl rfl rfl (by first | rfl | simp | decide)) (p_move rfl rfl) ?_
 refine D_p rfl (.yes rfl rfl rfl (by first | rfl | simp | decide)) (p_neq rfl rfl rfl) ?_
 refine Dp rfl rfl (p_pick_f rfl rfl (by first | rfl | simp | decide) rfl) ?_
 refine Dm rfl rfl rfl rfl ?_
 refine D_rd rfl (.yes rfl rfl rfl (by first | rfl | simp | decide)) (rlA (vs := [_, _, _, _, _, _]) ag60 sz60 rfl rfl rfl) ?_
 refine D_wr (.go (E' := [(7, _)]) rfl (.yes rfl rfl rfl (by first | rfl | simp | decide)) (w_callP rfl rfl rfl (fun w hg => lspan_c _ _ w)) rfl ?_)
 rintro _ _ ⟨rfl, rfl⟩
 refine ⟨(.cons rfl (.yes rfl rfl rfl (by first | rfl | simp | decide)) (rlA (vs := [_, _, _, _, _, _]) ag60 sz60 rfl rfl rfl) .nil), ?_⟩
 refine D_wr (.go (E' := [(7, _)]) rfl (.yes rfl rfl rfl (by first | rfl | simp | decide)) (w_callP rfl rfl rfl (fun w hg => lspan_c _ _ w)) rfl ?_)
 rintro _ _ ⟨rfl, rfl⟩
 refine ⟨(.cons rfl (.yes rfl rfl rfl (by first | rfl | simp | decide)) (rlA (vs := [_, _, _, _, _, _]) ag60 sz60 rfl rfl rfl) .nil), ?_⟩
 refine D_p rfl (.yes rfl rfl rfl (by first | rfl | simp | decide)) (p_build (r := [_, _, _, _, _, _]) pl60 zr60 rfl rfl rfl) ?_
 refine D_p rfl (.yes rfl rfl rfl (by first | rfl | simp | decide)) (p_neS lv60 ag60 eg60 rfl rfl rfl rfl rfl) ?_
 refine Dp rfl rfl (p_pick_f rfl rfl (by first | rfl | simp | decide) rfl) ?_
 refine Dm rfl rfl rfl rfl ?_
 refine D_rd rfl (.yes rfl rfl rfl (by first | rfl | (simp; done) | (simp [eqL, eqv, Box.cells]; done) | decide)) (rlA (vs := [_, _, _, _, _, _]) ag60 sz60 rfl rfl rfl) ?_
 refine D_wr (.go (E' := [(14, _), (7, _)]) rfl (.yes rfl rfl rfl (by first | rfl | (simp; done) | (simp [eqL, eqv, Box.cells]; done) | decide)) (w_callP rfl rfl rfl (fun w hg => lspan_c _ _ w)) rfl ?_)
 rintro _ _ ⟨rfl, rfl⟩
 refine ⟨(.cons rfl (.yes rfl rfl rfl (by first | rfl | (simp; done) | (simp [eqL, eqv, Box.cells]; done) | decide)) (rlA (vs := [_, _, _, _, _, _]) ag60 sz60 rfl rfl rfl) (.cons rfl (.yes rfl rfl rfl (by first | rfl | simp | decide)) (rlA (vs := [_, _, _, _, _, _]) ag60 sz60 rfl rfl rfl) .nil)), ?_⟩
 refine D_p rfl (.yes rfl rfl rfl (by first | rfl | (simp; done) | (simp [eqL, eqv, Box.cells]; done) | decide)) (p_build (r := [_, _, _, _, _, _]) pl60 zr60 rfl rfl rfl) ?_
 refine D_p rfl (.yes rfl rfl rfl (by first | rfl | (simp; done) | (simp [eqL, eqv, Box.cells]; done) | decide)) (p_neS lv60 ag60 eg60 rfl rfl rfl rfl rfl) ?_
 refine Dp rfl rfl (p_pick_f rfl rfl (by first | rfl | (simp; done) | (simp [eqL, eqv, Box.cells]; done) | decide) rfl) ?_
 refine D_then (kp [1, 2, 3, 54] rfl) ?_
 refine V_cond_f rfl (by first | rfl | (simp; done) | (simp [eqL, eqv, Box.cells]; done) | decide) ?_
 refine V_skip (then_n ?_)
 refine Vs rfl ?_
 refine Lr rfl (rlA (vs := [_, _, _, _, _, _]) ag28 sz28 rfl rfl rfl) ?_
 refine Lr rfl (rlA (vs := [_, _, _]) ag30 sz30 rfl rfl rfl) ?_
 refine Lm rfl rfl rfl ?_
 refine Lw rfl (w_callG (pre := [_, _, _, _, _, _]) rfl rfl rfl rfl (fun w hg => kF_c x1 x2 _ _ _ _ w (hg.own (x1, _) (by repeat first | exact mH | apply mT | apply List.mem_append_right)) (hg.own (x2, _) (by repeat first | exact mH | apply mT | apply List.mem_append_right)))) ?_
 rintro _ _ ⟨_, G, rfl, hfr1, rfl, sv1, rfl, hgr⟩
 obtain ⟨sa1, sc1, rfl⟩ := Grow.form hgr
 try simp only [List.cons_append, List.nil_append, List.append_nil]
 refine Lm rfl rfl rfl ?_
 iterate 2 refine Lp rfl (p_ext rfl rfl rfl) ?_
 iterate 2 refine La rfl rfl rfl ?_
 refine L_then (kp [1, 2, 3, 5, 8] rfl) ?_
 refine V_seq ?_
 refine Vs rfl ?_
 refine Lm rfl rfl rfl ?_
 refine Lp rfl (p_neq rfl rfl rfl) ?_
 refine Lm rfl rfl rfl ?_
 refine L_yes rfl rfl rfl (by first | rfl | simp | decide) (X_p (p_move rfl rfl) ?_)
 refine L_yes rfl rfl rfl (by first | rfl | simp | decide) (X_p (p_build (r := [_, _, _, _, _, _, _, _, _, _, _, _]) pl44 zr44 rfl rfl rfl) ?_)
 refine L_yes rfl rfl rfl (by first | rfl | simp | decide) (X_wr (w_callP rfl rfl rfl (fun w hg => lspan_c _ _ w)) ?_)
 rintro _ _ ⟨rfl, rfl⟩
 refine L_yes rfl rfl rfl (by first | rfl | simp | decide) (X_wr (w_callP rfl rfl rfl (fun w hg => lspan_c _ _ w)) ?_)
 rintro _ _ ⟨rfl, rfl⟩
 refine L_yes rfl rfl rfl (by first | rfl | simp | decide) (X_wr (w_callP rfl rfl rfl (fun w hg => lspan_c _ _ w)) ?_)
 rintro _ _ ⟨rfl, rfl⟩
 refine L_yes rfl rfl rfl (by first | rfl | simp | decide) (X_wr (w_callP rfl rfl rfl (fun w hg => lspan_c _ _ w)) ?_)
 rintro _ _ ⟨rfl, rfl⟩
 refine L_yes rfl rfl rfl (by first | rfl | simp | decide) (X_p (p_build (r := [_, _, _, _, _, _, _, _, _, _, _, _]) pl44 zr44 rfl rfl rfl) ?_)
 refine L_yes rfl rfl rfl (by first | rfl | simp | decide) (X_wr (w_callP rfl rfl rfl (fun w hg => lspan_c _ _ w)) ?_)
 rintro _ _ ⟨rfl, rfl⟩
 refine L_yes rfl rfl rfl (by first | rfl | simp | decide) (X_wr (w_callP rfl rfl rfl (fun w hg => lspan_c _ _ w)) ?_)
 rintro _ _ ⟨rfl, rfl⟩
 refine L_yes rfl rfl rfl (by first | rfl | simp | decide) (X_wr (w_callP rfl rfl rfl (fun w hg => lspan_c _ _ w)) ?_)
 rintro _ _ ⟨rfl, rfl⟩
 refine L_yes rfl rfl rfl (by first | rfl | simp | decide) (X_wr (w_callP rfl rfl rfl (fun w hg => lspan_c _ _ w)) ?_)
 rintro _ _ ⟨rfl, rfl⟩
 refine L_yes rfl rfl rfl (by first | rfl | simp | decide) (X_p (p_build (r := [_, _, _, _, _, _, _, _, _, _, _, _]) pl44 zr44 rfl rfl rfl) ?_)
 refine L_yes rfl rfl rfl (by first | rfl | simp | decide) (X_wr (w_callP rfl rfl rfl (fun w hg => lspan_c _ _ w)) ?_)
 rintro _ _ ⟨rfl, rfl⟩
 refine L_yes rfl rfl rfl (by first | rfl | simp | decide) (X_wr (w_callP rfl rfl rfl (fun w hg => lspan_c _ _ w)) ?_)
 rintro _ _ ⟨rfl, rfl⟩
 refine L_yes rfl rfl rfl (by first | rfl | simp | decide) (X_wr (w_callP rfl rfl rfl (fun w hg => lspan_c _ _ w)) ?_)
 rintro _ _ ⟨rfl, rfl⟩
 refine L_yes rfl rfl rfl (by first | rfl | simp | decide) (X_wr (w_callP rfl rfl rfl (fun w hg => lspan_c _ _ w)) ?_)
 rintro _ _ ⟨rfl, rfl⟩
 refine L_yes rfl rfl rfl (by first | rfl | simp | decide) (X_p (p_build (r := [_, _, _, _, _, _, _, _, _, _, _, _]) pl44 zr44 rfl rfl rfl) ?_)
 refine L_yes rfl rfl rfl (by first | rfl | simp | decide) (X_wr (w_slice (r := [_, _, _, _, _, _, _, _, _, _, _, _, _, _, _, _, _, _, _, _, _, _, _, _, _, _, _, _, _, _, _, _, _, _, _, _, _, _, _, _, _, _, _, _, _, _, _, _]) un39 sz44 zr44 rfl (by decide) rfl (by decide) rfl rfl) ?_)
 rintro _ _ ⟨b8, hb8, rfl, rfl⟩
 refine L_yes rfl rfl rfl (by first | rfl | simp | decide) (X_wr (w_callP rfl rfl rfl (fun w hg => rSameStates_c knS _ _ w (stL_rows2 hgr rfl (fun p hp => hg.own p (by repeat first | exact hp | exact List.mem_append_left _ hp | apply List.mem_append_right | apply mT))) (own_rows (els := knS.map St.cells) (hg.own (b8, _) (by repeat first | exact mH | apply mT | apply List.mem_append_right)) rfl (by intro e he; obtain ⟨x, _, rfl⟩ := List.mem_map.1 he; rfl) rfl (by decide)) (by decide))) ?_)
 rintro _ _ ⟨rfl, rfl⟩
 refine L_yes rfl rfl rfl (by first | rfl | simp | decide) (X_p (p_not rfl rfl) ?_)
 refine Lp rfl (p_pick_f rfl rfl (by first | rfl | simp | decide) rfl) ?_
 refine L_then (kp [1, 2, 3, 85] rfl) ?_
 refine V_cond_f rfl rfl ?_
 refine V_skip (then_n ?_)
 refine Vs rfl ?_
 refine Lr rfl (rlA (vs := [_, _, _, _, _, _]) ag28 sz28 rfl rfl rfl) ?_
 refine Lr rfl (rlA (vs := [_, _, _]) ag30 sz30 rfl rfl rfl) ?_
 refine Lm rfl rfl rfl ?_
 refine Lc rfl rfl rfl rfl (fun w hg => kT_c x1 x2 _ _ _ _ w (hg.own (x1, _) (by repeat first | exact mH | apply mT | apply List.mem_append_right)) (hg.own (x2, _) (by repeat first | exact mH | apply mT | apply List.mem_append_right))) ?_
 refine Lm rfl rfl rfl ?_
 iterate 2 refine Lp rfl (p_ext rfl rfl rfl) ?_
 refine Lw rfl (w_alloc zr23 rfl) ?_
 rintro _ _ ⟨b9, hb9, rfl, rfl⟩
 refine Ls (cs' := [_, _]) rfl sz23 rfl rfl rfl rfl rfl rfl rfl ?_
 refine La rfl rfl rfl ?_
 refine L_then (kp [1, 2, 3, 5, 9] rfl) ?_
 refine Vs rfl ?_
 refine Lr rfl (rlA (vs := [_, _, _, _, _, _]) ag28 sz28 rfl rfl rfl) ?_
 refine Lr rfl (rlA (vs := [_, _, _]) ag30 sz30 rfl rfl rfl) ?_
 refine Lm rfl rfl rfl ?_
 refine Lc rfl rfl rfl rfl (fun w hg => kU_c x1 x2 _ _ _ _ w (hg.own (x1, _) (by repeat first | exact mH | apply mT | apply List.mem_append_right)) (hg.own (x2, _) (by repeat first | exact mH | apply mT | apply List.mem_append_right))) ?_
 refine Lm rfl rfl rfl ?_
 iterate 2 refine Lp rfl (p_ext rfl rfl rfl) ?_
 refine Lw rfl (w_alloc zr23 rfl) ?_
 rintro _ _ ⟨b10, hb10, rfl, rfl⟩
 refine Ls (cs' := [_, _]) rfl sz23 rfl rfl rfl rfl rfl rfl rfl ?_
 refine La rfl rfl rfl ?_
 refine L_then (kp [1, 2, 3, 5, 7, 9, 10] rfl) ?_
 refine V_seq ?_
 refine V_seq (V_draw (.rd 0 (.rd 1 (.rd 2 (.rd 3 (.rd 4 (.rd 5 (.rd 6 (.rd 7 (.wr 8 [7, 5, 4, 3, 2, 1, 0] (.rd 9 (.rd 10 (.rd 11 (.rd 12 (.wr 13 [12, 10, 9, 7, 6, 5, 4, 3, 2, 1, 0] (.rd 14 (.rd 15 .done)))))))))))))))) mixed (by kernel_rfl) rfl ?_)
 refine Dm rfl rfl rfl rfl ?_
 refine Dp rfl rfl (p_neq rfl rfl rfl) ?_
 refine Dm rfl rfl rfl rfl ?_
 refine D_p rfl (.yes rfl rfl rfl (by first | rfl | simp | decide)) (p_move rfl rfl) ?_
 refine D_p rfl (.yes rfl rfl rfl (by first | rfl | simp | decide)) (p_neq rfl rfl rfl) ?_
 refine Dp rfl rfl (p_pick_f rfl rfl (by first | rfl | simp | decide) rfl) ?_
 refine Dm rfl rfl rfl rfl ?_
 refine D_rd rfl (.yes rfl rfl rfl (by first | rfl | simp | decide)) (rlA (vs := [_, _]) ag23 sz23 rfl rfl rfl) ?_
 refine D_wr (.go (E' := [(7, _)]) rfl (.yes rfl rfl rfl (by first | rfl | simp | decide)) (w_callP rfl rfl rfl (fun w hg => lspan_c _ _ w)) rfl ?_)
 rintro _ _ ⟨rfl, rfl⟩
 refine ⟨(.cons rfl (.yes rfl rfl rfl (by first | rfl | simp | decide)) (rlA (vs := [_, _]) ag23 sz23 rfl rfl rfl) .nil), ?_⟩
 refine D_p rfl (.yes rfl rfl rfl (by first | rfl | simp | decide)) (p_neS lv23 ag23 eg23 rfl rfl rfl rfl rfl) ?_
 refine Dp rfl rfl (p_pick_f rfl rfl (by first | rfl | simp | decide) rfl) ?_
 refine Dm rfl rfl rfl rfl ?_
 refine D_rd rfl (.yes rfl rfl rfl (by first | rfl | (simp; done) | (simp [eqL, eqv, Box.cells]; done) | decide)) (rlA (vs := [_, _]) ag23 sz23 rfl rfl rfl) ?_
 refine D_wr (.go (E' := [(12, _), (7, _)]) rfl (.yes rfl rfl rfl (by first | rfl | (simp; done) | (simp [eqL, eqv, Box.cells]; done) | decide)) (w_callP rfl rfl rfl (fun w hg => lspan_c _ _ w)) rfl ?_)
 rintro _ _ ⟨rfl, rfl⟩
 refine ⟨(.cons rfl (.yes rfl rfl rfl (by first | rfl | (simp; done) | (simp [eqL, eqv, Box.cells]; done) | decide)) (rlA (vs := [_, _]) ag23 sz23 rfl rfl rfl) (.cons rfl (.yes rfl rfl rfl (by first | rfl | simp | decide)) (rlA (vs := [_, _]) ag23 sz23 rfl rfl rfl) .nil)), ?_⟩
 refine D_p rfl (.yes rfl rfl rfl (by first | rfl | (simp; done) | (simp [eqL, eqv, Box.cells]; done) | decide)) (p_neS lv23 ag23 eg23 rfl rfl rfl rfl rfl) ?_
 refine Dp rfl rfl (p_pick_f rfl rfl (by first | rfl | (simp; done) | (simp [eqL, eqv, Box.cells]; done) | decide) rfl) ?_
 refine D_then (kp [1, 2, 3, 115] rfl) ?_
 refine V_cond_f rfl (by first | rfl | (simp; done) | (simp [eqL, eqv, Box.cells]; done) | decide) ?_
 refine V_skip (then_n ?_)
 refine Vs rfl ?_
 refine Lr rfl (rlA (vs := [_, _, _, _, _, _]) ag28 sz28 rfl rfl rfl) ?_
 refine Lr rfl (rlA (vs := [_, _, _]) ag30 sz30 rfl rfl rfl) ?_
 refine Lm rfl rfl rfl ?_
 iterate 3 refine Lp rfl (p_build (r := [_, _, _, _, _, _]) pl46 zr46 rfl rfl rfl) ?_
 refine Lw rfl (w_slice (r := [_, _, _, _, _, _, _, _, _, _, _, _, _, _, _, _, _, _]) un34 sz46 zr46 rfl (by decide) rfl (by decide) rfl rfl) ?_
 rintro _ _ ⟨b11, hb11, rfl, rfl⟩
 refine Lc rfl rfl rfl rfl (fun w hg => kP_c x1 x2 _ _ _ _ w (hg.own (x1, _) (by repeat first | exact mH | apply mT | apply List.mem_append_right)) (hg.own (x2, _) (by repeat first | exact mH | apply mT | apply List.mem_append_right)) _ ⟨by decide, (own_rows (els := knP.map Fl.Pt.cells) (hg.own (b11, _) (by repeat first | exact mH | apply mT | apply List.mem_append_right)) rfl (by intro e he; obtain ⟨x, _, rfl⟩ := List.mem_map.1 he; rfl) rfl (by decide))⟩) ?_
 refine Lm rfl rfl rfl ?_
 iterate 2 refine Lp rfl (p_ext rfl rfl rfl) ?_
 iterate 2 refine La rfl rfl rfl ?_
 refine L_then (kp [1, 2, 3, 5, 11] rfl) ?_
 refine Vs rfl ?_
 refine Lr rfl (rlA (vs := [_, _, _, _, _, _]) ag28 sz28 rfl rfl rfl) ?_
 refine Lr rfl (rlA (vs := [_, _, _]) ag30 sz30 rfl rfl rfl) ?_
 refine Lm rfl rfl rfl ?_
 iterate 2 refine Lp rfl (p_build (r := [_, _, _, _, _, _]) pl46 zr46 rfl rfl rfl) ?_
 refine Lw rfl (w_slice (r := [_, _, _, _, _, _, _, _, _, _, _, _]) un34 sz46 zr46 rfl (by decide) rfl (by decide) rfl rfl) ?_
 rintro _ _ ⟨b12, hb12, rfl, rfl⟩
 refine Lc rfl rfl rfl rfl (fun w hg => kQ_c x1 x2 _ _ _ _ w (hg.own (x1, _) (by repeat first | exact mH | apply mT | apply List.mem_append_right)) (hg.own (x2, _) (by repeat first | exact mH | apply mT | apply List.mem_append_right)) _ ⟨by decide, (own_rows (els := knQ.map Fl.Pt.cells) (hg.own (b12, _) (by repeat first | exact mH | apply mT | apply List.mem_append_right)) rfl (by intro e he; obtain ⟨x, _, rfl⟩ := List.mem_map.1 he; rfl) rfl (by decide))⟩) ?_
 refine Lm rfl rfl rfl ?_
 iterate 2 refine Lp rfl (p_ext rfl rfl rfl) ?_
 iterate 2 refine La rfl rfl rfl ?_
 refine L_then (kp [2, 3, 5, 7, 11, 12] rfl) ?_
 refine V_seq ?_
 refine Vs rfl ?_
 refine Lm rfl rfl rfl ?_
 refine Lp rfl (p_neq rfl rfl rfl) ?_
 refine Lm rfl rfl rfl ?_
 refine L_yes rfl rfl rfl (by first | rfl | simp | decide) (X_p (p_move rfl rfl) ?_)
 refine L_yes rfl rfl rfl (by first | rfl | simp | decide) (X_p (p_neq rfl rfl rfl) ?_)
 refine Lp rfl (p_pick_f rfl rfl (by first | rfl | simp | decide) rfl) ?_
 refine Lm rfl rfl rfl ?_
 refine L_yes rfl rfl rfl (by first | rfl | simp | decide) (X_p (p_move rfl rfl) ?_)
 refine L_yes rfl rfl rfl (by first | rfl | simp | decide) (X_p (p_neq rfl rfl rfl) ?_)
 refine Lp rfl (p_pick_f rfl rfl (by first | rfl | simp | decide) rfl) ?_
 refine Lm rfl rfl rfl ?_
 refine L_yes rfl rfl rfl (by first | rfl | simp | decide) (X_p (p_move rfl rfl) ?_)
 refine L_yes rfl rfl rfl (by first | rfl | simp | decide) (X_p (p_neq rfl rfl rfl) ?_)
 refine Lp rfl (p_pick_f rfl rfl (by first | rfl | simp | decide) rfl) ?_
 refine L_then (kp [2, 3, 150] rfl) ?_
 refine V_cond_f rfl (by first | rfl | simp | decide) ?_
 refine V_skip (then_n ?_)
 refine V_seq (V_draw (.rd 1 (.rd 2 (.wr2 0 [2, 1] (.wr2 3 [2, 1] (.wr2 4 [2, 1] (.wr2 5 [2, 1] (.rd 6 (.wr2 7 [] (.rd 8 (.rd 9 (.rd 10 (.wr 11 [10, 9, 8, 6, 2, 1] (.wr 12 [10] (.rd 13 .done)))))) 11 [6, 2, 1] (.wr 7 [] (.rd 8 (.rd 9 (.rd 10 (.wr 12 [10] (.rd 13 .done)))))))) 11 [2, 1] (.wr 5 [2, 1] (.rd 6 (.wr 7 [] (.rd 8 (.rd 9 (.rd 10 (.wr 12 [10] (.rd 13 .done))))))))) 11 [2, 1] (.wr 4 [2, 1] (.wr 5 [2, 1] (.rd 6 (.wr 7 [] (.rd 8 (.rd 9 (.rd 10 (.wr 12 [10] (.rd 13 .done)))))))))) 11 [2, 1] (.wr 3 [2, 1] (.wr 4 [2, 1] (.wr 5 [2, 1] (.rd 6 (.wr 7 [] (.rd 8 (.rd 9 (.rd 10 (.wr 12 [10] (.rd 13 .done))))))))))) 11 [2, 1] (.wr 0 [2, 1] (.wr 3 [2, 1] (.wr 4 [2, 1] (.wr 5 [2, 1] (.rd 6 (.wr 7 [] (.rd 8 (.rd 9 (.rd 10 (.wr 12 [10] (.rd 13 .done)))))))))))))) mixed (by kernel_rfl) rfl ?_)
 refine Dr rfl rfl (rlA (vs := [_, _, _]) ag30 sz30 rfl rfl rfl) ?_
 refine Dm rfl rfl rfl rfl ?_
 refine D_wr2 rfl ?_ ?_
 ·refine (.go (E' := [(1, _)]) rfl (.plain rfl) (w_callN rfl rfl rfl (fun w hg => lWindy_c w)) rfl ?_)
  rintro _ _ ⟨_, rfl, _, x3, x4, rfl, rfl⟩
  refine ⟨(.cons rfl (.plain rfl) (rlA (vs := [_, _, _]) ag30 sz30 rfl rfl rfl) .nil), ?_⟩
  refine D_wr2 rfl ?_ ?_
  ·refine (.go (E' := [(1, _)]) rfl (.plain rfl) (w_callP rfl rfl rfl (fun w hg => lspan_c _ _ w)) rfl ?_)
   rintro _ _ ⟨rfl, rfl⟩
   refine ⟨(.cons rfl (.plain rfl) (rlA (vs := [_, _, _]) ag30 sz30 rfl rfl rfl) .nil), ?_⟩
   refine D_wr2 rfl ?_ ?_
   ·refine (.go (E' := [(1, _)]) rfl (.plain rfl) (w_callP rfl rfl rfl (fun w hg => lspan_c _ _ w)) rfl ?_)
    rintro _ _ ⟨rfl, rfl⟩
    refine ⟨(.cons rfl (.plain rfl) (rlA (vs := [_, _, _]) ag30 sz30 rfl rfl rfl) .nil), ?_⟩
    refine D_wr2 rfl ?_ ?_
    ·refine (.go (E' := [(1, _)]) rfl (.plain rfl) (w_callP rfl rfl rfl (fun w hg => lspan_c _ _ w)) rfl ?_)
     rintro _ _ ⟨rfl, rfl⟩
     refine ⟨(.cons rfl (.plain rfl) (rlA (vs := [_, _, _]) ag30 sz30 rfl rfl rfl) .nil), ?_⟩
     refine Dp rfl rfl (p_build (r := [_, _, _, _, _, _, _, _, _, _, _, _]) pl44 zr44 rfl rfl rfl) ?_
     refine D_wr2 rfl ?_ ?_
     ·refine (.go (E' := []) rfl (.plain rfl) (w_callP rfl rfl rfl (fun w hg => kC_c x3 x2 _ _ _ _ w (hg.own (x3, _) (by repeat first | exact mH | apply mT | apply List.mem_append_right)) (hg.own (x2, _) (by repeat first | exact mH | apply mT | apply List.mem_append_right)) x4 _ _ (hg.own (x4, _) (by repeat first | exact mH | apply mT | apply List.mem_append_right)))) rfl ?_)
      rintro _ _ ⟨rfl, rfl⟩
      refine ⟨.nil, ?_⟩
      refine Dm rfl rfl rfl rfl ?_
      iterate 2 refine Dp rfl rfl (p_ext rfl rfl rfl) ?_
      refine D_wr (.go (E' := []) rfl (.plain rfl) (w_alloc zr60 rfl) rfl ?_)
      rintro _ _ ⟨b14, hb14, rfl, rfl⟩
      refine ⟨.nil, ?_⟩
      refine D_wr (.go (E' := []) rfl (.plain rfl) (ws (cs' := [_, _, _, _, _, _]) sz60 rfl rfl rfl rfl rfl rfl rfl) rfl ?_)
      rintro _ _ ⟨rfl, rfl⟩
      refine ⟨.nil, ?_⟩
      refine Dp rfl rfl (p_assign rfl rfl) ?_
      refine D_then (kp [3, 5, 13] rfl) ?_
      refine Vs rfl ?_
      refine Lm rfl rfl rfl ?_
      refine Lc rfl rfl rfl rfl (fun w hg => lspan_c _ _ w) ?_
      refine Lc rfl rfl rfl rfl (fun w hg => kW_c x2 _ _ w (hg.own (x2, _) (by repeat first | exact mH | apply mT | apply List.mem_append_right))) ?_
      refine Lm rfl rfl rfl ?_
      iterate 2 refine Lp rfl (p_ext rfl rfl rfl) ?_
      refine Lw rfl (w_alloc zr52 rfl) ?_
      rintro _ _ ⟨b15, hb15, rfl, rfl⟩
      refine Ls (cs' := [_, _, _, _]) rfl sz52 rfl rfl rfl rfl rfl rfl rfl ?_
      refine La rfl rfl rfl ?_
      refine L_then (kp [3, 5, 7, 13, 14] rfl) ?_
      refine Vs rfl ?_
      refine Lm rfl rfl rfl ?_
      refine Lc rfl rfl rfl rfl (fun w hg => lspan_c _ _ w) ?_
      refine Lc rfl rfl rfl rfl (fun w hg => kX_c x2 _ _ w (hg.own (x2, _) (by repeat first | exact mH | apply mT | apply List.mem_append_right))) ?_
      refine Lm rfl rfl rfl ?_
      iterate 2 refine Lp rfl (p_ext rfl rfl rfl) ?_
      refine Lw rfl (w_alloc zr52 rfl) ?_
      rintro _ _ ⟨b16, hb16, rfl, rfl⟩
      refine Ls (cs' := [_, _, _, _]) rfl sz52 rfl rfl rfl rfl rfl rfl rfl ?_
      refine La rfl rfl rfl ?_
      refine L_then (kp [5, 7, 13, 14, 15, 16] rfl) ?_
      refine V_seq (V_draw (.rd 0 (.rd 1 (.rd 2 (.rd 3 (.rd 4 (.rd 5 (.rd 6 (.rd 7 (.rd 8 (.rd 9 (.rd 10 (.rd 11 (.wr 12 [11, 9, 8, 7, 6, 5, 4, 3, 2, 1, 0] (.rd 13 (.rd 14 (.rd 15 (.rd 16 (.rd 17 (.wr 18 [17, 15, 14, 13, 11, 10, 9, 8, 7, 6, 5, 4, 3, 2, 1, 0] (.rd 19 (.rd 20 (.rd 21 (.rd 22 (.rd 23 (.wr 24 [23, 21, 20, 19, 17, 16, 15, 14, 13, 11, 10, 9, 8, 7, 6, 5, 4, 3, 2, 1, 0] (.rd 25 (.rd 26 (.rd 27 (.rd 28 (.wr 29 [27, 26, 25, 23, 22, 21, 20, 19, 17, 16, 15, 14, 13, 11, 10, 9, 8, 7, 6, 5, 4, 3, 2, 1, 0] (.rd 30 (.rd 31 .done)))))))))))))))))))))))))))))))) mixed (by kernel_rfl) rfl ?_)
      refine Dm rfl rfl rfl rfl ?_
      refine Dp rfl rfl (p_eql rfl rfl rfl) ?_
      refine Dm rfl rfl rfl rfl ?_
      refine D_p rfl (.yes rfl rfl rfl (by first | rfl | simp | decide)) (p_move rfl rfl) ?_
      refine D_p rfl (.yes rfl rfl rfl (by first | rfl | simp | decide)) (p_eql rfl rfl rfl) ?_
      refine Dp rfl rfl (p_pick_t rfl rfl (by first | rfl | simp | decide) rfl) ?_
      refine Dm rfl rfl rfl rfl ?_
      refine D_p rfl (.yes rfl rfl rfl (by first | rfl | simp | decide)) (p_move rfl rfl) ?_
      refine D_p rfl (.yes rfl rfl rfl (by first | rfl | simp | decide)) (p_eql rfl rfl rfl) ?_
      refine Dp rfl rfl (p_pick_t rfl rfl (by first | rfl | simp | decide) rfl) ?_
      refine Dm rfl rfl rfl rfl ?_
      refine D_rd rfl (.yes rfl rfl rfl (by first | rfl | simp | decide)) (rlA (vs := [_, _, _, _, _, _]) ag60 sz60 rfl rfl rfl) ?_
      refine D_wr (.go (E' := [(11, _)]) rfl (.yes rfl rfl rfl (by first | rfl | simp | decide)) (w_callP rfl rfl rfl (fun w hg => lspan_c _ _ w)) rfl ?_)
      rintro _ _ ⟨rfl, rfl⟩
      refine ⟨(.cons rfl (.yes rfl rfl rfl (by first | rfl | simp | decide)) (rlA (vs := [_, _, _, _, _, _]) ag60 sz60 rfl rfl rfl) .nil), ?_⟩
      refine D_p rfl (.yes rfl rfl rfl (by first | rfl | simp | decide)) (p_build (r := [_, _, _, _, _, _]) pl60 zr60 rfl rfl rfl) ?_
      refine D_p rfl (.yes rfl rfl rfl (by first | rfl | simp | decide)) (p_eqS lv60 ag60 eg60 rfl rfl rfl rfl rfl) ?_
      refine Dp rfl rfl (p_pick_t rfl rfl (by first | rfl | simp | decide) rfl) ?_
      refine Dm rfl rfl rfl rfl ?_
      refine D_rd rfl (.yes rfl rfl rfl (by first | rfl | (simp; done) | (simp [eqL, eqv, Box.cells]; done) | decide)) (rlA (vs := [_, _, _, _]) ag52 sz52 rfl rfl rfl) ?_
      refine D_wr (.go (E' := [(17, _), (11, _)]) rfl (.yes rfl rfl rfl (by first | rfl | (simp; done) | (simp [eqL, eqv, Box.cells]; done) | decide)) (w_callP rfl rfl rfl (fun w hg => lspan_c _ _ w)) rfl ?_)
      rintro _ _ ⟨rfl, rfl⟩
      refine ⟨(.cons rfl (.yes rfl rfl rfl (by first | rfl | (simp; done) | (simp [eqL, eqv, Box.cells]; done) | decide)) (rlA (vs := [_, _, _, _]) ag52 sz52 rfl rfl rfl) (.cons rfl (.yes rfl rfl rfl (by first | rfl | simp | decide)) (rlA (vs := [_, _, _, _, _, _]) ag60 sz60 rfl rfl rfl) .nil)), ?_⟩
      refine D_p rfl (.yes rfl rfl rfl (by first | rfl | (simp; done) | (simp [eqL, eqv, Box.cells]; done) | decide)) (p_build (r := [_, _, _, _]) pl52 zr52 rfl rfl rfl) ?_
      refine D_p rfl (.yes rfl rfl rfl (by first | rfl | (simp; done) | (simp [eqL, eqv, Box.cells]; done) | decide)) (p_eqS lv52 ag52 eg52 rfl rfl rfl rfl rfl) ?_
      refine Dp rfl rfl (p_pick_t rfl rfl (by first | rfl | (simp; done) | (simp [eqL, eqv, Box.cells]; done) | decide) rfl) ?_
      refine Dm rfl rfl rfl rfl ?_
      refine D_rd rfl (.yes rfl rfl rfl (by first | rfl | (simp; done) | (simp [eqL, eqv, Box.cells]; done) | decide)) (rlA (vs := [_, _, _, _]) ag52 sz52 rfl rfl rfl) ?_
      refine D_wr (.go (E' := [(23, _), (17, _), (11, _)]) rfl (.yes rfl rfl rfl (by first | rfl | (simp; done) | (simp [eqL, eqv, Box.cells]; done) | decide)) (w_callP rfl rfl rfl (fun w hg => lspan_c _ _ w)) rfl ?_)
      rintro _ _ ⟨rfl, rfl⟩
      refine ⟨(.cons rfl (.yes rfl rfl rfl (by first | rfl | (simp; done) | (simp [eqL, eqv, Box.cells]; done) | decide)) (rlA (vs := [_, _, _, _]) ag52 sz52 rfl rfl rfl) (.cons rfl (.yes rfl rfl rfl (by first | rfl | (simp; done) | (simp [eqL, eqv, Box.cells]; done) | decide)) (rlA (vs := [_, _, _, _]) ag52 sz52 rfl rfl rfl) (.cons rfl (.yes rfl rfl rfl (by first | rfl | simp | decide)) (rlA (vs := [_, _, _, _, _, _]) ag60 sz60 rfl rfl rfl) .nil))), ?_⟩
      refine D_p rfl (.yes rfl rfl rfl (by first | rfl | (simp; done) | (simp [eqL, eqv, Box.cells]; done) | decide)) (p_build (r := [_, _, _, _]) pl52 zr52 rfl rfl rfl) ?_
      refine D_p rfl (.yes rfl rfl rfl (by first | rfl | (simp; done) | (simp [eqL, eqv, Box.cells]; done) | decide)) (p_eqS lv52 ag52 eg52 rfl rfl rfl rfl rfl) ?_
      refine Dp rfl rfl (p_pick_t rfl rfl (by first | rfl | (simp; done) | (simp [eqL, eqv, Box.cells]; done) | decide) rfl) ?_
      refine Dm rfl rfl rfl rfl ?_
      refine D_wr (.go (E' := [(23, _), (17, _), (11, _)]) rfl (.yes rfl rfl rfl (by first | rfl | (simp; done) | (simp [eqL, eqv, Box.cells]; done) | decide)) (w_callP rfl rfl rfl (fun w hg => lAwake_c w)) rfl ?_)
      rintro _ _ ⟨rfl, rfl⟩
      refine ⟨(.cons rfl (.yes rfl rfl rfl (by first | rfl | (simp; done) | (simp [eqL, eqv, Box.cells]; done) | decide)) (rlA (vs := [_, _, _, _]) ag52 sz52 rfl rfl rfl) (.cons rfl (.yes rfl rfl rfl (by first | rfl | (simp; done) | (simp [eqL, eqv, Box.cells]; done) | decide)) (rlA (vs := [_, _, _, _]) ag52 sz52 rfl rfl rfl) (.cons rfl (.yes rfl rfl rfl (by first | rfl | simp | decide)) (rlA (vs := [_, _, _, _, _, _]) ag60 sz60 rfl rfl rfl) .nil))), ?_⟩
      refine Dp rfl rfl (p_pick_t rfl rfl (by first | rfl | (simp; done) | (simp [eqL, eqv, Box.cells]; done) | decide) rfl) ?_
      refine Dp rfl rfl (p_assign rfl rfl) ?_
      refine D_then (kp [0] rfl) ?_
      refine V_ret ?_
      refine Leave.nil (.tmp rfl .nil) ?_
      rfl
     refine (.go (E' := [(1, _)]) rfl (.plain rfl) (w_alloc zr60 rfl) rfl ?_)
     rintro _ _ ⟨b14, hb14, rfl, rfl⟩
     refine ⟨(.cons rfl (.plain rfl) (rlA (vs := [_, _, _]) ag30 sz30 rfl rfl rfl) .nil), ?_⟩
     refine D_wr (.go (E' := []) rfl (.plain rfl) (w_callP rfl rfl rfl (fun w hg => kC_c x3 x2 _ _ _ _ w (hg.own (x3, _) (by repeat first | exact mH | apply mT | apply List.mem_append_right)) (hg.own (x2, _) (by repeat first | exact mH | apply mT | apply List.mem_append_right)) x4 _ _ (hg.own (x4, _) (by repeat first | exact mH | apply mT | apply List.mem_append_right)))) rfl ?_)
     rintro _ _ ⟨rfl, rfl⟩
     refine ⟨.nil, ?_⟩
     refine Dm rfl rfl rfl rfl ?_
     iterate 2 refine Dp rfl rfl (p_ext rfl rfl rfl) ?_
     refine D_wr (.go (E' := []) rfl (.plain rfl) (ws (cs' := [_, _, _, _, _, _]) sz60 rfl rfl rfl rfl rfl rfl rfl) rfl ?_)
     rintro _ _ ⟨rfl, rfl⟩
     refine ⟨.nil, ?_⟩
     refine Dp rfl rfl (p_assign rfl rfl) ?_
     refine D_then (kp [3, 5, 13] rfl) ?_
     refine Vs rfl ?_
     refine Lm rfl rfl rfl ?_
     refine Lc rfl rfl rfl rfl (fun w hg => lspan_c _ _ w) ?_
     refine Lc rfl rfl rfl rfl (fun w hg => kW_c x2 _ _ w (hg.own (x2, _) (by repeat first | exact mH | apply mT | apply List.mem_append_right))) ?_
     refine Lm rfl rfl rfl ?_
     iterate 2 refine Lp rfl (p_ext rfl rfl rfl) ?_
     refine Lw rfl (w_alloc zr52 rfl) ?_
     rintro _ _ ⟨b15, hb15, rfl, rfl⟩
     refine Ls (cs' := [_, _, _, _]) rfl sz52 rfl rfl rfl rfl rfl rfl rfl ?_
     refine La rfl rfl rfl ?_
     refine L_then (kp [3, 5, 7, 13, 14] rfl) ?_
     refine Vs rfl ?_
     refine Lm rfl rfl rfl ?_
     refine Lc rfl rfl rfl rfl (fun w hg => lspan_c _ _ w) ?_
     refine Lc rfl rfl rfl rfl (fun w hg => kX_c x2 _ _ w (hg.own (x2, _) (by repeat first | exact mH | apply mT | apply List.mem_append_right))) ?_
     refine Lm rfl rfl rfl ?_
     iterate 2 refine Lp rfl (p_ext rfl rfl rfl) ?_
     refine Lw rfl (w_alloc zr52 rfl) ?_
     rintro _ _ ⟨b16, hb16, rfl, rfl⟩
     refine Ls (cs' := [_, _, _, _]) rfl sz52 rfl rfl rfl rfl rfl rfl rfl ?_
     refine La rfl rfl rfl ?_
     refine L_then (kp [5, 7, 13, 14, 15, 16] rfl) ?_
     refine V_seq (V_draw (.rd 0 (.rd 1 (.rd 2 (.rd 3 (.rd 4 (.rd 5 (.rd 6 (.rd 7 (.rd 8 (.rd 9 (.rd 10 (.rd 11 (.wr 12 [11, 9, 8, 7, 6, 5, 4, 3, 2, 1, 0] (.rd 13 (.rd 14 (.rd 15 (.rd 16 (.rd 17 (.wr 18 [17, 15, 14, 13, 11, 10, 9, 8, 7, 6, 5, 4, 3, 2, 1, 0] (.rd 19 (.rd 20 (.rd 21 (.rd 22 (.rd 23 (.wr 24 [23, 21, 20, 19, 17, 16, 15, 14, 13, 11, 10, 9, 8, 7, 6, 5, 4, 3, 2, 1, 0] (.rd 25 (.rd 26 (.rd 27 (.rd 28 (.wr 29 [27, 26, 25, 23, 22, 21, 20, 19, 17, 16, 15, 14, 13, 11, 10, 9, 8, 7, 6, 5, 4, 3, 2, 1, 0] (.rd 30 (.rd 31 .done)))))))))))))))))))))))))))))))) mixed (by kernel_rfl) rfl ?_)
     refine Dm rfl rfl rfl rfl ?_
     refine Dp rfl rfl (p_eql rfl rfl rfl) ?_
     refine Dm rfl rfl rfl rfl ?_
     refine D_p rfl (.yes rfl rfl rfl (by first | rfl | simp | decide)) (p_move rfl rfl) ?_
     refine D_p rfl (.yes rfl rfl rfl (by first | rfl | simp | decide)) (p_eql rfl rfl rfl) ?_
     refine Dp rfl rfl (p_pick_t rfl rfl (by first | rfl | simp | decide) rfl) ?_
     refine Dm rfl rfl rfl rfl ?_
     refine D_p rfl (.yes rfl rfl rfl (by first | rfl | simp | decide)) (p_move rfl rfl) ?_
     refine D_p rfl (.yes rfl rfl rfl (by first | rfl | simp | decide)) (p_eql rfl rfl rfl) ?_
     refine Dp rfl rfl (p_pick_t rfl rfl (by first | rfl | simp | decide) rfl) ?_
     refine Dm rfl rfl rfl rfl ?_
     refine D_rd rfl (.yes rfl rfl rfl (by first | rfl | simp | decide)) (rlA (vs := [_, _, _, _, _, _]) ag60 sz60 rfl rfl rfl) ?_
     refine D_wr (.go (E' := [(11, _)]) rfl (.yes rfl rfl rfl (by first | rfl | simp | decide)) (w_callP rfl rfl rfl (fun w hg => lspan_c _ _ w)) rfl ?_)
     rintro _ _ ⟨rfl, rfl⟩
     refine ⟨(.cons rfl (.yes rfl rfl rfl (by first | rfl | simp | decide)) (rlA (vs := [_, _, _, _, _, _]) ag60 sz60 rfl rfl rfl) .nil), ?_⟩
     refine D_p rfl (.yes rfl rfl rfl (by first | rfl | simp | decide)) (p_build (r := [_, _, _, _, _, _]) pl60 zr60 rfl rfl rfl) ?_
     refine D_p rfl (.yes rfl rfl rfl (by first | rfl | simp | decide)) (p_eqS lv60 ag60 eg60 rfl rfl rfl rfl rfl) ?_
     refine Dp rfl rfl (p_pick_t rfl rfl (by first | rfl | simp | decide) rfl) ?_
     refine Dm rfl rfl rfl rfl ?_
     refine D_rd rfl (.yes rfl rfl rfl (by first | rfl | (simp; done) | (simp [eqL, eqv, Box.cells]; done) | decide)) (rlA (vs := [_, _, _, _]) ag52 sz52 rfl rfl rfl) ?_
     refine D_wr (.go (E' := [(17, _), (11, _)]) rfl (.yes rfl rfl rfl (by first | rfl | (simp; done) | (simp [eqL, eqv, Box.cells]; done) | decide)) (w_callP rfl rfl rfl (fun w hg => lspan_c _ _ w)) rfl ?_)
     rintro _ _ ⟨rfl, rfl⟩
     refine ⟨(.cons rfl (.yes rfl rfl rfl (by first | rfl | (simp; done) | (simp [eqL, eqv, Box.cells]; done) | decide)) (rlA (vs := [_, _, _, _]) ag52 sz52 rfl rfl rfl) (.cons rfl (.yes rfl rfl rfl (by first | rfl | simp | decide)) (rlA (vs := [_, _, _, _, _, _]) ag60 sz60 rfl rfl rfl) .nil)), ?_⟩
     refine D_p rfl (.yes rfl rfl rfl (by first | rfl | (simp; done) | (simp [eqL, eqv, Box.cells]; done) | decide)) (p_build (r := [_, _, _, _]) pl52 zr52 rfl rfl rfl) ?_
     refine D_p rfl (.yes rfl rfl rfl (by first | rfl | (simp; done) | (simp [eqL, eqv, Box.cells]; done) | decide)) (p_eqS lv52 ag52 eg52 rfl rfl rfl rfl rfl) ?_
     refine Dp rfl rfl (p_pick_t rfl rfl (by first | rfl | (simp; done) | (simp [eqL, eqv, Box.cells]; done) | decide) rfl) ?_
     refine Dm rfl rfl rfl rfl ?_
     refine D_rd rfl (.yes rfl rfl rfl (by first | rfl | (simp; done) | (simp [eqL, eqv, Box.cells]; done) | decide)) (rlA (vs := [_, _, _, _]) ag52 sz52 rfl rfl rfl) ?_
     refine D_wr (.go (E' := [(23, _), (17, _), (11, _)]) rfl (.yes rfl rfl rfl (by first | rfl | (simp; done) | (simp [eqL, eqv, Box.cells]; done) | decide)) (w_callP rfl rfl rfl (fun w hg => lspan_c _ _ w)) rfl ?_)
     rintro _ _ ⟨rfl, rfl⟩
     refine ⟨(.cons rfl (.yes rfl rfl rfl (by first | rfl | (simp; done) | (simp [eqL, eqv, Box.cells]; done) | decide)) (rlA (vs := [_, _, _, _]) ag52 sz52 rfl rfl rfl) (.cons rfl (.yes rfl rfl rfl (by first | rfl | (simp; done) | (simp [eqL, eqv, Box.cells]; done) | decide)) (rlA (vs := [_, _, _, _]) ag52 sz52 rfl rfl rfl) (.cons rfl (.yes rfl rfl rfl (by first | rfl | simp | decide)) (rlA (vs := [_, _, _, _, _, _]) ag60 sz60 rfl rfl rfl) .nil))), ?_⟩
     refine D_p rfl (.yes rfl rfl rfl (by first | rfl | (simp; done) | (simp [eqL, eqv, Box.cells]; done) | decide)) (p_build (r := [_, _, _, _]) pl52 zr52 rfl rfl rfl) ?_
     refine D_p rfl (.yes rfl rfl rfl (by first | rfl | (simp; done) | (simp [eqL, eqv, Box.cells]; done) | decide)) (p_eqS lv52 ag52 eg52 rfl rfl rfl rfl rfl) ?_
     refine Dp rfl rfl (p_pick_t rfl rfl (by first | rfl | (simp; done) | (simp [eqL, eqv, Box.cells]; done) | decide) rfl) ?_
     refine Dm rfl rfl rfl rfl ?_
     refine D_wr (.go (E' := [(23, _), (17, _), (11, _)]) rfl (.yes rfl rfl rfl (by first | rfl | (simp; done) | (simp [eqL, eqv, Box.cells]; done) | decide)) (w_callP rfl rfl rfl (fun w hg => lAwake_c w)) rfl ?_)
     rintro _ _ ⟨rfl, rfl⟩
     refine ⟨(.cons rfl (.yes rfl rfl rfl (by first | rfl | (simp; done) | (simp [eqL, eqv, Box.cells]; done) | decide)) (rlA (vs := [_, _, _, _]) ag52 sz52 rfl rfl rfl) (.cons rfl (.yes rfl rfl rfl (by first | rfl | (simp; done) | (simp [eqL, eqv, Box.cells]; done) | decide)) (rlA (vs := [_, _, _, _]) ag52 sz52 rfl rfl rfl) (.cons rfl (.yes rfl rfl rfl (by first | rfl | simp | decide)) (rlA (vs := [_, _, _, _, _, _]) ag60 sz60 rfl rfl rfl) .nil))), ?_⟩
     refine Dp rfl rfl (p_pick_t rfl rfl (by first | rfl | (simp; done) | (simp [eqL, eqv, Box.cells]; done) | decide) rfl) ?_
     refine Dp rfl rfl (p_assign rfl rfl) ?_
     refine D_then (kp [0] rfl) ?_
     refine V_ret ?_
     refine Leave.nil (.tmp rfl .nil) ?_
     rfl
    refine (.go (E' := [(1, _)]) rfl (.plain rfl) (w_alloc zr60 rfl) rfl ?_)
    rintro _ _ ⟨b14, hb14, rfl, rfl⟩
    refine ⟨(.cons rfl (.plain rfl) (rlA (vs := [_, _, _]) ag30 sz30 rfl rfl rfl) .nil), ?_⟩
    refine D_wr (.go (E' := [(1, _)]) rfl (.plain rfl) (w_callP rfl rfl rfl (fun w hg => lspan_c _ _ w)) rfl ?_)
    rintro _ _ ⟨rfl, rfl⟩
    refine ⟨(.cons rfl (.plain rfl) (rlA (vs := [_, _, _]) ag30 sz30 rfl rfl rfl) .nil), ?_⟩
    refine Dp rfl rfl (p_build (r := [_, _, _, _, _, _, _, _, _, _, _, _]) pl44 zr44 rfl rfl rfl) ?_
    refine D_wr (.go (E' := []) rfl (.plain rfl) (w_callP rfl rfl rfl (fun w hg => kC_c x3 x2 _ _ _ _ w (hg.own (x3, _) (by repeat first | exact mH | apply mT | apply List.mem_append_right)) (hg.own (x2, _) (by repeat first | exact mH | apply mT | apply List.mem_append_right)) x4 _ _ (hg.own (x4, _) (by repeat first | exact mH | apply mT | apply List.mem_append_right)))) rfl ?_)
    rintro _ _ ⟨rfl, rfl⟩
    refine ⟨.nil, ?_⟩
    refine Dm rfl rfl rfl rfl ?_
    iterate 2 refine Dp rfl rfl (p_ext rfl rfl rfl) ?_
    refine D_wr (.go (E' := []) rfl (.plain rfl) (ws (cs' := [_, _, _, _, _, _]) sz60 rfl rfl rfl rfl rfl rfl rfl) rfl ?_)
    rintro _ _ ⟨rfl, rfl⟩
    refine ⟨.nil, ?_⟩
    refine Dp rfl rfl (p_assign rfl rfl) ?_
    refine D_then (kp [3, 5, 13] rfl) ?_
    refine Vs rfl ?_
    refine Lm rfl rfl rfl ?_
    refine Lc rfl rfl rfl rfl (fun w hg => lspan_c _ _ w) ?_
    refine Lc rfl rfl rfl rfl (fun w hg => kW_c x2 _ _ w (hg.own (x2, _) (by repeat first | exact mH | apply mT | apply List.mem_append_right))) ?_
    refine Lm rfl rfl rfl ?_
    iterate 2 refine Lp rfl (p_ext rfl rfl rfl) ?_
    refine Lw rfl (w_alloc zr52 rfl) ?_
    rintro _ _ ⟨b15, hb15, rfl, rfl⟩
    refine Ls (cs' := [_, _, _, _]) rfl sz52 rfl rfl rfl rfl rfl rfl rfl ?_
    refine La rfl rfl rfl ?_
    refine L_then (kp [3, 5, 7, 13, 14] rfl) ?_
    refine Vs rfl ?_
    refine Lm rfl rfl rfl ?_
    refine Lc rfl rfl rfl rfl (fun w hg => lspan_c _ _ w) ?_
    refine Lc rfl rfl rfl rfl (fun w hg => kX_c x2 _ _ w (hg.own (x2, _) (by repeat first | exact mH | apply mT | apply List.mem_append_right))) ?_
    refine Lm rfl rfl rfl ?_
    iterate 2 refine Lp rfl (p_ext rfl rfl rfl) ?_
    refine Lw rfl (w_alloc zr52 rfl) ?_
    rintro _ _ ⟨b16, hb16, rfl, rfl⟩
    refine Ls (cs' := [_, _, _, _]) rfl sz52 rfl rfl rfl rfl rfl rfl rfl ?_
    refine La rfl rfl rfl ?_
    refine L_then (kp [5, 7, 13, 14, 15, 16] rfl) ?_
    refine V_seq (V_draw (.rd 0 (.rd 1 (.rd 2 (.rd 3 (.rd 4 (.rd 5 (.rd 6 (.rd 7 (.rd 8 (.rd 9 (.rd 10 (.rd 11 (.wr 12 [11, 9, 8, 7, 6, 5, 4, 3, 2, 1, 0] (.rd 13 (.rd 14 (.rd 15 (.rd 16 (.rd 17 (.wr 18 [17, 15, 14, 13, 11, 10, 9, 8, 7, 6, 5, 4, 3, 2, 1, 0] (.rd 19 (.rd 20 (.rd 21 (.rd 22 (.rd 23 (.wr 24 [23, 21, 20, 19, 17, 16, 15, 14, 13, 11, 10, 9, 8, 7, 6, 5, 4, 3, 2, 1, 0] (.rd 25 (.rd 26 (.rd 27 (.rd 28 (.wr 29 [27, 26, 25, 23, 22, 21, 20, 19, 17, 16, 15, 14, 13, 11, 10, 9, 8, 7, 6, 5, 4, 3, 2, 1, 0] (.rd 30 (.rd 31 .done)))))))))))))))))))))))))))))))) mixed (by kernel_rfl) rfl ?_)
    refine Dm rfl rfl rfl rfl ?_
    refine Dp rfl rfl (p_eql rfl rfl rfl) ?_
    refine Dm rfl rfl rfl rfl ?_
    refine D_p rfl (.yes rfl rfl rfl (by first | rfl | simp | decide)) (p_move rfl rfl) ?_
    refine D_p rfl (.yes rfl rfl rfl (by first | rfl | simp | decide)) (p_eql rfl rfl rfl) ?_
    refine Dp rfl rfl (p_pick_t rfl rfl (by first | rfl | simp | decide) rfl) ?_
    refine Dm rfl rfl rfl rfl ?_
    refine D_p rfl (.yes rfl rfl rfl (by first | rfl | simp | decide)) (p_move rfl rfl) ?_
    refine D_p rfl (.yes rfl rfl rfl (by first | rfl | simp | decide)) (p_eql rfl rfl rfl) ?_
    refine Dp rfl rfl (p_pick_t rfl rfl (by first | rfl | simp | decide) rfl) ?_
    refine Dm rfl rfl rfl rfl ?_
    refine D_rd rfl (.yes rfl rfl rfl (by first | rfl | simp | decide)) (rlA (vs := [_, _, _, _, _, _]) ag60 sz60 rfl rfl rfl) ?_
    refine D_wr (.go (E' := [(11, _)]) rfl (.yes rfl rfl rfl (by first | rfl | simp | decide)) (w_callP rfl rfl rfl (fun w hg => lspan_c _ _ w)) rfl ?_)
    rintro _ _ ⟨rfl, rfl⟩
    refine ⟨(.cons rfl (.yes rfl rfl rfl (by first | rfl | simp | decide)) (rlA (vs := [_, _, _, _, _, _]) ag60 sz60 rfl rfl rfl) .nil), ?_⟩
    refine D_p rfl (.yes rfl rfl rfl (by first | rfl | simp | decide)) (p_build (r := [_, _, _, _, _, _]) pl60 zr60 rfl rfl rfl) ?_
    refine D_p rfl (.yes rfl rfl rfl (by first | rfl | simp | decide)) (p_eqS lv60 ag60 eg60 rfl rfl rfl rfl rfl) ?_
    refine Dp rfl rfl (p_pick_t rfl rfl (by first | rfl | simp | decide) rfl) ?_
    refine Dm rfl rfl rfl rfl ?_
    refine D_rd rfl (.yes rfl rfl rfl (by first | rfl | (simp; done) | (simp [eqL, eqv, Box.cells]; done) | decide)) (rlA (vs := [_, _, _, _]) ag52 sz52 rfl rfl rfl) ?_
    refine D_wr (.go (E' := [(17, _), (11, _)]) rfl (.yes rfl rfl rfl (by first | rfl | (simp; done) | (simp [eqL, eqv, Box.cells]; done) | decide)) (w_callP rfl rfl rfl (fun w hg => lspan_c _ _ w)) rfl ?_)
    rintro _ _ ⟨rfl, rfl⟩
    refine ⟨(.cons rfl (.yes rfl rfl rfl (by first | rfl | (simp; done) | (simp [eqL, eqv, Box.cells]; done) | decide)) (rlA (vs := [_, _, _, _]) ag52 sz52 rfl rfl rfl) (.cons rfl (.yes rfl rfl rfl (by first | rfl | simp | decide)) (rlA (vs := [_, _, _, _, _, _]) ag60 sz60 rfl rfl rfl) .nil)), ?_⟩
    refine D_p rfl (.yes rfl rfl rfl (by first | rfl | (simp; done) | (simp [eqL, eqv, Box.cells]; done) | decide)) (p_build (r := [_, _, _, _]) pl52 zr52 rfl rfl rfl) ?_
    refine D_p rfl (.yes rfl rfl rfl (by first | rfl | (simp; done) | (simp [eqL, eqv, Box.cells]; done) | decide)) (p_eqS lv52 ag52 eg52 rfl rfl rfl rfl rfl) ?_
    refine Dp rfl rfl (p_pick_t rfl rfl (by first | rfl | (simp; done) | (simp [eqL, eqv, Box.cells]; done) | decide) rfl) ?_
    refine Dm rfl rfl rfl rfl ?_
    refine D_rd rfl (.yes rfl rfl rfl (by first | rfl | (simp; done) | (simp [eqL, eqv, Box.cells]; done) | decide)) (rlA (vs := [_, _, _, _]) ag52 sz52 rfl rfl rfl) ?_
    refine D_wr (.go (E' := [(23, _), (17, _), (11, _)]) rfl (.yes rfl rfl rfl (by first | rfl | (simp; done) | (simp [eqL, eqv, Box.cells]; done) | decide)) (w_callP rfl rfl rfl (fun w hg => lspan_c _ _ w)) rfl ?_)
    rintro _ _ ⟨rfl, rfl⟩
    refine ⟨(.cons rfl (.yes rfl rfl rfl (by first | rfl | (simp; done) | (simp [eqL, eqv, Box.cells]; done) | decide)) (rlA (vs := [_, _, _, _]) ag52 sz52 rfl rfl rfl) (.cons rfl (.yes rfl rfl rfl (by first | rfl | (simp; done) | (simp [eqL, eqv, Box.cells]; done) | decide)) (rlA (vs := [_, _, _, _]) ag52 sz52 rfl rfl rfl) (.cons rfl (.yes rfl rfl rfl (by first | rfl | simp | decide)) (rlA (vs := [_, _, _, _, _, _]) ag60 sz60 rfl rfl rfl) .nil))), ?_⟩
    refine D_p rfl (.yes rfl rfl rfl (by first | rfl | (simp; done) | (simp [eqL, eqv, Box.cells]; done) | decide)) (p_build (r := [_, _, _, _]) pl52 zr52 rfl rfl rfl) ?_
    refine D_p rfl (.yes rfl rfl rfl (by first | rfl | (simp; done) | (simp [eqL, eqv, Box.cells]; done) | decide)) (p_eqS lv52 ag52 eg52 rfl rfl rfl rfl rfl) ?_
    refine Dp rfl rfl (p_pick_t rfl rfl (by first | rfl | (simp; done) | (simp [eqL, eqv, Box.cells]; done) | decide) rfl) ?_
    refine Dm rfl rfl rfl rfl ?_
    refine D_wr (.go (E' := [(23, _), (17, _), (11, _)]) rfl (.yes rfl rfl rfl (by first | rfl | (simp; done) | (simp [eqL, eqv, Box.cells]; done) | decide)) (w_callP rfl rfl rfl (fun w hg => lAwake_c w)) rfl ?_)
    rintro _ _ ⟨rfl, rfl⟩
    refine ⟨(.cons rfl (.yes rfl rfl rfl (by first | rfl | (simp; done) | (simp [eqL, eqv, Box.cells]; done) | decide)) (rlA (vs := [_, _, _, _]) ag52 sz52 rfl rfl rfl) (.cons rfl (.yes rfl rfl rfl (by first | rfl | (simp; done) | (simp [eqL, eqv, Box.cells]; done) | decide)) (rlA (vs := [_, _, _, _]) ag52 sz52 rfl rfl rfl) (.cons rfl (.yes rfl rfl rfl (by first | rfl | simp | decide)) (rlA (vs := [_, _, _, _, _, _]) ag60 sz60 rfl rfl rfl) .nil))), ?_⟩
    refine Dp rfl rfl (p_pick_t rfl rfl (by first | rfl | (simp; done) | (simp [eqL, eqv, Box.cells]; done) | decide) rfl) ?_
    refine Dp rfl rfl (p_assign rfl rfl) ?_
    refine D_then (kp [0] rfl) ?_
    refine V_ret ?_
    refine Leave.nil (.tmp rfl .nil) ?_
    rfl
   refine (.go (E' := [(1, _)]) rfl (.plain rfl) (w_alloc zr60 rfl) rfl ?_)
   rintro _ _ ⟨b14, hb14, rfl, rfl⟩
   refine ⟨(.cons rfl (.plain rfl) (rlA (vs := [_, _, _]) ag30 sz30 rfl rfl rfl) .nil), ?_⟩
   refine D_wr (.go (E' := [(1, _)]) rfl (.plain rfl) (w_callP rfl rfl rfl (fun w hg => lspan_c _ _ w)) rfl ?_)
   rintro _ _ ⟨rfl, rfl⟩
   refine ⟨(.cons rfl (.plain rfl) (rlA (vs := [_, _, _]) ag30 sz30 rfl rfl rfl) .nil), ?_⟩
   refine D_wr (.go (E' := [(1, _)]) rfl (.plain rfl) (w_callP rfl rfl rfl (fun w hg => lspan_c _ _ w)) rfl ?_)
   rintro _ _ ⟨rfl, rfl⟩
   refine ⟨(.cons rfl (.plain rfl) (rlA (vs := [_, _, _]) ag30 sz30 rfl rfl rfl) .nil), ?_⟩
   refine Dp rfl rfl (p_build (r := [_, _, _, _, _, _, _, _, _, _, _, _]) pl44 zr44 rfl rfl rfl) ?_
   refine D_wr (.go (E' := []) rfl (.plain rfl) (w_callP rfl rfl rfl (fun w hg => kC_c x3 x2 _ _ _ _ w (hg.own (x3, _) (by repeat first | exact mH | apply mT | apply List.mem_append_right)) (hg.own (x2, _) (by repeat first | exact mH | apply mT | apply List.mem_append_right)) x4 _ _ (hg.own (x4, _) (by repeat first | exact mH | apply mT | apply List.mem_append_right)))) rfl ?_)
   rintro _ _ ⟨rfl, rfl⟩
   refine ⟨.nil, ?_⟩
   refine Dm rfl rfl rfl rfl ?_
   iterate 2 refine Dp rfl rfl (p_ext rfl rfl rfl) ?_
   refine D_wr (.go (E' := []) rfl (.plain rfl) (ws (cs' := [_, _, _, _, _, _]) sz60 rfl rfl rfl rfl rfl rfl rfl) rfl ?_)
   rintro _ _ ⟨rfl, rfl⟩
   refine ⟨.nil, ?_⟩
   refine Dp rfl rfl (p_assign rfl rfl) ?_
   refine D_then (kp [3, 5, 13] rfl) ?_
   refine Vs rfl ?_
   refine Lm rfl rfl rfl ?_
   refine Lc rfl rfl rfl rfl (fun w hg => lspan_c _ _ w) ?_
   refine Lc rfl rfl rfl rfl (fun w hg => kW_c x2 _ _ w (hg.own (x2, _) (by repeat first | exact mH | apply mT | apply List.mem_append_right))) ?_
   refine Lm rfl rfl rfl ?_
   iterate 2 refine Lp rfl (p_ext rfl rfl rfl) ?_
   refine Lw rfl (w_alloc zr52 rfl) ?_
   rintro _ _ ⟨b15, hb15, rfl, rfl⟩
   refine Ls (cs' := [_, _, _, _]) rfl sz52 rfl rfl rfl rfl rfl rfl rfl ?_
   refine La rfl rfl rfl ?_
   refine L_then (kp [3, 5, 7, 13, 14] rfl) ?_
   refine Vs rfl ?_
   refine Lm rfl rfl rfl ?_
   refine Lc rfl rfl rfl rfl (fun w hg => lspan_c _ _ w) ?_
   refine Lc rfl rfl rfl rfl (fun w hg => kX_c x2 _ _ w (hg.own (x2, _) (by repeat first | exact mH | apply mT | apply List.mem_append_right))) ?_
   refine Lm rfl rfl rfl ?_
   iterate 2 refine Lp rfl (p_ext rfl rfl rfl) ?_
   refine Lw rfl (w_alloc zr52 rfl) ?_
   rintro _ _ ⟨b16, hb16, rfl, rfl⟩
   refine Ls (cs' := [_, _, _, _]) rfl sz52 rfl rfl rfl rfl rfl rfl rfl ?_
   refine La rfl rfl rfl ?_
   refine L_then (kp [5, 7, 13, 14, 15, 16] rfl) ?_
   refine V_seq (V_draw (.rd 0 (.rd 1 (.rd 2 (.rd 3 (.rd 4 (.rd 5 (.rd 6 (.rd 7 (.rd 8 (.rd 9 (.rd 10 (.rd 11 (.wr 12 [11, 9, 8, 7, 6, 5, 4, 3, 2, 1, 0] (.rd 13 (.rd 14 (.rd 15 (.rd 16 (.rd 17 (.wr 18 [17, 15, 14, 13, 11, 10, 9, 8, 7, 6, 5, 4, 3, 2, 1, 0] (.rd 19 (.rd 20 (.rd 21 (.rd 22 (.rd 23 (.wr 24 [23, 21, 20, 19, 17, 16, 15, 14, 13, 11, 10, 9, 8, 7, 6, 5, 4, 3, 2, 1, 0] (.rd 25 (.rd 26 (.rd 27 (.rd 28 (.wr 29 [27, 26, 25, 23, 22, 21, 20, 19, 17, 16, 15, 14, 13, 11, 10, 9, 8, 7, 6, 5, 4, 3, 2, 1, 0] (.rd 30 (.rd 31 .done)))))))))))))))))))))))))))))))) mixed (by kernel_rfl) rfl ?_)
   refine Dm rfl rfl rfl rfl ?_
   refine Dp rfl rfl (p_eql rfl rfl rfl) ?_
   refine Dm rfl rfl rfl rfl ?_
   refine D_p rfl (.yes rfl rfl rfl (by first | rfl | simp | decide)) (p_move rfl rfl) ?_
   refine D_p rfl (.yes rfl rfl rfl (by first | rfl | simp | decide)) (p_eql rfl rfl rfl) ?_
   refine Dp rfl rfl (p_pick_t rfl rfl (by first | rfl | simp | decide) rfl) ?_
   refine Dm rfl rfl rfl rfl ?_
   refine D_p rfl (.yes rfl rfl rfl (by first | rfl | simp | decide)) (p_move rfl rfl) ?_
   refine D_p rfl (.yes rfl rfl rfl (by first | rfl | simp | decide)) (p_eql rfl rfl rfl) ?_
   refine Dp rfl rfl (p_pick_t rfl rfl (by first | rfl | simp | decide) rfl) ?_
   refine Dm rfl rfl rfl rfl ?_
   refine D_rd rfl (.yes rfl rfl rfl (by first | rfl | simp | decide)) (rlA (vs := [_, _, _, _, _, _]) ag60 sz60 rfl rfl rfl) ?_
   refine D_wr (.go (E' := [(11, _)]) rfl (.yes rfl rfl rfl (by first | rfl | simp | decide)) (w_callP rfl rfl rfl (fun w hg => lspan_c _ _ w)) rfl ?_)
   rintro _ _ ⟨rfl, rfl⟩
   refine ⟨(.cons rfl (.yes rfl rfl rfl (by first | rfl | simp | decide)) (rlA (vs := [_, _, _, _, _, _]) ag60 sz60 rfl rfl rfl) .nil), ?_⟩
   refine D_p rfl (.yes rfl rfl rfl (by first | rfl | simp | decide)) (p_build (r := [_, _, _, _, _, _]) pl60 zr60 rfl rfl rfl) ?_
   refine D_p rfl (.yes rfl rfl rfl (by first | rfl | simp | decide)) (p_eqS lv60 ag60 eg60 rfl rfl rfl rfl rfl) ?_
   refine Dp rfl rfl (p_pick_t rfl rfl (by first | rfl | simp | decide) rfl) ?_
   refine Dm rfl rfl rfl rfl ?_
   refine D_rd rfl (.yes rfl rfl rfl (by first | rfl | (simp; done) | (simp [eqL, eqv, Box.cells]; done) | decide)) (rlA (vs := [_, _, _, _]) ag52 sz52 rfl rfl rfl) ?_
   refine D_wr (.go (E' := [(17, _), (11, _)]) rfl (.yes rfl rfl rfl (by first | rfl | (simp; done) | (simp [eqL, eqv, Box.cells]; done) | decide)) (w_callP rfl rfl rfl (fun w hg => lspan_c _ _ w)) rfl ?_)
   rintro _ _ ⟨rfl, rfl⟩
   refine ⟨(.cons rfl (.yes rfl rfl rfl (by first | rfl | (simp; done) | (simp [eqL, eqv, Box.cells]; done) | decide)) (rlA (vs := [_, _, _, _]) ag52 sz52 rfl rfl rfl) (.cons rfl (.yes rfl rfl rfl (by first | rfl | simp | decide)) (rlA (vs := [_, _, _, _, _, _]) ag60 sz60 rfl rfl rfl) .nil)), ?_⟩
   refine D_p rfl (.yes rfl rfl rfl (by first | rfl | (simp; done) | (simp [eqL, eqv, Box.cells]; done) | decide)) (p_build (r := [_, _, _, _]) pl52 zr52 rfl rfl rfl) ?_
   refine D_p rfl (.yes rfl rfl rfl (by first | rfl | (simp; done) | (simp [eqL, eqv, Box.cells]; done) | decide)) (p_eqS lv52 ag52 eg52 rfl rfl rfl rfl rfl) ?_
   refine Dp rfl rfl (p_pick_t rfl rfl (by first | rfl | (simp; done) | (simp [eqL, eqv, Box.cells]; done) | decide) rfl) ?_
   refine Dm rfl rfl rfl rfl ?_
   refine D_rd rfl (.yes rfl rfl rfl (by first | rfl | (simp; done) | (simp [eqL, eqv, Box.cells]; done) | decide)) (rlA (vs := [_, _, _, _]) ag52 sz52 rfl rfl rfl) ?_
   refine D_wr (.go (E' := [(23, _), (17, _), (11, _)]) rfl (.yes rfl rfl rfl (by first | rfl | (simp; done) | (simp [eqL, eqv, Box.cells]; done) | decide)) (w_callP rfl rfl rfl (fun w hg => lspan_c _ _ w)) rfl ?_)
   rintro _ _ ⟨rfl, rfl⟩
   refine ⟨(.cons rfl (.yes rfl rfl rfl (by first | rfl | (simp; done) | (simp [eqL, eqv, Box.cells]; done) | decide)) (rlA (vs := [_, _, _, _]) ag52 sz52 rfl rfl rfl) (.cons rfl (.yes rfl rfl rfl (by first | rfl | (simp; done) | (simp [eqL, eqv, Box.cells]; done) | decide)) (rlA (vs := [_, _, _, _]) ag52 sz52 rfl rfl rfl) (.cons rfl (.yes rfl rfl rfl (by first | rfl | simp | decide)) (rlA (vs := [_, _, _, _, _, _]) ag60 sz60 rfl rfl rfl) .nil))), ?_⟩
   refine D_p rfl (.yes rfl rfl rfl (by first | rfl | (simp; done) | (simp [eqL, eqv, Box.cells]; done) | decide)) (p_build (r := [_, _, _, _]) pl52 zr52 rfl rfl rfl) ?_
   refine D_p rfl (.yes rfl rfl rfl (by first | rfl | (simp; done) | (simp [eqL, eqv, Box.cells]; done) | decide)) (p_eqS lv52 ag52 eg52 rfl rfl rfl rfl rfl) ?_
   refine Dp rfl rfl (p_pick_t rfl rfl (by first | rfl | (simp; done) | (simp [eqL, eqv, Box.cells]; done) | decide) rfl) ?_
   refine Dm rfl rfl rfl rfl ?_
   refine D_wr (.go (E' := [(23, _), (17, _), (11, _)]) rfl (.yes rfl rfl rfl (by first | rfl | (simp; done) | (simp [eqL, eqv, Box.cells]; done) | decide)) (w_callP rfl rfl rfl (fun w hg => lAwake_c w)) rfl ?_)
   rintro _ _ ⟨rfl, rfl⟩
   refine ⟨(.cons rfl (.yes rfl rfl rfl (by first | rfl | (simp; done) | (simp [eqL, eqv, Box.cells]; done) | decide)) (rlA (vs := [_, _, _, _]) ag52 sz52 rfl rfl rfl) (.cons rfl (.yes rfl rfl rfl (by first | rfl | (simp; done) | (simp [eqL, eqv, Box.cells]; done) | decide)) (rlA (vs := [_, _, _, _]) ag52 sz52 rfl rfl rfl) (.cons rfl (.yes rfl rfl rfl (by first | rfl | simp | decide)) (rlA (vs := [_, _, _, _, _, _]) ag60 sz60 rfl rfl rfl) .nil))), ?_⟩
   refine Dp rfl rfl (p_pick_t rfl rfl (by first | rfl | (simp; done) | (simp [eqL, eqv, Box.cells]; done) | decide) rfl) ?_
   refine Dp rfl rfl (p_assign rfl rfl) ?_
   refine D_then (kp [0] rfl) ?_
   refine V_ret ?_
   refine Leave.nil (.tmp rfl .nil) ?_
   rfl
  refine (.go (E' := [(1, _)]) rfl (.plain rfl) (w_alloc zr60 rfl) rfl ?_)
  rintro _ _ ⟨b14, hb14, rfl, rfl⟩
  refine ⟨(.cons rfl (.plain rfl) (rlA (vs := [_, _, _]) ag30 sz30 rfl rfl rfl) .nil), ?_⟩
  refine D_wr (.go (E' := [(1, _)]) rfl (.plain rfl) (w_callP rfl rfl rfl (fun w hg => lspan_c _ _ w)) rfl ?_)
  rintro _ _ ⟨rfl, rfl⟩
  refine ⟨(.cons rfl (.plain rfl) (rlA (vs := [_, _, _]) ag30 sz30 rfl rfl rfl) .nil), ?_⟩
  refine D_wr (.go (E' := [(1, _)]) rfl (.plain rfl) (w_callP rfl rfl rfl (fun w hg => lspan_c _ _ w)) rfl ?_)
  rintro _ _ ⟨rfl, rfl⟩
  refine ⟨(.cons rfl (.plain rfl) (rlA (vs := [_, _, _]) ag30 sz30 rfl rfl rfl) .nil), ?_⟩
  refine D_wr (.go (E' := [(1, _)]) rfl (.plain rfl) (w_callP rfl rfl rfl (fun w hg => lspan_c _ _ w)) rfl ?_)
  rintro _ _ ⟨rfl, rfl⟩
  refine ⟨(.cons rfl (.plain rfl) (rlA (vs := [_, _, _]) ag30 sz30 rfl rfl rfl) .nil), ?_⟩
  refine Dp rfl rfl (p_build (r := [_, _, _, _, _, _, _, _, _, _, _, _]) pl44 zr44 rfl rfl rfl) ?_
  refine D_wr (.go (E' := []) rfl (.plain rfl) (w_callP rfl rfl rfl (fun w hg => kC_c x3 x2 _ _ _ _ w (hg.own (x3, _) (by repeat first | exact mH | apply mT | apply List.mem_append_right)) (hg.own (x2, _) (by repeat first | exact mH | apply mT | apply List.mem_append_right)) x4 _ _ (hg.own (x4, _) (by repeat first | exact mH | apply mT | apply List.mem_append_right)))) rfl ?_)
  rintro _ _ ⟨rfl, rfl⟩
  refine ⟨.nil, ?_⟩
  refine Dm rfl rfl rfl rfl ?_
  iterate 2 refine Dp rfl rfl (p_ext rfl rfl rfl) ?_
  refine D_wr (.go (E' := []) rfl (.plain rfl) (ws (cs' := [_, _, _, _, _, _]) sz60 rfl rfl rfl rfl rfl rfl rfl) rfl ?_)
  rintro _ _ ⟨rfl, rfl⟩
  refine ⟨.nil, ?_⟩
  refine Dp rfl rfl (p_assign rfl rfl) ?_
  refine D_then (kp [3, 5, 13] rfl) ?_
  refine Vs rfl ?_
  refine Lm rfl rfl rfl ?_
  refine Lc rfl rfl rfl rfl (fun w hg => lspan_c _ _ w) ?_
  refine Lc rfl rfl rfl rfl (fun w hg => kW_c x2 _ _ w (hg.own (x2, _) (by repeat first | exact mH | apply mT | apply List.mem_append_right))) ?_
  refine Lm rfl rfl rfl ?_
  iterate 2 refine Lp rfl (p_ext rfl rfl rfl) ?_
  refine Lw rfl (w_alloc zr52 rfl) ?_
  rintro _ _ ⟨b15, hb15, rfl, rfl⟩
  refine Ls (cs' := [_, _, _, _]) rfl sz52 rfl rfl rfl rfl rfl rfl rfl ?_
  refine La rfl rfl rfl ?_
  refine L_then (kp [3, 5, 7, 13, 14] rfl) ?_
  refine Vs rfl ?_
  refine Lm rfl rfl rfl ?_
  refine Lc rfl rfl rfl rfl (fun w hg => lspan_c _ _ w) ?_
  refine Lc rfl rfl rfl rfl (fun w hg => kX_c x2 _ _ w (hg.own (x2, _) (by repeat first | exact mH | apply mT | apply List.mem_append_right))) ?_
  refine Lm rfl rfl rfl ?_
  iterate 2 refine Lp rfl (p_ext rfl rfl rfl) ?_
  refine Lw rfl (w_alloc zr52 rfl) ?_
  rintro _ _ ⟨b16, hb16, rfl, rfl⟩
  refine Ls (cs' := [_, _, _, _]) rfl sz52 rfl rfl rfl rfl rfl rfl rfl ?_
  refine La rfl rfl rfl ?_
  refine L_then (kp [5, 7, 13, 14, 15, 16] rfl) ?_
  refine V_seq (V_draw (.rd 0 (.rd 1 (.rd 2 (.rd 3 (.rd 4 (.rd 5 (.rd 6 (.rd 7 (.rd 8 (.rd 9 (.rd 10 (.rd 11 (.wr 12 [11, 9, 8, 7, 6, 5, 4, 3, 2, 1, 0] (.rd 13 (.rd 14 (.rd 15 (.rd 16 (.rd 17 (.wr 18 [17, 15, 14, 13, 11, 10, 9, 8, 7, 6, 5, 4, 3, 2, 1, 0] (.rd 19 (.rd 20 (.rd 21 (.rd 22 (.rd 23 (.wr 24 [23, 21, 20, 19, 17, 16, 15, 14, 13, 11, 10, 9, 8, 7, 6, 5, 4, 3, 2, 1, 0] (.rd 25 (.rd 26 (.rd 27 (.rd 28 (.wr 29 [27, 26, 25, 23, 22, 21, 20, 19, 17, 16, 15, 14, 13, 11, 10, 9, 8, 7, 6, 5, 4, 3, 2, 1, 0] (.rd 30 (.rd 31 .done)))))))))))))))))))))))))))))))) mixed (by kernel_rfl) rfl ?_)
  refine Dm rfl rfl rfl rfl ?_
  refine Dp rfl rfl (p_eql rfl rfl rfl) ?_
  refine Dm rfl rfl rfl rfl ?_
  refine D_p rfl (.yes rfl rfl rfl (by first | rfl | simp | decide)) (p_move rfl rfl) ?_
  refine D_p rfl (.yes rfl rfl rfl (by first | rfl | simp | decide)) (p_eql rfl rfl rfl) ?_
  refine Dp rfl rfl (p_pick_t rfl rfl (by first | rfl | simp | decide) rfl) ?_
  refine Dm rfl rfl rfl rfl ?_
  refine D_p rfl (.yes rfl rfl rfl (by first | rfl | simp | decide)) (p_move rfl rfl) ?_
  refine D_p rfl (.yes rfl rfl rfl (by first | rfl | simp | decide)) (p_eql rfl rfl rfl) ?_
  refine Dp rfl rfl (p_pick_t rfl rfl (by first | rfl | simp | decide) rfl) ?_
  refine Dm rfl rfl rfl rfl ?_
  refine D_rd rfl (.yes rfl rfl rfl (by first | rfl | simp | decide)) (rlA (vs := [_, _, _, _, _, _]) ag60 sz60 rfl rfl rfl) ?_
  refine D_wr (.go (E' := [(11, _)]) rfl (.yes rfl rfl rfl (by first | rfl | simp | decide)) (w_callP rfl rfl rfl (fun w hg => lspan_c _ _ w)) rfl ?_)
  rintro _ _ ⟨rfl, rfl⟩
  refine ⟨(.cons rfl (.yes rfl rfl rfl (by first | rfl | simp | decide)) (rlA (vs := [_, _, _, _, _, _]) ag60 sz60 rfl rfl rfl) .nil), ?_⟩
  refine D_p rfl (.yes rfl rfl rfl (by first | rfl | simp | decide)) (p_build (r := [_, _, _, _, _, _]) pl60 zr60 rfl rfl rfl) ?_
  refine D_p rfl (.yes rfl rfl rfl (by first | rfl | simp | decide)) (p_eqS lv60 ag60 eg60 rfl rfl rfl rfl rfl) ?_
  refine Dp rfl rfl (p_pick_t rfl rfl (by first | rfl | simp | decide) rfl) ?_
  refine Dm rfl rfl rfl rfl ?_
  refine D_rd rfl (.yes rfl rfl rfl (by first | rfl | (simp; done) | (simp [eqL, eqv, Box.cells]; done) | decide)) (rlA (vs := [_, _, _, _]) ag52 sz52 rfl rfl rfl) ?_
  refine D_wr (.go (E' := [(17, _), (11, _)]) rfl (.yes rfl rfl rfl (by first | rfl | (simp; done) | (simp [eqL, eqv, Box.cells]; done) | decide)) (w_callP rfl rfl rfl (fun w hg => lspan_c _ _ w)) rfl ?_)
  rintro _ _ ⟨rfl, rfl⟩
  refine ⟨(.cons rfl (.yes rfl rfl rfl (by first | rfl | (simp; done) | (simp [eqL, eqv, Box.cells]; done) | decide)) (rlA (vs := [_, _, _, _]) ag52 sz52 rfl rfl rfl) (.cons rfl (.yes rfl rfl rfl (by first | rfl | simp | decide)) (rlA (vs := [_, _, _, _, _, _]) ag60 sz60 rfl rfl rfl) .nil)), ?_⟩
  refine D_p rfl (.yes rfl rfl rfl (by first | rfl | (simp; done) | (simp [eqL, eqv, Box.cells]; done) | decide)) (p_build (r := [_, _, _, _]) pl52 zr52 rfl rfl rfl) ?_
  refine D_p rfl (.yes rfl rfl rfl (by first | rfl | (simp; done) | (simp [eqL, eqv, Box.cells]; done) | decide)) (p_eqS lv52 ag52 eg52 rfl rfl rfl rfl rfl) ?_
  refine Dp rfl rfl (p_pick_t rfl rfl (by first | rfl | (simp; done) | (simp [eqL, eqv, Box.cells]; done) | decide) rfl) ?_
  refine Dm rfl rfl rfl rfl ?_
  refine D_rd rfl (.yes rfl rfl rfl (by first | rfl | (simp; done) | (simp [eqL, eqv, Box.cells]; done) | decide)) (rlA (vs := [_, _, _, _]) ag52 sz52 rfl rfl rfl) ?_
  refine D_wr (.go (E' := [(23, _), (17, _), (11, _)]) rfl (.yes rfl rfl rfl (by first | rfl | (simp; done) | (simp [eqL, eqv, Box.cells]; done) | decide)) (w_callP rfl rfl rfl (fun w hg => lspan_c _ _ w)) rfl ?_)
  rintro _ _ ⟨rfl, rfl⟩
  refine ⟨(.cons rfl (.yes rfl rfl rfl (by first | rfl | (simp; done) | (simp [eqL, eqv, Box.cells]; done) | decide)) (rlA (vs := [_, _, _, _]) ag52 sz52 rfl rfl rfl) (.cons rfl (.yes rfl rfl rfl (by first | rfl | (simp; done) | (simp [eqL, eqv, Box.cells]; done) | decide)) (rlA (vs := [_, _, _, _]) ag52 sz52 rfl rfl rfl) (.cons rfl (.yes rfl rfl rfl (by first | rfl | simp | decide)) (rlA (vs := [_, _, _, _, _, _]) ag60 sz60 rfl rfl rfl) .nil))), ?_⟩
  refine D_p rfl (.yes rfl rfl rfl (by first | rfl | (simp; done) | (simp [eqL, eqv, Box.cells]; done) | decide)) (p_build (r := [_, _, _, _]) pl52 zr52 rfl rfl rfl) ?_
  refine D_p rfl (.yes rfl rfl rfl (by first | rfl | (simp; done) | (simp [eqL, eqv, Box.cells]; done) | decide)) (p_eqS lv52 ag52 eg52 rfl rfl rfl rfl rfl) ?_
  refine Dp rfl rfl (p_pick_t rfl rfl (by first | rfl | (simp; done) | (simp [eqL, eqv, Box.cells]; done) | decide) rfl) ?_
  refine Dm rfl rfl rfl rfl ?_
  refine D_wr (.go (E' := [(23, _), (17, _), (11, _)]) rfl (.yes rfl rfl rfl (by first | rfl | (simp; done) | (simp [eqL, eqv, Box.cells]; done) | decide)) (w_callP rfl rfl rfl (fun w hg => lAwake_c w)) rfl ?_)
  rintro _ _ ⟨rfl, rfl⟩
  refine ⟨(.cons rfl (.yes rfl rfl rfl (by first | rfl | (simp; done) | (simp [eqL, eqv, Box.cells]; done) | decide)) (rlA (vs := [_, _, _, _]) ag52 sz52 rfl rfl rfl) (.cons rfl (.yes rfl rfl rfl (by first | rfl | (simp; done) | (simp [eqL, eqv, Box.cells]; done) | decide)) (rlA (vs := [_, _, _, _]) ag52 sz52 rfl rfl rfl) (.cons rfl (.yes rfl rfl rfl (by first | rfl | simp | decide)) (rlA (vs := [_, _, _, _, _, _]) ag60 sz60 rfl rfl rfl) .nil))), ?_⟩
  refine Dp rfl rfl (p_pick_t rfl rfl (by first | rfl | (simp; done) | (simp [eqL, eqv, Box.cells]; done) | decide) rfl) ?_
  refine Dp rfl rfl (p_assign rfl rfl) ?_
  refine D_then (kp [0] rfl) ?_
  refine V_ret ?_
  refine Leave.nil (.tmp rfl .nil) ?_
  rfl
 refine (.go (E' := [(1, _)]) rfl (.plain rfl) (w_alloc zr60 rfl) rfl ?_)
 rintro _ _ ⟨b13, hb13, rfl, rfl⟩
 refine ⟨(.cons rfl (.plain rfl) (rlA (vs := [_, _, _]) ag30 sz30 rfl rfl rfl) .nil), ?_⟩
 refine D_wr (.go (E' := [(1, _)]) rfl (.plain rfl) (w_callN rfl rfl rfl (fun w hg => lWindy_c w)) rfl ?_)
 rintro _ _ ⟨_, rfl, _, x3, x4, rfl, rfl⟩
 refine ⟨(.cons rfl (.plain rfl) (rlA (vs := [_, _, _]) ag30 sz30 rfl rfl rfl) .nil), ?_⟩
 refine D_wr (.go (E' := [(1, _)]) rfl (.plain rfl) (w_callP rfl rfl rfl (fun w hg => lspan_c _ _ w)) rfl ?_)
 rintro _ _ ⟨rfl, rfl⟩
 refine ⟨(.cons rfl (.plain rfl) (rlA (vs := [_, _, _]) ag30 sz30 rfl rfl rfl) .nil), ?_⟩
 refine D_wr (.go (E' := [(1, _)]) rfl (.plain rfl) (w_callP rfl rfl rfl (fun w hg => lspan_c _ _ w)) rfl ?_)
 rintro _ _ ⟨rfl, rfl⟩
 refine ⟨(.cons rfl (.plain rfl) (rlA (vs := [_, _, _]) ag30 sz30 rfl rfl rfl) .nil), ?_⟩
 refine D_wr (.go (E' := [(1, _)]) rfl (.plain rfl) (w_callP rfl rfl rfl (fun w hg => lspan_c _ _ w)) rfl ?_)
 rintro _ _ ⟨rfl, rfl⟩
 refine ⟨(.cons rfl (.plain rfl) (rlA (vs := [_, _, _]) ag30 sz30 rfl rfl rfl) .nil), ?_⟩
 refine Dp rfl rfl (p_build (r := [_, _, _, _, _, _, _, _, _, _, _, _]) pl44 zr44 rfl rfl rfl) ?_
 refine D_wr (.go (E' := []) rfl (.plain rfl) (w_callP rfl rfl rfl (fun w hg => kC_c x3 x2 _ _ _ _ w (hg.own (x3, _) (by repeat first | exact mH | apply mT | apply List.mem_append_right)) (hg.own (x2, _) (by repeat first | exact mH | apply mT | apply List.mem_append_right)) x4 _ _ (hg.own (x4, _) (by repeat first | exact mH | apply mT | apply List.mem_append_right)))) rfl ?_)
 rintro _ _ ⟨rfl, rfl⟩
 refine ⟨.nil, ?_⟩
 refine Dm rfl rfl rfl rfl ?_
 iterate 2 refine Dp rfl rfl (p_ext rfl rfl rfl) ?_
 refine D_wr (.go (E' := []) rfl (.plain rfl) (ws (cs' := [_, _, _, _, _, _]) sz60 rfl rfl rfl rfl rfl rfl rfl) rfl ?_)
 rintro _ _ ⟨rfl, rfl⟩
 refine ⟨.nil, ?_⟩
 refine Dp rfl rfl (p_assign rfl rfl) ?_
 refine D_then (kp [3, 5, 13] rfl) ?_
 refine Vs rfl ?_
 refine Lm rfl rfl rfl ?_
 refine Lc rfl rfl rfl rfl (fun w hg => lspan_c _ _ w) ?_
 refine Lc rfl rfl rfl rfl (fun w hg => kW_c x2 _ _ w (hg.own (x2, _) (by repeat first | exact mH | apply mT | apply List.mem_append_right))) ?_
 refine Lm rfl rfl rfl ?_
 iterate 2 refine Lp rfl (p_ext rfl rfl rfl) ?_
 refine Lw rfl (w_alloc zr52 rfl) ?_
 rintro _ _ ⟨b15, hb15, rfl, rfl⟩
 refine Ls (cs' := [_, _, _, _]) rfl sz52 rfl rfl rfl rfl rfl rfl rfl ?_
 refine La rfl rfl rfl ?_
 refine L_then (kp [3, 5, 7, 13, 14] rfl) ?_
 refine Vs rfl ?_
 refine Lm rfl rfl rfl ?_
 refine Lc rfl rfl rfl rfl (fun w hg => lspan_c _ _ w) ?_
 refine Lc rfl rfl rfl rfl (fun w hg => kX_c x2 _ _ w (hg.own (x2, _) (by repeat first | exact mH | apply mT | apply List.mem_append_right))) ?_
 refine Lm rfl rfl rfl ?_
 iterate 2 refine Lp rfl (p_ext rfl rfl rfl) ?_
 refine Lw rfl (w_alloc zr52 rfl) ?_
 rintro _ _ ⟨b16, hb16, rfl, rfl⟩
 refine Ls (cs' := [_, _, _, _]) rfl sz52 rfl rfl rfl rfl rfl rfl rfl ?_
 refine La rfl rfl rfl ?_
 refine L_then (kp [5, 7, 13, 14, 15, 16] rfl) ?_
 refine V_seq (V_draw (.rd 0 (.rd 1 (.rd 2 (.rd 3 (.rd 4 (.rd 5 (.rd 6 (.rd 7 (.rd 8 (.rd 9 (.rd 10 (.rd 11 (.wr 12 [11, 9, 8, 7, 6, 5, 4, 3, 2, 1, 0] (.rd 13 (.rd 14 (.rd 15 (.rd 16 (.rd 17 (.wr 18 [17, 15, 14, 13, 11, 10, 9, 8, 7, 6, 5, 4, 3, 2, 1, 0] (.rd 19 (.rd 20 (.rd 21 (.rd 22 (.rd 23 (.wr 24 [23, 21, 20, 19, 17, 16, 15, 14, 13, 11, 10, 9, 8, 7, 6, 5, 4, 3, 2, 1, 0] (.rd 25 (.rd 26 (.rd 27 (.rd 28 (.wr 29 [27, 26, 25, 23, 22, 21, 20, 19, 17, 16, 15, 14, 13, 11, 10, 9, 8, 7, 6, 5, 4, 3, 2, 1, 0] (.rd 30 (.rd 31 .done)))))))))))))))))))))))))))))))) mixed (by kernel_rfl) rfl ?_)
 refine Dm rfl rfl rfl rfl ?_
 refine Dp rfl rfl (p_eql rfl rfl rfl) ?_
 refine Dm rfl rfl rfl rfl ?_
 refine D_p rfl (.yes rfl rfl rfl (by first | rfl | simp | decide)) (p_move rfl rfl) ?_
 refine D_p rfl (.yes rfl rfl rfl (by first | rfl | simp | decide)) (p_eql rfl rfl rfl) ?_
 refine Dp rfl rfl (p_pick_t rfl rfl (by first | rfl | simp | decide) rfl) ?_
 refine Dm rfl rfl rfl rfl ?_
 refine D_p rfl (.yes rfl rfl rfl (by first | rfl | simp | decide)) (p_move rfl rfl) ?_
 refine D_p rfl (.yes rfl rfl rfl (by first | rfl | simp | decide)) (p_eql rfl rfl rfl) ?_
 refine Dp rfl rfl (p_pick_t rfl rfl (by first | rfl | simp | decide) rfl) ?_
 refine Dm rfl rfl rfl rfl ?_
 refine D_rd rfl (.yes rfl rfl rfl (by first | rfl | simp | decide)) (rlA (vs := [_, _, _, _, _, _]) ag60 sz60 rfl rfl rfl) ?_
 refine D_wr (.go (E' := [(11, _)]) rfl (.yes rfl rfl rfl (by first | rfl | simp | decide)) (w_callP rfl rfl rfl (fun w hg => lspan_c _ _ w)) rfl ?_)
 rintro _ _ ⟨rfl, rfl⟩
 refine ⟨(.cons rfl (.yes rfl rfl rfl (by first | rfl | simp | decide)) (rlA (vs := [_, _, _, _, _, _]) ag60 sz60 rfl rfl rfl) .nil), ?_⟩
 refine D_p rfl (.yes rfl rfl rfl (by first | rfl | simp | decide)) (p_build (r := [_, _, _, _, _, _]) pl60 zr60 rfl rfl rfl) ?_
 refine D_p rfl (.yes rfl rfl rfl (by first | rfl | simp | decide)) (p_eqS lv60 ag60 eg60 rfl rfl rfl rfl rfl) ?_
 refine Dp rfl rfl (p_pick_t rfl rfl (by first | rfl | simp | decide) rfl) ?_
 refine Dm rfl rfl rfl rfl ?_
 refine D_rd rfl (.yes rfl rfl rfl (by first | rfl | (simp; done) | (simp [eqL, eqv, Box.cells]; done) | decide)) (rlA (vs := [_, _, _, _]) ag52 sz52 rfl rfl rfl) ?_
 refine D_wr (.go (E' := [(17, _), (11, _)]) rfl (.yes rfl rfl rfl (by first | rfl | (simp; done) | (simp [eqL, eqv, Box.cells]; done) | decide)) (w_callP rfl rfl rfl (fun w hg => lspan_c _ _ w)) rfl ?_)
 rintro _ _ ⟨rfl, rfl⟩
 refine ⟨(.cons rfl (.yes rfl rfl rfl (by first | rfl | (simp; done) | (simp [eqL, eqv, Box.cells]; done) | decide)) (rlA (vs := [_, _, _, _]) ag52 sz52 rfl rfl rfl) (.cons rfl (.yes rfl rfl rfl (by first | rfl | simp | decide)) (rlA (vs := [_, _, _, _, _, _]) ag60 sz60 rfl rfl rfl) .nil)), ?_⟩
 refine D_p rfl (.yes rfl rfl rfl (by first | rfl | (simp; done) | (simp [eqL, eqv, Box.cells]; done) | decide)) (p_build (r := [_, _, _, _]) pl52 zr52 rfl rfl rfl) ?_
 refine D_p rfl (.yes rfl rfl rfl (by first | rfl | (simp; done) | (simp [eqL, eqv, Box.cells]; done) | decide)) (p_eqS lv52 ag52 eg52 rfl rfl rfl rfl rfl) ?_
 refine Dp rfl rfl (p_pick_t rfl rfl (by first | rfl | (simp; done) | (simp [eqL, eqv, Box.cells]; done) | decide) rfl) ?_
 refine Dm rfl rfl rfl rfl ?_
 refine D_rd rfl (.yes rfl rfl rfl (by first | rfl | (simp; done) | (simp [eqL, eqv, Box.cells]; done) | decide)) (rlA (vs := [_, _, _, _]) ag52 sz52 rfl rfl rfl) ?_
 refine D_wr (.go (E' := [(23, _), (17, _), (11, _)]) rfl (.yes rfl rfl rfl (by first | rfl | (simp; done) | (simp [eqL, eqv, Box.cells]; done) | decide)) (w_callP rfl rfl rfl (fun w hg => lspan_c _ _ w)) rfl ?_)
 rintro _ _ ⟨rfl, rfl⟩
 refine ⟨(.cons rfl (.yes rfl rfl rfl (by first | rfl | (simp; done) | (simp [eqL, eqv, Box.cells]; done) | decide)) (rlA (vs := [_, _, _, _]) ag52 sz52 rfl rfl rfl) (.cons rfl (.yes rfl rfl rfl (by first | rfl | (simp; done) | (simp [eqL, eqv, Box.cells]; done) | decide)) (rlA (vs := [_, _, _, _]) ag52 sz52 rfl rfl rfl) (.cons rfl (.yes rfl rfl rfl (by first | rfl | simp | decide)) (rlA (vs := [_, _, _, _, _, _]) ag60 sz60 rfl rfl rfl) .nil))), ?_⟩
 refine D_p rfl (.yes rfl rfl rfl (by first | rfl | (simp; done) | (simp [eqL, eqv, Box.cells]; done) | decide)) (p_build (r := [_, _, _, _]) pl52 zr52 rfl rfl rfl) ?_
 refine D_p rfl (.yes rfl rfl rfl (by first | rfl | (simp; done) | (simp [eqL, eqv, Box.cells]; done) | decide)) (p_eqS lv52 ag52 eg52 rfl rfl rfl rfl rfl) ?_
 refine Dp rfl rfl (p_pick_t rfl rfl (by first | rfl | (simp; done) | (simp [eqL, eqv, Box.cells]; done) | decide) rfl) ?_
 refine Dm rfl rfl rfl rfl ?_
 refine D_wr (.go (E' := [(23, _), (17, _), (11, _)]) rfl (.yes rfl rfl rfl (by first | rfl | (simp; done) | (simp [eqL, eqv, Box.cells]; done) | decide)) (w_callP rfl rfl rfl (fun w hg => lAwake_c w)) rfl ?_)
 rintro _ _ ⟨rfl, rfl⟩
 refine ⟨(.cons rfl (.yes rfl rfl rfl (by first | rfl | (simp; done) | (simp [eqL, eqv, Box.cells]; done) | decide)) (rlA (vs := [_, _, _, _]) ag52 sz52 rfl rfl rfl) (.cons rfl (.yes rfl rfl rfl (by first | rfl | (simp; done) | (simp [eqL, eqv, Box.cells]; done) | decide)) (rlA (vs := [_, _, _, _]) ag52 sz52 rfl rfl rfl) (.cons rfl (.yes rfl rfl rfl (by first | rfl | simp | decide)) (rlA (vs := [_, _, _, _, _, _]) ag60 sz60 rfl rfl rfl) .nil))), ?_⟩
 refine Dp rfl rfl (p_pick_t rfl rfl (by first | rfl | (simp; done) | (simp [eqL, eqv, Box.cells]; done) | decide) rfl) ?_
 refine Dp rfl rfl (p_assign rfl rfl) ?_
 refine D_then (kp [0] rfl) ?_
 refine V_ret ?_
 refine Leave.nil (.tmp rfl .nil) ?_
 rfl

theorem own_ : ownKnob Try.prog.godebug = none := by kernel_rfl

theorem flightKnown_lifted (os : Os) (started : os.Started) (H : Type) (enc : TypeId × Value → H) :
  ReturnsInHanded {} Try.checked os 4 .any (Rows.flightKnownSpec.pre6 enc Try.prog Try.f4 Rows.flightKnownRow.domain false) (Rows.flightKnownSpec.post enc Try.prog Try.f4 false true false false) := by
 refine returnsInHanded_of_change (C := Try.checked) own_ started (by kernel_rfl) Try.func4
  (ChangeSpec.witness6 (enc := enc) (C := Try.checked) false ⟨#[], #[], []⟩ 8 (by kernel_rfl) (by kernel_rfl) (by kernel_rfl) (by kernel_rfl)) ?_
 intro W base args ds gs before hval0 hW hcnd _
 have hval : ∀ (j : Nat) t v, Try.f4.params[j]? = some t → args[j]? = some v → Value.okWide Try.prog W .any base t v := hval0
 have hW' := hW
 obtain ⟨pA, pB, hA0, hV, rfl, _, _⟩ := hW
 have hA : DataW.TrodAll enc Try.prog W 0 (fun _ => true) true Try.f4.params.toList args.toList ds pA := hA0
 clear hA0 hval0
 rw [Try.params4] at hA hval
 obtain ⟨rfl, rfl⟩ := trodVars_none hV
 obtain ⟨ea0, rfl, rfl⟩ := trodAll_nil hA
 have ea : args = #[] := Array.toList_inj.1 ea0
 subst ea
 skip
 refine (calls_of (flightKnown_c W)).mono ?_
 rintro _ W' ⟨_, rfl, rfl, hE⟩
 exact ⟨_, rfl, post_true hW' rfl hE (by kernel_rfl) (by kernel_rfl) rfl rfl rfl (by kernel_rfl) Try.underlying4⟩

theorem flightKnown_holds : Rows.FlightKnownSaid :=
 OpenClaim.holds_of_wide 4 Try.f4 rfl rfl rfl rfl rfl rfl rfl ⟨rfl, rfl, rfl, rfl, rfl⟩ rfl rfl rfl rfl rfl (by kernel_rfl) Try.func4 (by kernel_rfl)
  (of_decide_eq_true (by kernel_rfl)) (by unfold Func.isWrapper; first | (rw [if_pos (by decide +kernel)]; kernel_rfl) | (rw [if_neg (by decide +kernel)]; exact ⟨rfl, rfl⟩))
  (fun os started H enc _ => flightKnown_lifted os started H enc)
#print axioms flightKnown_holds

end Go.Proofs.Ytbncegfgjbdheab
