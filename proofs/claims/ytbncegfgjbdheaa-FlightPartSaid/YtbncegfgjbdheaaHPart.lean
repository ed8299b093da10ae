/- Ytbncegfgjbdheaa: FlightPart is proved: for any vehicle, shot and shares (no condition) it returns true. -/
import Derived.Test.YtbncegfgjbdheaaRows
import Derived.Test.YtbncegfgjbdheaaZap
import Derived.Test.YtbncegfgjbdheaaZaf
import Derived.Test.YtbncegfgjbdheaaZam
import Derived.Test.YtbncegfgjbdheaaZal
import Derived.Test.YtbncegfgjbdheaaZao
import Derived.ProofKit
set_option linter.all false
namespace Go.Proofs.Ytbncegfgjbdheaa
open Go.Vc Go.Tk Go.Fl Go.ChangeShapes Go.WideShapes Go.ChangeAt Go.RowKit
set_option maxRecDepth 100000
theorem lhas_c (s : Span) (n : Int) (h : Fl.hasS s n = true) (w : World) : FnP Try.prog 75 [.agg #[.int .i64 s.lo, .int .i64 s.hi], .int .i64 n] w (.bool true) := by
 refine fn_pure Try.func75 rfl (by kernel_rfl) Try.ntmps75 Try.results75 rfl ?_
 refine Vs rfl ?_
 refine Lw rfl (w_box rfl rfl) ?_
 rintro _ _ ⟨b1, hb1, rfl, rfl⟩
 refine La rfl rfl rfl ?_
 refine L_then (kp [1, 2] rfl) ?_
 refine Vs rfl ?_
 refine Lp rfl (p_fieldo fo23_0 rfl rfl) ?_
 refine Lr rfl (rl ag3 rfl rfl rfl) ?_
 refine Lm rfl rfl rfl ?_
 refine Lp rfl (p_leq rfl rfl rfl) ?_
 refine Lm rfl rfl rfl ?_
 refine L_yes rfl rfl rfl (decide_eq_true (hasS_iff.1 h).1) (X_p (p_move rfl rfl) ?_)
 refine L_yes rfl rfl rfl (decide_eq_true (hasS_iff.1 h).1) (X_p (p_fieldo fo23_1 rfl rfl) ?_)
 refine L_yes rfl rfl rfl (decide_eq_true (hasS_iff.1 h).1) (X_rd (rl ag3 rfl rfl rfl) ?_)
 refine L_yes rfl rfl rfl (decide_eq_true (hasS_iff.1 h).1) (X_p (p_leq rfl rfl rfl) ?_)
 refine Lp rfl (p_pick_t rfl rfl (decide_eq_true (hasS_iff.1 h).1) rfl) ?_
 refine La rfl rfl rfl ?_
 refine L_then (kp [4] rfl) ?_
 refine V_ret ?_
 refine Leave.nil (.tmp rfl .nil) ?_
 show Value.bool (decide _) = _
 rw [decide_eq_true (hasS_iff.1 h).2]
theorem linside_c (s : St) (p : Fl.Pt) (h : InT (Fl.ptS p) s) (w : World) : FnP Try.prog 34 [.agg #[.int .i64 s.p.x.lo, .int .i64 s.p.x.hi, .int .i64 s.p.y.lo, .int .i64 s.p.y.hi, .int .i64 s.p.z.lo, .int .i64 s.p.z.hi, .int .i64 s.v.x.lo, .int .i64 s.v.x.hi, .int .i64 s.v.y.lo, .int .i64 s.v.y.hi, .int .i64 s.v.z.lo, .int .i64 s.v.z.hi], .agg #[.int .i64 p.x, .int .i64 p.y, .int .i64 p.z, .int .i64 p.vx, .int .i64 p.vy, .int .i64 p.vz]] w (.bool true) := by
 refine fn_pure Try.func34 rfl (by kernel_rfl) Try.ntmps34 Try.results34 rfl ?_
 refine Vs rfl ?_
 refine Lw rfl (w_box rfl rfl) ?_
 rintro _ _ ⟨b1, hb1, rfl, rfl⟩
 refine Lw rfl (w_box rfl rfl) ?_
 rintro _ _ ⟨b2, hb2, rfl, rfl⟩
 refine La rfl rfl rfl ?_
 refine L_then (kp [2, 3] rfl) ?_
 refine Vs rfl ?_
 refine Lp rfl (p_fieldo fo54_0 rfl rfl) ?_
 refine Lr rfl (rlA (vs := [_, _]) ag23 sz23 rfl rfl rfl) ?_
 refine Lp rfl (p_fieldo fo88_0 rfl rfl) ?_
 refine Lr rfl (rl ag3 rfl rfl rfl) ?_
 refine Lc rfl rfl rfl rfl (fun w hg => lhas_c s.p.x p.x (hasS_iff.2 h.p.x) w) ?_
 refine Lm rfl rfl rfl ?_
 refine L_yes rfl rfl rfl rfl (X_p (p_fieldo fo54_1 rfl rfl) ?_)
 refine L_yes rfl rfl rfl rfl (X_rd (rlA (vs := [_, _]) ag23 sz23 rfl rfl rfl) ?_)
 refine L_yes rfl rfl rfl rfl (X_p (p_fieldo fo88_1 rfl rfl) ?_)
 refine L_yes rfl rfl rfl rfl (X_rd (rl ag3 rfl rfl rfl) ?_)
 refine L_yes rfl rfl rfl rfl (X_wr (w_callP rfl rfl rfl (fun w hg => lhas_c s.p.y p.y (hasS_iff.2 h.p.y) w)) ?_)
 rintro _ _ ⟨rfl, rfl⟩
 refine Lp rfl (p_pick_t rfl rfl rfl rfl) ?_
 refine Lm rfl rfl rfl ?_
 refine L_yes rfl rfl rfl rfl (X_p (p_fieldo fo54_2 rfl rfl) ?_)
 refine L_yes rfl rfl rfl rfl (X_rd (rlA (vs := [_, _]) ag23 sz23 rfl rfl rfl) ?_)
 refine L_yes rfl rfl rfl rfl (X_p (p_fieldo fo88_2 rfl rfl) ?_)
 refine L_yes rfl rfl rfl rfl (X_rd (rl ag3 rfl rfl rfl) ?_)
 refine L_yes rfl rfl rfl rfl (X_wr (w_callP rfl rfl rfl (fun w hg => lhas_c s.p.z p.z (hasS_iff.2 h.p.z) w)) ?_)
 rintro _ _ ⟨rfl, rfl⟩
 refine Lp rfl (p_pick_t rfl rfl rfl rfl) ?_
 refine Lm rfl rfl rfl ?_
 refine L_yes rfl rfl rfl rfl (X_p (p_fieldo fo54_3 rfl rfl) ?_)
 refine L_yes rfl rfl rfl rfl (X_rd (rlA (vs := [_, _]) ag23 sz23 rfl rfl rfl) ?_)
 refine L_yes rfl rfl rfl rfl (X_p (p_fieldo fo88_3 rfl rfl) ?_)
 refine L_yes rfl rfl rfl rfl (X_rd (rl ag3 rfl rfl rfl) ?_)
 refine L_yes rfl rfl rfl rfl (X_wr (w_callP rfl rfl rfl (fun w hg => lhas_c s.v.x p.vx (hasS_iff.2 h.v.x) w)) ?_)
 rintro _ _ ⟨rfl, rfl⟩
 refine Lp rfl (p_pick_t rfl rfl rfl rfl) ?_
 refine Lm rfl rfl rfl ?_
 refine L_yes rfl rfl rfl rfl (X_p (p_fieldo fo54_4 rfl rfl) ?_)
 refine L_yes rfl rfl rfl rfl (X_rd (rlA (vs := [_, _]) ag23 sz23 rfl rfl rfl) ?_)
 refine L_yes rfl rfl rfl rfl (X_p (p_fieldo fo88_4 rfl rfl) ?_)
 refine L_yes rfl rfl rfl rfl (X_rd (rl ag3 rfl rfl rfl) ?_)
 refine L_yes rfl rfl rfl rfl (X_wr (w_callP rfl rfl rfl (fun w hg => lhas_c s.v.y p.vy (hasS_iff.2 h.v.y) w)) ?_)
 rintro _ _ ⟨rfl, rfl⟩
 refine Lp rfl (p_pick_t rfl rfl rfl rfl) ?_
 refine Lm rfl rfl rfl ?_
 refine L_yes rfl rfl rfl rfl (X_p (p_fieldo fo54_5 rfl rfl) ?_)
 refine L_yes rfl rfl rfl rfl (X_rd (rlA (vs := [_, _]) ag23 sz23 rfl rfl rfl) ?_)
 refine L_yes rfl rfl rfl rfl (X_p (p_fieldo fo88_5 rfl rfl) ?_)
 refine L_yes rfl rfl rfl rfl (X_rd (rl ag3 rfl rfl rfl) ?_)
 refine L_yes rfl rfl rfl rfl (X_wr (w_callP rfl rfl rfl (fun w hg => lhas_c s.v.z p.vz (hasS_iff.2 h.v.z) w)) ?_)
 rintro _ _ ⟨rfl, rfl⟩
 refine Lp rfl (p_pick_t rfl rfl rfl rfl) ?_
 refine La rfl rfl rfl ?_
 refine L_then (kp [4] rfl) ?_
 refine V_ret ?_
 refine Leave.nil (.tmp rfl .nil) ?_
 rfl
theorem llandsE_c (x : Fl.Imp) (q : List Fl.Pt) (frm floor : Int) (qv : Value) (h : downE q floor ≠ 0) (w : World) (hq : PtsR w qv q) : FnP Try.prog 35 [.agg #[.int .i64 x.piece, .int .i64 x.x.lo, .int .i64 x.x.hi, .int .i64 x.y.lo, .int .i64 x.y.hi, .int .i64 x.at_.lo, .int .i64 x.at_.hi], qv, .int .i64 frm, .int .i64 floor] w (.bool true) := by
 refine fn_pure Try.func35 rfl (by kernel_rfl) Try.ntmps35 Try.results35 rfl ?_
 refine Vs rfl ?_
 refine Lw rfl (w_box rfl rfl) ?_
 rintro _ _ ⟨b1, hb1, rfl, rfl⟩
 refine La rfl rfl rfl ?_
 refine L_then (kp [1, 2, 3, 4] rfl) ?_
 refine Vs rfl ?_
 iterate 2 refine Lm rfl rfl rfl ?_
 refine Lc rfl rfl rfl rfl (fun w hg => fDown_c q floor _ w (hq.good hg)) ?_
 refine Lm rfl rfl rfl ?_
 iterate 3 refine Lp rfl (p_ext rfl rfl rfl) ?_
 refine Lw rfl (w_alloc zr142 rfl) ?_
 rintro _ _ ⟨b2, hb2, rfl, rfl⟩
 refine Ls (cs' := [_, _]) rfl sz142 rfl rfl rfl rfl rfl rfl rfl ?_
 iterate 2 refine La rfl rfl rfl ?_
 refine L_then (kp [2, 4, 9, 10, 11] rfl) ?_
 refine Vs rfl ?_
 refine Lm rfl rfl rfl ?_
 refine Lp rfl (p_neq rfl rfl rfl) ?_
 refine Lm rfl rfl rfl ?_
 iterate 7 refine L_no rfl rfl rfl (decide_eq_true h) ?_
 iterate 6 refine L_nou rfl rfl rfl ?_
 iterate 2 refine L_no rfl rfl rfl (decide_eq_true h) ?_
 iterate 6 refine L_nou rfl rfl rfl ?_
 refine L_no rfl rfl rfl (decide_eq_true h) ?_
 refine Lp rfl (p_pick_t rfl rfl (decide_eq_true h) rfl) ?_
 refine La rfl rfl rfl ?_
 refine L_then (kp [8] rfl) ?_
 refine V_ret ?_
 refine Leave.nil (.tmp rfl .nil) ?_
 rfl
theorem llandsO_c (x : Fl.Imp) (q : List Fl.Pt) (frm floor : Int) (qv : Value) (h : downE q floor = 0) (hb : (0 ≤ frm ∧ frm ≤ 3000) ∧ 0 ≤ (downP q floor).2.2 ∧ (downP q floor).2.2 ≤ 3001) (h2 : Fl.hasS x.at_ (frm + (downP q floor).2.2) = true ∧ Fl.hasS x.x (downP q floor).1 = true ∧ Fl.hasS x.y (downP q floor).2.1 = true) (w : World) (hq : PtsR w qv q) : FnP Try.prog 35 [.agg #[.int .i64 x.piece, .int .i64 x.x.lo, .int .i64 x.x.hi, .int .i64 x.y.lo, .int .i64 x.y.hi, .int .i64 x.at_.lo, .int .i64 x.at_.hi], qv, .int .i64 frm, .int .i64 floor] w (.bool true) := by
 refine fn_pure Try.func35 rfl (by kernel_rfl) Try.ntmps35 Try.results35 rfl ?_
 refine Vs rfl ?_
 refine Lw rfl (w_box rfl rfl) ?_
 rintro _ _ ⟨b1, hb1, rfl, rfl⟩
 refine La rfl rfl rfl ?_
 refine L_then (kp [1, 2, 3, 4] rfl) ?_
 refine Vs rfl ?_
 iterate 2 refine Lm rfl rfl rfl ?_
 refine Lc rfl rfl rfl rfl (fun w hg => fDown_c q floor _ w (hq.good hg)) ?_
 refine Lm rfl rfl rfl ?_
 iterate 3 refine Lp rfl (p_ext rfl rfl rfl) ?_
 refine Lw rfl (w_alloc zr142 rfl) ?_
 rintro _ _ ⟨b2, hb2, rfl, rfl⟩
 refine Ls (cs' := [_, _]) rfl sz142 rfl rfl rfl rfl rfl rfl rfl ?_
 iterate 2 refine La rfl rfl rfl ?_
 refine L_then (kp [2, 4, 9, 10, 11] rfl) ?_
 refine Vs rfl ?_
 refine Lm rfl rfl rfl ?_
 refine Lp rfl (p_neq rfl rfl rfl) ?_
 refine Lm rfl rfl rfl ?_
 refine L_yes rfl rfl rfl (decide_eq_false (fun k => k h)) (X_p (p_fieldo fo62_2 rfl rfl) ?_)
 refine L_yes rfl rfl rfl (decide_eq_false (fun k => k h)) (X_rd (rlA (vs := [_, _]) ag23 sz23 rfl rfl rfl) ?_)
 refine L_yes rfl rfl rfl (decide_eq_false (fun k => k h)) (X_p (p_move rfl rfl) ?_)
 refine L_yes rfl rfl rfl (decide_eq_false (fun k => k h)) (X_p (p_move rfl rfl) ?_)
 first | refine L_yes rfl rfl rfl (decide_eq_false (fun k => k h)) (X_p (p_add' rfl rfl rfl (by unfold InI; omega)) ?_) | refine L_yes rfl rfl rfl (decide_eq_false (fun k => k h)) (X_p (p_add rfl rfl rfl) ?_)
 refine L_yes rfl rfl rfl (decide_eq_false (fun k => k h)) (X_wr (w_callP rfl rfl rfl (fun w hg => lhas_c x.at_ (frm + (downP q floor).2.2) h2.1 w)) ?_)
 rintro _ _ ⟨rfl, rfl⟩
 refine L_yes rfl rfl rfl (decide_eq_false (fun k => k h)) (X_p (p_move rfl rfl) ?_)
 refine L_yes rfl rfl rfl rfl (X_p (p_fieldo fo62_1 rfl rfl) ?_)
 refine L_yes rfl rfl rfl rfl (X_p (p_fieldo fo60_0 rfl rfl) ?_)
 refine L_yes rfl rfl rfl rfl (X_rd (rlA (vs := [_, _]) ag23 sz23 rfl rfl rfl) ?_)
 refine L_yes rfl rfl rfl rfl (X_p (p_fieldo fo142_0 rfl rfl) ?_)
 refine L_yes rfl rfl rfl rfl (X_rd (rl ag3 rfl rfl rfl) ?_)
 refine L_yes rfl rfl rfl rfl (X_wr (w_callP rfl rfl rfl (fun w hg => lhas_c x.x (downP q floor).1 h2.2.1 w)) ?_)
 rintro _ _ ⟨rfl, rfl⟩
 refine L_yes rfl rfl rfl (decide_eq_false (fun k => k h)) (X_p (p_pick_t rfl rfl rfl rfl) ?_)
 refine L_yes rfl rfl rfl (decide_eq_false (fun k => k h)) (X_p (p_move rfl rfl) ?_)
 refine L_yes rfl rfl rfl rfl (X_p (p_fieldo fo62_1 rfl rfl) ?_)
 refine L_yes rfl rfl rfl rfl (X_p (p_fieldo fo60_1 rfl rfl) ?_)
 refine L_yes rfl rfl rfl rfl (X_rd (rlA (vs := [_, _]) ag23 sz23 rfl rfl rfl) ?_)
 refine L_yes rfl rfl rfl rfl (X_p (p_fieldo fo142_1 rfl rfl) ?_)
 refine L_yes rfl rfl rfl rfl (X_rd (rl ag3 rfl rfl rfl) ?_)
 refine L_yes rfl rfl rfl rfl (X_wr (w_callP rfl rfl rfl (fun w hg => lhas_c x.y (downP q floor).2.1 h2.2.2 w)) ?_)
 rintro _ _ ⟨rfl, rfl⟩
 refine L_yes rfl rfl rfl (decide_eq_false (fun k => k h)) (X_p (p_pick_t rfl rfl rfl rfl) ?_)
 refine Lp rfl (p_pick_f rfl rfl (decide_eq_false (fun k => k h)) rfl) ?_
 refine La rfl rfl rfl ?_
 refine L_then (kp [8] rfl) ?_
 refine V_ret ?_
 refine Leave.nil (.tmp rfl .nil) ?_
 rfl
theorem llands_c (x : Fl.Imp) (q : List Fl.Pt) (frm floor : Int) (qv : Value) (h2 : downE q floor = 0 → Fl.hasS x.at_ (frm + (downP q floor).2.2) = true ∧ Fl.hasS x.x (downP q floor).1 = true ∧ Fl.hasS x.y (downP q floor).2.1 = true) (hs : strayE q = 0) (hf : 0 ≤ frm ∧ frm ≤ 3000) (w : World) (hq : PtsR w qv q) : FnP Try.prog 35 [.agg #[.int .i64 x.piece, .int .i64 x.x.lo, .int .i64 x.x.hi, .int .i64 x.y.lo, .int .i64 x.y.hi, .int .i64 x.at_.lo, .int .i64 x.at_.hi], qv, .int .i64 frm, .int .i64 floor] w (.bool true) := by
 by_cases h : downE q floor = 0
 ·obtain ⟨e, h3, _⟩ := down_inv h
  have h4 := (stray_0 hs).1
  exact llandsO_c x q frm floor qv h ⟨hf, by rw [e]; dsimp only; omega, by rw [e]; dsimp only; omega⟩ (h2 h) w hq
 exact llandsE_c x q frm floor qv h w hq
theorem lpick_c (s : Span) (hs : -4000000000 ≤ s.lo ∧ s.lo ≤ s.hi ∧ s.hi ≤ 4000000000) (sh : List Int) (sv : Value) (h8 : ∀ n ∈ sh, 0 ≤ n ∧ n ≤ 255) (hll : (sh.length : Int) ≤ 9223372036854775807) (i : Int) (hi : 0 ≤ i) (w : World) (hS : SliceR w 1 sv (sh.map fun n => [Value.int .u8 n])) : FnP Try.prog 32 [.agg #[.int .i64 s.lo, .int .i64 s.hi], sv, .int .i64 i] w (.int .i64 (De.pickI s sh i)) := by
 have hS2 := hS
 obtain ⟨la, lc, rfl, hlc, _⟩ := hS.ex
 simp only [List.length_map] at hS2 ⊢
 clear hS
 refine fn_pure Try.func32 rfl (by kernel_rfl) Try.ntmps32 Try.results32 rfl ?_
 refine Vs rfl ?_
 refine Lw rfl (w_box rfl rfl) ?_
 rintro _ _ ⟨b1, hb1, rfl, rfl⟩
 refine La rfl rfl rfl ?_
 refine L_then (kp [1, 2, 3] rfl) ?_
 refine V_seq ?_
 refine Vs rfl ?_
 refine Lm rfl rfl rfl ?_
 refine Lp rfl (p_len isl85 rfl rfl) ?_
 refine Lp rfl (p_eql rfl rfl rfl) ?_
 refine L_then (kp [1, 2, 3, 9] rfl) ?_
 refine V_cond rfl ?_ ?_
 ·intro c1; try simp only [td] at c1
  refine Vs rfl ?_
  refine Lp rfl (p_fieldo fo23_0 rfl rfl) ?_
  refine Lr rfl (rl ag3 rfl rfl rfl) ?_
  refine La rfl rfl rfl ?_
  refine L_then (kp [6] rfl) ?_
  refine V_ret (then_r ?_)
  refine Leave.nil (.tmp rfl .nil) ?_
  show Value.int .i64 _ = _
  rw [De.pickI, if_pos (by omega)]
 intro c1; try simp only [td] at c1
 have hn0 : 0 < sh.length := by omega
 obtain ⟨hm, hme⟩ := tmod_nat (i := i) hi hn0
 obtain ⟨xb, rfl, hxc⟩ := hS2.at (i := (i.tmod (sh.length : Int)).toNat) (getD_cells (f := fun n => [Value.int .u8 n]) (d := 0) (by rw [hme]; exact Nat.mod_lt _ hn0))
 have hs8 := De.share_getD h8 (i.tmod (sh.length : Int)).toNat
 obtain ⟨hq1, hq2⟩ := De.share_nums hs hs8
 refine V_skip (then_n ?_)
 refine V_seq (V_draw (.rd 0 (.rd 1 (.rd 2 (.rd 3 (.rd 4 (.rd 5 (.rd 6 (.rd 7 (.rd 8 (.rd 9 (.rd 10 (.rd 11 (.rd 12 (.rd 13 (.rd 14 (.rd 15 (.rd 16 (.rd 17 (.rd 18 .done))))))))))))))))))) mixed (by kernel_rfl) rfl ?_)
 refine Dp rfl rfl (p_fieldo fo23_0 rfl rfl) ?_
 refine Dr rfl rfl (rl ag3 rfl rfl rfl) ?_
 refine Dp rfl rfl (p_fieldo fo23_1 rfl rfl) ?_
 refine Dr rfl rfl (rl ag3 rfl rfl rfl) ?_
 refine Dp rfl rfl (p_fieldo fo23_0 rfl rfl) ?_
 refine Dr rfl rfl (rl ag3 rfl rfl rfl) ?_
 first | refine Dp rfl rfl (p_sub' rfl rfl rfl (by unfold InI; omega)) ?_ | refine Dp rfl rfl (p_sub rfl rfl rfl) ?_
 iterate 3 refine Dm rfl rfl rfl rfl ?_
 refine Dp rfl rfl (p_len isl85 rfl rfl) ?_
 refine Dp rfl rfl (p_rem rfl rfl rfl (by first | decide | omega)) ?_
 refine Dp rfl rfl (p_idx es85 rfl rfl rfl (by omega) (by omega)) ?_
 refine Dr rfl rfl (r_loadB ag5 rfl rfl hxc.zero List.not_mem_nil) ?_
 refine Dp rfl rfl (p_convI un5 un3 rfl rfl (by unfold InI; omega)) ?_
 refine Dp rfl rfl (p_mul' rfl rfl rfl (by unfold InI; omega)) ?_
 refine Dp rfl rfl (p_quo' rfl rfl rfl (by first | decide | omega) (by unfold InI; omega)) ?_
 first | refine Dp rfl rfl (p_add' rfl rfl rfl (by unfold InI; omega)) ?_ | refine Dp rfl rfl (p_add rfl rfl rfl) ?_
 refine Dp rfl rfl (p_assign rfl rfl) ?_
 refine D_then (kp [6] rfl) ?_
 refine V_ret ?_
 refine Leave.nil (.tmp rfl .nil) ?_
 show Value.int .i64 _ = _
 rw [De.pickI, if_neg (by omega)]; rfl
theorem lforceP_c (v : Veh) (d : Dir) (l : List Fl.Band) (x : Piece) (av pv qv bv : Value) (b ty : Nat) (fr : Nat × Nat) (p : Fl.Pt) (ha : askedF v d l = 0) (hx : PcB x) (hs : farS (Fl.ptS p) = false) (w : World) (hb : w.heap[b]? = some (.cells (Phase.cells ⟨1, Fl.spZ, x.mass, x.drag, axZ⟩).toArray ty fr)) (hv : VehR w (VehV v av pv qv) v) (hl : BdsR w bv l) : FnP Try.prog 33 [VehV (partV v x) av (.slice (some ⟨b, 0, none⟩) 1 1) (.slice none 0 0), .agg #[.int .i64 d.x, .int .i64 d.y, .int .i64 d.z], bv, .int .i64 2, .agg #[.int .i64 p.x, .int .i64 p.x, .int .i64 p.y, .int .i64 p.y, .int .i64 p.z, .int .i64 p.z, .int .i64 p.vx, .int .i64 p.vx, .int .i64 p.vy, .int .i64 p.vy, .int .i64 p.vz, .int .i64 p.vz]] w (.tuple #[.agg #[.int .i64 (forceT v d l (pcPh x) (Fl.ptS p)).x.lo, .int .i64 (forceT v d l (pcPh x) (Fl.ptS p)).x.hi, .int .i64 (forceT v d l (pcPh x) (Fl.ptS p)).y.lo, .int .i64 (forceT v d l (pcPh x) (Fl.ptS p)).y.hi, .int .i64 (forceT v d l (pcPh x) (Fl.ptS p)).z.lo, .int .i64 (forceT v d l (pcPh x) (Fl.ptS p)).z.hi], .int .i64 0]) := by
 have h9 := fForce_c (partV v x) d l _ _ _ bv w (part_R hv hb) hl 2 (Fl.ptS p)
 rwa [(part_fE ha hx hs).1, (part_fE ha hx hs).2] at h9
theorem flightPartA (v : Veh) (d : Dir) (l : List Fl.Band) (av pv qv bv : Value) (n m : Int) (w : World) (hv : VehR w (VehV v av pv qv) v) (hl : BdsR w bv l) (sh : List Int) (sv : Value) (h8 : ∀ n ∈ sh, 0 ≤ n ∧ n ≤ 255) (hll : (sh.length : Int) ≤ 9223372036854775807) (hS : SliceR w 1 sv (sh.map fun n => [Value.int .u8 n])) (h : ¬ ((0 ≤ n ∧ n ≤ 300) ∧ 0 ≤ m ∧ m < v.pieces.length)) : FnP Try.prog 10 [VehV v av pv qv, .agg #[.int .i64 d.x, .int .i64 d.y, .int .i64 d.z, bv, .int .i64 n, .int .i64 m], sv] w (.bool true) := by
 have hL := hl
 obtain ⟨ba, bc, rfl, hbc, hbe⟩ := hl.sl.ex
 simp only [List.length_map] at hL ⊢
 obtain ⟨aa, ac, rfl, _, _⟩ := hv.sl.1.ex
 obtain ⟨pa, pc, rfl, _, _⟩ := hv.sl.2.1.ex
 obtain ⟨qa, qc, rfl, hqc, hqe⟩ := hv.sl.2.2.ex
 simp only [List.length_map] at hqc hv ⊢
 refine fn_pure Try.func10 rfl (by kernel_rfl) Try.ntmps10 Try.results10 rfl ?_
 refine Vs rfl ?_
 refine Lw rfl (w_box rfl rfl) ?_
 rintro _ _ ⟨b1, hb1, rfl, rfl⟩
 refine Lw rfl (w_box rfl rfl) ?_
 rintro _ _ ⟨b2, hb2, rfl, rfl⟩
 refine La rfl rfl rfl ?_
 refine L_then (kp [2, 3, 4] rfl) ?_
 refine V_seq ?_
 refine Vs rfl ?_
 refine Lp rfl (p_fieldo fo39_2 rfl rfl) ?_
 refine Lr rfl (rl ag3 rfl rfl rfl) ?_
 refine Lp rfl (p_lss rfl rfl rfl) ?_
 refine Lm rfl rfl rfl ?_
 refine L_cases (d := 25) rfl ?_ ?_
 ·intro g1; have g1' := g1; try simp only [td] at g1'
  iterate 3 refine L_no rfl rfl rfl g1 ?_
  refine Lp rfl (p_pick_t rfl rfl g1 rfl) ?_
  refine Lm rfl rfl rfl ?_
  iterate 3 refine L_no rfl rfl rfl rfl ?_
  refine Lp rfl (p_pick_t rfl rfl rfl rfl) ?_
  refine Lm rfl rfl rfl ?_
  iterate 6 refine L_no rfl rfl rfl rfl ?_
  refine Lp rfl (p_pick_t rfl rfl rfl rfl) ?_
  refine L_then (kp [2, 3, 4, 42] rfl) ?_
  refine V_cond_t rfl rfl ?_
  refine Vs rfl ?_
  refine Lc rfl rfl rfl rfl (fun w hg => lAwake_c w) ?_
  refine La rfl rfl rfl ?_
  refine L_then (kp [6] rfl) ?_
  refine V_ret (then_r ?_)
  refine Leave.nil (.tmp rfl .nil) ?_
  rfl
 intro g1; have g1' := g1; try simp only [td] at g1'
 refine L_yes rfl rfl rfl g1 (X_p (p_fieldo fo39_2 rfl rfl) ?_)
 refine L_yes rfl rfl rfl g1 (X_rd (rl ag3 rfl rfl rfl) ?_)
 refine L_yes rfl rfl rfl g1 (X_p (p_gtr rfl rfl rfl) ?_)
 refine Lp rfl (p_pick_f rfl rfl g1 rfl) ?_
 refine Lm rfl rfl rfl ?_
 refine L_cases (d := 30) rfl ?_ ?_
 ·intro g2; have g2' := g2; try simp only [td] at g2'
  iterate 3 refine L_no rfl rfl rfl g2 ?_
  refine Lp rfl (p_pick_t rfl rfl g2 rfl) ?_
  refine Lm rfl rfl rfl ?_
  iterate 6 refine L_no rfl rfl rfl rfl ?_
  refine Lp rfl (p_pick_t rfl rfl rfl rfl) ?_
  refine L_then (kp [2, 3, 4, 42] rfl) ?_
  refine V_cond_t rfl rfl ?_
  refine Vs rfl ?_
  refine Lc rfl rfl rfl rfl (fun w hg => lAwake_c w) ?_
  refine La rfl rfl rfl ?_
  refine L_then (kp [6] rfl) ?_
  refine V_ret (then_r ?_)
  refine Leave.nil (.tmp rfl .nil) ?_
  rfl
 intro g2; have g2' := g2; try simp only [td] at g2'
 refine L_yes rfl rfl rfl g2 (X_p (p_fieldo fo39_3 rfl rfl) ?_)
 refine L_yes rfl rfl rfl g2 (X_rd (rl ag3 rfl rfl rfl) ?_)
 refine L_yes rfl rfl rfl g2 (X_p (p_lss rfl rfl rfl) ?_)
 refine Lp rfl (p_pick_f rfl rfl g2 rfl) ?_
 refine Lm rfl rfl rfl ?_
 refine L_cases (d := 35) rfl ?_ ?_
 ·intro g3; have g3' := g3; try simp only [td] at g3'
  iterate 6 refine L_no rfl rfl rfl g3 ?_
  refine Lp rfl (p_pick_t rfl rfl g3 rfl) ?_
  refine L_then (kp [2, 3, 4, 42] rfl) ?_
  refine V_cond_t rfl rfl ?_
  refine Vs rfl ?_
  refine Lc rfl rfl rfl rfl (fun w hg => lAwake_c w) ?_
  refine La rfl rfl rfl ?_
  refine L_then (kp [6] rfl) ?_
  refine V_ret (then_r ?_)
  refine Leave.nil (.tmp rfl .nil) ?_
  rfl
 intro g3; have g3' := g3; try simp only [td] at g3'
 refine L_yes rfl rfl rfl g3 (X_p (p_fieldo fo39_3 rfl rfl) ?_)
 refine L_yes rfl rfl rfl g3 (X_rd (rl ag3 rfl rfl rfl) ?_)
 refine L_yes rfl rfl rfl g3 (X_p (p_fieldo fo28_4 rfl rfl) ?_)
 refine L_yes rfl rfl rfl g3 (X_rd (rl ag26 rfl rfl rfl) ?_)
 refine L_yes rfl rfl rfl g3 (X_p (p_len isl26 rfl rfl) ?_)
 refine L_yes rfl rfl rfl g3 (X_p (p_geq rfl rfl rfl) ?_)
 refine Lp rfl (p_pick_f rfl rfl g3 rfl) ?_
 refine L_then (kp [2, 3, 4, 42] rfl) ?_
 refine V_cond rfl ?_ ?_
 ·intro c1; try simp only [td] at c1
  refine Vs rfl ?_
  refine Lc rfl rfl rfl rfl (fun w hg => lAwake_c w) ?_
  refine La rfl rfl rfl ?_
  refine L_then (kp [6] rfl) ?_
  refine V_ret (then_r ?_)
  refine Leave.nil (.tmp rfl .nil) ?_
  rfl
 intro c1; try simp only [td] at c1
 exfalso; omega
theorem flightPartB (v : Veh) (d : Dir) (l : List Fl.Band) (av pv qv bv : Value) (n m : Int) (w : World) (hv : VehR w (VehV v av pv qv) v) (hl : BdsR w bv l) (sh : List Int) (sv : Value) (h8 : ∀ n ∈ sh, 0 ≤ n ∧ n ≤ 255) (hll : (sh.length : Int) ≤ 9223372036854775807) (hS : SliceR w 1 sv (sh.map fun n => [Value.int .u8 n])) (hnm : (0 ≤ n ∧ n ≤ 300) ∧ 0 ≤ m ∧ m < v.pieces.length) (hf : flyE v d l (v.pieces.getD m.toNat pcZ).at_ ≠ 0) : FnP Try.prog 10 [VehV v av pv qv, .agg #[.int .i64 d.x, .int .i64 d.y, .int .i64 d.z, bv, .int .i64 n, .int .i64 m], sv] w (.bool true) := by
 have hL := hl
 obtain ⟨ba, bc, rfl, hbc, hbe⟩ := hl.sl.ex
 simp only [List.length_map] at hL ⊢
 obtain ⟨aa, ac, rfl, _, _⟩ := hv.sl.1.ex
 obtain ⟨pa, pc, rfl, _, _⟩ := hv.sl.2.1.ex
 obtain ⟨qa, qc, rfl, hqc, hqe⟩ := hv.sl.2.2.ex
 simp only [List.length_map] at hqc hv ⊢
 refine fn_pure Try.func10 rfl (by kernel_rfl) Try.ntmps10 Try.results10 rfl ?_
 refine Vs rfl ?_
 refine Lw rfl (w_box rfl rfl) ?_
 rintro _ _ ⟨b1, hb1, rfl, rfl⟩
 refine Lw rfl (w_box rfl rfl) ?_
 rintro _ _ ⟨b2, hb2, rfl, rfl⟩
 refine La rfl rfl rfl ?_
 refine L_then (kp [2, 3, 4] rfl) ?_
 refine V_seq ?_
 refine Vs rfl ?_
 refine Lp rfl (p_fieldo fo39_2 rfl rfl) ?_
 refine Lr rfl (rl ag3 rfl rfl rfl) ?_
 refine Lp rfl (p_lss rfl rfl rfl) ?_
 refine Lm rfl rfl rfl ?_
 refine L_cases (d := 25) rfl ?_ ?_
 ·intro g1; have g1' := g1; try simp only [td] at g1'
  exfalso; omega
 intro g1; have g1' := g1; try simp only [td] at g1'
 refine L_yes rfl rfl rfl g1 (X_p (p_fieldo fo39_2 rfl rfl) ?_)
 refine L_yes rfl rfl rfl g1 (X_rd (rl ag3 rfl rfl rfl) ?_)
 refine L_yes rfl rfl rfl g1 (X_p (p_gtr rfl rfl rfl) ?_)
 refine Lp rfl (p_pick_f rfl rfl g1 rfl) ?_
 refine Lm rfl rfl rfl ?_
 refine L_cases (d := 30) rfl ?_ ?_
 ·intro g2; have g2' := g2; try simp only [td] at g2'
  exfalso; omega
 intro g2; have g2' := g2; try simp only [td] at g2'
 refine L_yes rfl rfl rfl g2 (X_p (p_fieldo fo39_3 rfl rfl) ?_)
 refine L_yes rfl rfl rfl g2 (X_rd (rl ag3 rfl rfl rfl) ?_)
 refine L_yes rfl rfl rfl g2 (X_p (p_lss rfl rfl rfl) ?_)
 refine Lp rfl (p_pick_f rfl rfl g2 rfl) ?_
 refine Lm rfl rfl rfl ?_
 refine L_cases (d := 35) rfl ?_ ?_
 ·intro g3; have g3' := g3; try simp only [td] at g3'
  exfalso; omega
 intro g3; have g3' := g3; try simp only [td] at g3'
 refine L_yes rfl rfl rfl g3 (X_p (p_fieldo fo39_3 rfl rfl) ?_)
 refine L_yes rfl rfl rfl g3 (X_rd (rl ag3 rfl rfl rfl) ?_)
 refine L_yes rfl rfl rfl g3 (X_p (p_fieldo fo28_4 rfl rfl) ?_)
 refine L_yes rfl rfl rfl g3 (X_rd (rl ag26 rfl rfl rfl) ?_)
 refine L_yes rfl rfl rfl g3 (X_p (p_len isl26 rfl rfl) ?_)
 refine L_yes rfl rfl rfl g3 (X_p (p_geq rfl rfl rfl) ?_)
 refine Lp rfl (p_pick_f rfl rfl g3 rfl) ?_
 refine L_then (kp [2, 3, 4, 42] rfl) ?_
 refine V_cond rfl ?_ ?_
 ·intro c1; try simp only [td] at c1
  exfalso; omega
 intro c1; try simp only [td] at c1
 obtain ⟨tb, etb, hc⟩ := hqe m.toNat _ (getD_cells (d := pcZ) (by omega))
 subst etb
 refine V_skip (then_n ?_)
 refine Vs rfl ?_
 refine Lp rfl (p_fieldo fo28_4 rfl rfl) ?_
 refine Lr rfl (rl ag26 rfl rfl rfl) ?_
 refine Lp rfl (p_fieldo fo39_3 rfl rfl) ?_
 refine Lr rfl (rl ag3 rfl rfl rfl) ?_
 refine Lp rfl (p_idx es26 rfl rfl rfl (by omega) (by omega)) ?_
 refine Lr rfl (r_loadBA ag49 sz49 rfl rfl hc rfl List.not_mem_nil) ?_
 refine Lw rfl (w_alloc zr49 rfl) ?_
 rintro _ _ ⟨b3, hb3, rfl, rfl⟩
 refine Ls (cs' := [_, _, _, _, _, _, _, _, _, _, _, _, _]) rfl sz49 rfl rfl rfl rfl rfl rfl rfl ?_
 refine L_then (kp [2, 3, 4, 7] rfl) ?_
 refine Vs rfl ?_
 refine Lr rfl (rlA (vs := [_, _, _, _, _, _]) ag28 sz28 rfl rfl rfl) ?_
 refine Lp rfl (p_fieldo fo39_0 rfl rfl) ?_
 refine Lr rfl (rlA (vs := [_, _, _]) ag30 sz30 rfl rfl rfl) ?_
 refine Lp rfl (p_fieldo fo39_1 rfl rfl) ?_
 refine Lr rfl (rl ag37 rfl rfl rfl) ?_
 refine Lp rfl (p_fieldo fo49_1 rfl rfl) ?_
 refine Lr rfl (rl ag3 rfl rfl rfl) ?_
 refine Lw rfl (w_callG (pre := [_, _, _]) rfl rfl rfl rfl (fun w hg => eFly_c v d l _ _ _ _ w (hv.good hg) (hL.good hg) _ hf)) ?_
 rintro _ _ ⟨_, G1, rfl, hfr1, rfl, sv1, rfl, hgr1⟩
 obtain ⟨sa1, sc1, rfl⟩ := Grow.form hgr1
 try simp only [List.cons_append, List.nil_append, List.append_nil]
 refine Lm rfl rfl rfl ?_
 iterate 2 refine Lp rfl (p_ext rfl rfl rfl) ?_
 iterate 2 refine La rfl rfl rfl ?_
 refine L_then (kp [2, 3, 4, 7, 8, 9] rfl) ?_
 refine Vs rfl ?_
 refine Lr rfl (rlA (vs := [_, _, _, _, _, _]) ag28 sz28 rfl rfl rfl) ?_
 refine Lp rfl (p_fieldo fo39_0 rfl rfl) ?_
 refine Lr rfl (rlA (vs := [_, _, _]) ag30 sz30 rfl rfl rfl) ?_
 refine Lp rfl (p_fieldo fo39_1 rfl rfl) ?_
 refine Lr rfl (rl ag37 rfl rfl rfl) ?_
 refine Lp rfl (p_fieldo fo39_3 rfl rfl) ?_
 refine Lr rfl (rl ag3 rfl rfl rfl) ?_
 refine Lp rfl (p_fieldo fo39_2 rfl rfl) ?_
 refine Lr rfl (rl ag3 rfl rfl rfl) ?_
 refine Lw rfl (w_callG (pre := [_, _, _]) rfl rfl rfl rfl (fun w hg => fPiece_c v d l _ _ _ _ w (hv.good hg) (hL.good hg) _ _)) ?_
 rintro _ _ ⟨_, G2, rfl, hfr2, rfl, sv2, rfl, hgr2⟩
 obtain ⟨sa2, sc2, rfl⟩ := Grow.form hgr2
 try simp only [List.cons_append, List.nil_append, List.append_nil]
 refine Lm rfl rfl rfl ?_
 iterate 2 refine Lp rfl (p_ext rfl rfl rfl) ?_
 iterate 2 refine La rfl rfl rfl ?_
 refine L_then (kp [2, 3, 4, 7, 8, 9, 10, 11] rfl) ?_
 refine V_seq ?_
 refine Vs rfl ?_
 refine Lm rfl rfl rfl ?_
 refine Lp rfl (p_neq rfl rfl rfl) ?_
 refine Lm rfl rfl rfl ?_
 iterate 2 refine L_no rfl rfl rfl (decide_eq_true hf) ?_
 refine Lp rfl (p_pick_t rfl rfl (decide_eq_true hf) rfl) ?_
 refine L_then (kp [2, 3, 4, 7, 8, 10, 79] rfl) ?_
 refine V_cond_t rfl rfl ?_
 refine Vs rfl ?_
 refine Lc rfl rfl rfl rfl (fun w hg => lAwake_c w) ?_
 refine La rfl rfl rfl ?_
 refine L_then (kp [6] rfl) ?_
 refine V_ret (then_r ?_)
 refine Leave.nil (.tmp rfl .nil) ?_
 rfl
theorem flightPartC (v : Veh) (d : Dir) (l : List Fl.Band) (av pv qv bv : Value) (n m : Int) (w : World) (hv : VehR w (VehV v av pv qv) v) (hl : BdsR w bv l) (sh : List Int) (sv : Value) (h8 : ∀ n ∈ sh, 0 ≤ n ∧ n ≤ 255) (hll : (sh.length : Int) ≤ 9223372036854775807) (hS : SliceR w 1 sv (sh.map fun n => [Value.int .u8 n])) (hnm : (0 ≤ n ∧ n ≤ 300) ∧ 0 ≤ m ∧ m < v.pieces.length) (hf : flyE v d l (v.pieces.getD m.toNat pcZ).at_ = 0) (hp : pieceE v d l m n ≠ 0) : FnP Try.prog 10 [VehV v av pv qv, .agg #[.int .i64 d.x, .int .i64 d.y, .int .i64 d.z, bv, .int .i64 n, .int .i64 m], sv] w (.bool true) := by
 have hL := hl
 obtain ⟨ba, bc, rfl, hbc, hbe⟩ := hl.sl.ex
 simp only [List.length_map] at hL ⊢
 obtain ⟨aa, ac, rfl, _, _⟩ := hv.sl.1.ex
 obtain ⟨pa, pc, rfl, _, _⟩ := hv.sl.2.1.ex
 obtain ⟨qa, qc, rfl, hqc, hqe⟩ := hv.sl.2.2.ex
 simp only [List.length_map] at hqc hv ⊢
 refine fn_pure Try.func10 rfl (by kernel_rfl) Try.ntmps10 Try.results10 rfl ?_
 refine Vs rfl ?_
 refine Lw rfl (w_box rfl rfl) ?_
 rintro _ _ ⟨b1, hb1, rfl, rfl⟩
 refine Lw rfl (w_box rfl rfl) ?_
 rintro _ _ ⟨b2, hb2, rfl, rfl⟩
 refine La rfl rfl rfl ?_
 refine L_then (kp [2, 3, 4] rfl) ?_
 refine V_seq ?_
 refine Vs rfl ?_
 refine Lp rfl (p_fieldo fo39_2 rfl rfl) ?_
 refine Lr rfl (rl ag3 rfl rfl rfl) ?_
 refine Lp rfl (p_lss rfl rfl rfl) ?_
 refine Lm rfl rfl rfl ?_
 refine L_cases (d := 25) rfl ?_ ?_
 ·intro g1; have g1' := g1; try simp only [td] at g1'
  exfalso; omega
 intro g1; have g1' := g1; try simp only [td] at g1'
 refine L_yes rfl rfl rfl g1 (X_p (p_fieldo fo39_2 rfl rfl) ?_)
 refine L_yes rfl rfl rfl g1 (X_rd (rl ag3 rfl rfl rfl) ?_)
 refine L_yes rfl rfl rfl g1 (X_p (p_gtr rfl rfl rfl) ?_)
 refine Lp rfl (p_pick_f rfl rfl g1 rfl) ?_
 refine Lm rfl rfl rfl ?_
 refine L_cases (d := 30) rfl ?_ ?_
 ·intro g2; have g2' := g2; try simp only [td] at g2'
  exfalso; omega
 intro g2; have g2' := g2; try simp only [td] at g2'
 refine L_yes rfl rfl rfl g2 (X_p (p_fieldo fo39_3 rfl rfl) ?_)
 refine L_yes rfl rfl rfl g2 (X_rd (rl ag3 rfl rfl rfl) ?_)
 refine L_yes rfl rfl rfl g2 (X_p (p_lss rfl rfl rfl) ?_)
 refine Lp rfl (p_pick_f rfl rfl g2 rfl) ?_
 refine Lm rfl rfl rfl ?_
 refine L_cases (d := 35) rfl ?_ ?_
 ·intro g3; have g3' := g3; try simp only [td] at g3'
  exfalso; omega
 intro g3; have g3' := g3; try simp only [td] at g3'
 refine L_yes rfl rfl rfl g3 (X_p (p_fieldo fo39_3 rfl rfl) ?_)
 refine L_yes rfl rfl rfl g3 (X_rd (rl ag3 rfl rfl rfl) ?_)
 refine L_yes rfl rfl rfl g3 (X_p (p_fieldo fo28_4 rfl rfl) ?_)
 refine L_yes rfl rfl rfl g3 (X_rd (rl ag26 rfl rfl rfl) ?_)
 refine L_yes rfl rfl rfl g3 (X_p (p_len isl26 rfl rfl) ?_)
 refine L_yes rfl rfl rfl g3 (X_p (p_geq rfl rfl rfl) ?_)
 refine Lp rfl (p_pick_f rfl rfl g3 rfl) ?_
 refine L_then (kp [2, 3, 4, 42] rfl) ?_
 refine V_cond rfl ?_ ?_
 ·intro c1; try simp only [td] at c1
  exfalso; omega
 intro c1; try simp only [td] at c1
 obtain ⟨tb, etb, hc⟩ := hqe m.toNat _ (getD_cells (d := pcZ) (by omega))
 subst etb
 refine V_skip (then_n ?_)
 refine Vs rfl ?_
 refine Lp rfl (p_fieldo fo28_4 rfl rfl) ?_
 refine Lr rfl (rl ag26 rfl rfl rfl) ?_
 refine Lp rfl (p_fieldo fo39_3 rfl rfl) ?_
 refine Lr rfl (rl ag3 rfl rfl rfl) ?_
 refine Lp rfl (p_idx es26 rfl rfl rfl (by omega) (by omega)) ?_
 refine Lr rfl (r_loadBA ag49 sz49 rfl rfl hc rfl List.not_mem_nil) ?_
 refine Lw rfl (w_alloc zr49 rfl) ?_
 rintro _ _ ⟨b3, hb3, rfl, rfl⟩
 refine Ls (cs' := [_, _, _, _, _, _, _, _, _, _, _, _, _]) rfl sz49 rfl rfl rfl rfl rfl rfl rfl ?_
 refine L_then (kp [2, 3, 4, 7] rfl) ?_
 refine Vs rfl ?_
 refine Lr rfl (rlA (vs := [_, _, _, _, _, _]) ag28 sz28 rfl rfl rfl) ?_
 refine Lp rfl (p_fieldo fo39_0 rfl rfl) ?_
 refine Lr rfl (rlA (vs := [_, _, _]) ag30 sz30 rfl rfl rfl) ?_
 refine Lp rfl (p_fieldo fo39_1 rfl rfl) ?_
 refine Lr rfl (rl ag37 rfl rfl rfl) ?_
 refine Lp rfl (p_fieldo fo49_1 rfl rfl) ?_
 refine Lr rfl (rl ag3 rfl rfl rfl) ?_
 refine Lw rfl (w_callG (pre := [_, _, _]) rfl rfl rfl rfl (fun w hg => gFly_c v d l _ _ _ _ w (hv.good hg) (hL.good hg) _ hf)) ?_
 rintro _ _ ⟨_, G1, rfl, hfr1, rfl, sv1, rfl, hgr1⟩
 obtain ⟨sa1, sc1, rfl⟩ := Grow.form hgr1
 try simp only [List.cons_append, List.nil_append, List.append_nil]
 refine Lm rfl rfl rfl ?_
 iterate 2 refine Lp rfl (p_ext rfl rfl rfl) ?_
 iterate 2 refine La rfl rfl rfl ?_
 refine L_then (kp [2, 3, 4, 7, 8, 9] rfl) ?_
 refine Vs rfl ?_
 refine Lr rfl (rlA (vs := [_, _, _, _, _, _]) ag28 sz28 rfl rfl rfl) ?_
 refine Lp rfl (p_fieldo fo39_0 rfl rfl) ?_
 refine Lr rfl (rlA (vs := [_, _, _]) ag30 sz30 rfl rfl rfl) ?_
 refine Lp rfl (p_fieldo fo39_1 rfl rfl) ?_
 refine Lr rfl (rl ag37 rfl rfl rfl) ?_
 refine Lp rfl (p_fieldo fo39_3 rfl rfl) ?_
 refine Lr rfl (rl ag3 rfl rfl rfl) ?_
 refine Lp rfl (p_fieldo fo39_2 rfl rfl) ?_
 refine Lr rfl (rl ag3 rfl rfl rfl) ?_
 refine Lw rfl (w_callG (pre := [_, _, _]) rfl rfl rfl rfl (fun w hg => ePiece_c v d l _ _ _ _ w (hv.good hg) (hL.good hg) _ _ hp)) ?_
 rintro _ _ ⟨_, G2, rfl, hfr2, rfl, sv2, rfl, hgr2⟩
 obtain ⟨sa2, sc2, rfl⟩ := Grow.form hgr2
 try simp only [List.cons_append, List.nil_append, List.append_nil]
 refine Lm rfl rfl rfl ?_
 iterate 2 refine Lp rfl (p_ext rfl rfl rfl) ?_
 iterate 2 refine La rfl rfl rfl ?_
 refine L_then (kp [2, 3, 4, 7, 8, 9, 10, 11] rfl) ?_
 refine V_seq ?_
 refine Vs rfl ?_
 refine Lm rfl rfl rfl ?_
 refine Lp rfl (p_neq rfl rfl rfl) ?_
 refine Lm rfl rfl rfl ?_
 refine L_yes rfl rfl rfl rfl (X_p (p_move rfl rfl) ?_)
 refine L_yes rfl rfl rfl rfl (X_p (p_neq rfl rfl rfl) ?_)
 refine Lp rfl (p_pick_f rfl rfl rfl rfl) ?_
 refine L_then (kp [2, 3, 4, 7, 8, 10, 79] rfl) ?_
 refine V_cond_t rfl (decide_eq_true hp) ?_
 refine Vs rfl ?_
 refine Lc rfl rfl rfl rfl (fun w hg => lAwake_c w) ?_
 refine La rfl rfl rfl ?_
 refine L_then (kp [6] rfl) ?_
 refine V_ret (then_r ?_)
 refine Leave.nil (.tmp rfl .nil) ?_
 rfl
set_option maxHeartbeats 16000000 in
theorem flightPartO (v : Veh) (d : Dir) (l : List Fl.Band) (av pv qv bv : Value) (n m : Int) (w : World) (hv : VehR w (VehV v av pv qv) v) (hl : BdsR w bv l) (sh : List Int) (sv : Value) (h8 : ∀ n ∈ sh, 0 ≤ n ∧ n ≤ 255) (hll : (sh.length : Int) ≤ 9223372036854775807) (hS : SliceR w 1 sv (sh.map fun n => [Value.int .u8 n])) (hnm : (0 ≤ n ∧ n ≤ 300) ∧ 0 ≤ m ∧ m < v.pieces.length) (hf : flyE v d l (v.pieces.getD m.toNat pcZ).at_ = 0) (hp : pieceE v d l m n = 0) : FnP Try.prog 10 [VehV v av pv qv, .agg #[.int .i64 d.x, .int .i64 d.y, .int .i64 d.z, bv, .int .i64 n, .int .i64 m], sv] w (.bool true) := by
 have hL := hl
 obtain ⟨ba, bc, rfl, hbc, hbe⟩ := hl.sl.ex
 simp only [List.length_map] at hL ⊢
 obtain ⟨aa, ac, rfl, _, _⟩ := hv.sl.1.ex
 obtain ⟨pa, pc, rfl, _, _⟩ := hv.sl.2.1.ex
 obtain ⟨qa, qc, rfl, hqc, hqe⟩ := hv.sl.2.2.ex
 simp only [List.length_map] at hqc hv ⊢
 obtain ⟨hA, hmr, hnr, hfar1, hfar2⟩ := piece_ok hp
 obtain ⟨hGV, hdd, hGB⟩ := Fl.asked_good hA
 have hx : PcB (v.pieces.getD m.toNat pcZ) := pc_zero (hGV.pc m.toNat (by omega))
 have hxat := hx.at_
 have hfl := hx.floor
 have hq6 := hGV.pc6
 have hS0 : farS (Fl.stT v d l (v.pieces.getD m.toNat pcZ).at_.toNat) = false := hfar1 _ (Nat.le_refl _)
 have hfar2 : ∀ j, j ≤ n.toNat → farS (Fl.pcT v d l (v.pieces.getD m.toNat pcZ) j) = false := hfar2
 have hSf := far_false.1 hS0
 have hkk := hx.kick
 have a3 := start_I h8 hS0 hx
 refine fn_pure Try.func10 rfl (by kernel_rfl) Try.ntmps10 Try.results10 rfl ?_
 refine Vs rfl ?_
 refine Lw rfl (w_box rfl rfl) ?_
 rintro _ _ ⟨b1, hb1, rfl, rfl⟩
 refine Lw rfl (w_box rfl rfl) ?_
 rintro _ _ ⟨b2, hb2, rfl, rfl⟩
 refine La rfl rfl rfl ?_
 refine L_then (kp [2, 3, 4] rfl) ?_
 refine V_seq ?_
 refine Vs rfl ?_
 refine Lp rfl (p_fieldo fo39_2 rfl rfl) ?_
 refine Lr rfl (rl ag3 rfl rfl rfl) ?_
 refine Lp rfl (p_lss rfl rfl rfl) ?_
 refine Lm rfl rfl rfl ?_
 refine L_cases (d := 25) rfl ?_ ?_
 ·intro g1; have g1' := g1; try simp only [td] at g1'
  exfalso; omega
 intro g1; have g1' := g1; try simp only [td] at g1'
 refine L_yes rfl rfl rfl g1 (X_p (p_fieldo fo39_2 rfl rfl) ?_)
 refine L_yes rfl rfl rfl g1 (X_rd (rl ag3 rfl rfl rfl) ?_)
 refine L_yes rfl rfl rfl g1 (X_p (p_gtr rfl rfl rfl) ?_)
 refine Lp rfl (p_pick_f rfl rfl g1 rfl) ?_
 refine Lm rfl rfl rfl ?_
 refine L_cases (d := 30) rfl ?_ ?_
 ·intro g2; have g2' := g2; try simp only [td] at g2'
  exfalso; omega
 intro g2; have g2' := g2; try simp only [td] at g2'
 refine L_yes rfl rfl rfl g2 (X_p (p_fieldo fo39_3 rfl rfl) ?_)
 refine L_yes rfl rfl rfl g2 (X_rd (rl ag3 rfl rfl rfl) ?_)
 refine L_yes rfl rfl rfl g2 (X_p (p_lss rfl rfl rfl) ?_)
 refine Lp rfl (p_pick_f rfl rfl g2 rfl) ?_
 refine Lm rfl rfl rfl ?_
 refine L_cases (d := 35) rfl ?_ ?_
 ·intro g3; have g3' := g3; try simp only [td] at g3'
  exfalso; omega
 intro g3; have g3' := g3; try simp only [td] at g3'
 refine L_yes rfl rfl rfl g3 (X_p (p_fieldo fo39_3 rfl rfl) ?_)
 refine L_yes rfl rfl rfl g3 (X_rd (rl ag3 rfl rfl rfl) ?_)
 refine L_yes rfl rfl rfl g3 (X_p (p_fieldo fo28_4 rfl rfl) ?_)
 refine L_yes rfl rfl rfl g3 (X_rd (rl ag26 rfl rfl rfl) ?_)
 refine L_yes rfl rfl rfl g3 (X_p (p_len isl26 rfl rfl) ?_)
 refine L_yes rfl rfl rfl g3 (X_p (p_geq rfl rfl rfl) ?_)
 refine Lp rfl (p_pick_f rfl rfl g3 rfl) ?_
 refine L_then (kp [2, 3, 4, 42] rfl) ?_
 refine V_cond rfl ?_ ?_
 ·intro c1; try simp only [td] at c1
  exfalso; omega
 intro c1; try simp only [td] at c1
 obtain ⟨tb, etb, hc⟩ := hqe m.toNat _ (getD_cells (d := pcZ) (by omega))
 subst etb
 refine V_skip (then_n ?_)
 refine Vs rfl ?_
 refine Lp rfl (p_fieldo fo28_4 rfl rfl) ?_
 refine Lr rfl (rl ag26 rfl rfl rfl) ?_
 refine Lp rfl (p_fieldo fo39_3 rfl rfl) ?_
 refine Lr rfl (rl ag3 rfl rfl rfl) ?_
 refine Lp rfl (p_idx es26 rfl rfl rfl (by omega) (by omega)) ?_
 refine Lr rfl (r_loadBA ag49 sz49 rfl rfl hc rfl List.not_mem_nil) ?_
 refine Lw rfl (w_alloc zr49 rfl) ?_
 rintro _ _ ⟨b3, hb3, rfl, rfl⟩
 refine Ls (cs' := [_, _, _, _, _, _, _, _, _, _, _, _, _]) rfl sz49 rfl rfl rfl rfl rfl rfl rfl ?_
 refine L_then (kp [2, 3, 4, 7] rfl) ?_
 refine Vs rfl ?_
 refine Lr rfl (rlA (vs := [_, _, _, _, _, _]) ag28 sz28 rfl rfl rfl) ?_
 refine Lp rfl (p_fieldo fo39_0 rfl rfl) ?_
 refine Lr rfl (rlA (vs := [_, _, _]) ag30 sz30 rfl rfl rfl) ?_
 refine Lp rfl (p_fieldo fo39_1 rfl rfl) ?_
 refine Lr rfl (rl ag37 rfl rfl rfl) ?_
 refine Lp rfl (p_fieldo fo49_1 rfl rfl) ?_
 refine Lr rfl (rl ag3 rfl rfl rfl) ?_
 refine Lw rfl (w_callG (pre := [_, _, _]) rfl rfl rfl rfl (fun w hg => gFly_c v d l _ _ _ _ w (hv.good hg) (hL.good hg) _ hf)) ?_
 rintro _ _ ⟨_, G1, rfl, hfr1, rfl, sv1, rfl, hgr1⟩
 obtain ⟨sa1, sc1, rfl⟩ := Grow.form hgr1
 obtain ⟨gb1, cur1, rfl, rfl, hcur1, _, _⟩ := Grow.form2 hgr1 (by omega)
 try simp only [List.cons_append, List.nil_append, List.append_nil]
 refine Lm rfl rfl rfl ?_
 iterate 2 refine Lp rfl (p_ext rfl rfl rfl) ?_
 iterate 2 refine La rfl rfl rfl ?_
 refine L_then (kp [2, 3, 4, 7, 8, 9] rfl) ?_
 refine Vs rfl ?_
 refine Lr rfl (rlA (vs := [_, _, _, _, _, _]) ag28 sz28 rfl rfl rfl) ?_
 refine Lp rfl (p_fieldo fo39_0 rfl rfl) ?_
 refine Lr rfl (rlA (vs := [_, _, _]) ag30 sz30 rfl rfl rfl) ?_
 refine Lp rfl (p_fieldo fo39_1 rfl rfl) ?_
 refine Lr rfl (rl ag37 rfl rfl rfl) ?_
 refine Lp rfl (p_fieldo fo39_3 rfl rfl) ?_
 refine Lr rfl (rl ag3 rfl rfl rfl) ?_
 refine Lp rfl (p_fieldo fo39_2 rfl rfl) ?_
 refine Lr rfl (rl ag3 rfl rfl rfl) ?_
 refine Lw rfl (w_callG (pre := [_, _, _]) rfl rfl rfl rfl (fun w hg => gPiece_c v d l _ _ _ _ w (hv.good hg) (hL.good hg) _ _ hp)) ?_
 rintro _ _ ⟨_, G2, rfl, hfr2, rfl, sv2, rfl, hgr2⟩
 obtain ⟨sa2, sc2, rfl⟩ := Grow.form hgr2
 obtain ⟨gb2, cur2, rfl, rfl, hcur2, _, _⟩ := Grow.form2 hgr2 (by omega)
 try simp only [List.cons_append, List.nil_append, List.append_nil]
 refine Lm rfl rfl rfl ?_
 iterate 2 refine Lp rfl (p_ext rfl rfl rfl) ?_
 iterate 2 refine La rfl rfl rfl ?_
 refine L_then (kp [2, 3, 4, 7, 8, 9, 10, 11] rfl) ?_
 refine V_seq ?_
 refine Vs rfl ?_
 refine Lm rfl rfl rfl ?_
 refine Lp rfl (p_neq rfl rfl rfl) ?_
 refine Lm rfl rfl rfl ?_
 refine L_yes rfl rfl rfl rfl (X_p (p_move rfl rfl) ?_)
 refine L_yes rfl rfl rfl rfl (X_p (p_neq rfl rfl rfl) ?_)
 refine Lp rfl (p_pick_f rfl rfl rfl rfl) ?_
 refine L_then (kp [2, 3, 4, 7, 8, 10, 79] rfl) ?_
 refine V_cond_f rfl rfl ?_
 refine V_skip (then_n ?_)
 refine V_seq ?_
 refine Vs rfl ?_
 refine Lm rfl rfl rfl ?_
 refine Lp rfl (p_len isl40 rfl rfl) ?_
 refine Lp rfl (p_fieldo fo49_1 rfl rfl) ?_
 refine Lr rfl (rl ag3 rfl rfl rfl) ?_
 first | refine Lp rfl (p_add' rfl rfl rfl (by unfold InI; omega)) ?_ | refine Lp rfl (p_add rfl rfl rfl) ?_
 refine Lp rfl (p_neq rfl rfl rfl) ?_
 refine Lm rfl rfl rfl ?_
 refine L_yes rfl rfl rfl (decide_eq_false (by omega)) (X_p (p_move rfl rfl) ?_)
 refine L_yes rfl rfl rfl (decide_eq_false (by omega)) (X_p (p_len isl40 rfl rfl) ?_)
 refine L_yes rfl rfl rfl (decide_eq_false (by omega)) (X_p (p_fieldo fo39_2 rfl rfl) ?_)
 refine L_yes rfl rfl rfl (decide_eq_false (by omega)) (X_rd (rl ag3 rfl rfl rfl) ?_)
 first | refine L_yes rfl rfl rfl (decide_eq_false (by omega)) (X_p (p_add' rfl rfl rfl (by unfold InI; omega)) ?_) | refine L_yes rfl rfl rfl (decide_eq_false (by omega)) (X_p (p_add rfl rfl rfl) ?_)
 refine L_yes rfl rfl rfl (decide_eq_false (by omega)) (X_p (p_neq rfl rfl rfl) ?_)
 refine Lp rfl (p_pick_f rfl rfl (decide_eq_false (by omega)) rfl) ?_
 refine L_then (kp [2, 3, 4, 7, 8, 10, 94] rfl) ?_
 refine V_cond_f rfl (decide_eq_false (by omega)) ?_
 refine V_skip (then_n ?_)
 refine Vs rfl ?_
 refine Lr rfl (rlA (vs := [_, _, _, _, _, _]) ag28 sz28 rfl rfl rfl) ?_
 refine Lw rfl (w_alloc zr28 rfl) ?_
 rintro _ _ ⟨b6, hb6, rfl, rfl⟩
 refine Ls (cs' := [_, _, _, _, _, _]) rfl sz28 rfl rfl rfl rfl rfl rfl rfl ?_
 refine L_then (kp [2, 3, 4, 7, 8, 10, 12] rfl) ?_
 refine V_mid (γ := Nat) (kp [2, 3, 4, 7, 8, 10, 12] rfl) (fun x5 => []) (fun x5 => (x5, .cells (Phase.cells ⟨1, Fl.spZ, (v.pieces.getD m.toNat pcZ).mass, (v.pieces.getD m.toNat pcZ).drag, axZ⟩).toArray 46) :: (b6, .cells #[.string v.name, .int .i64 v.gravity.lo, .int .i64 v.gravity.hi, .slice aa v.air.length ac, .slice (some ⟨x5, 0, none⟩) 1 1, .slice none 0 0] 28) :: (b3, .cells (Piece.cells (v.pieces.getD m.toNat pcZ)).toArray 49) :: (b2, .cells #[.int .i64 d.x, .int .i64 d.y, .int .i64 d.z, .slice ba l.length bc, .int .i64 n, .int .i64 m] 39) :: (b1, .cells #[.string v.name, .int .i64 v.gravity.lo, .int .i64 v.gravity.hi, .slice aa v.air.length ac, .slice pa v.phases.length pc, .slice (some tb) v.pieces.length qc] 28) :: [(gb2, .cells cur2 54), (gb1, .cells cur1 54)]) (fun x5 => True) ?_ ?_
 ·refine V_draw (.rd 0 (.rd 1 (.rd 2 (.rd 3 (.rd 4 (.rd 6 (.wr2 5 [6, 3, 2, 1, 0] (.wr 7 [4, 3, 2, 1, 0] (.rd 8 (.wr 9 [] .done))) 7 [4, 3, 2, 1, 0] (.wr 5 [6, 3, 2, 1, 0] (.rd 8 (.wr 9 [] .done)))))))))) mixed (by kernel_rfl) rfl ?_
  refine Dp rfl rfl (p_fieldo fo49_2 rfl rfl) ?_
  refine Dr rfl rfl (rlA (vs := [_, _]) ag23 sz23 rfl rfl rfl) ?_
  refine Dp rfl rfl (p_fieldo fo49_3 rfl rfl) ?_
  refine Dr rfl rfl (rlA (vs := [_, _]) ag23 sz23 rfl rfl rfl) ?_
  refine Dp rfl rfl (p_build (r := [_, _, _, _, _, _, _, _, _, _, _, _, _]) pl46 zr46 rfl rfl rfl) ?_
  refine Dp rfl rfl (p_fieldo fo28_4 rfl rfl) ?_
  refine D_wr2 rfl ?_ ?_
  ·refine (.go (E' := [(3, _), (1, _)]) rfl (.plain rfl) (w_slice (r := [_, _, _, _, _, _, _, _, _, _, _, _, _]) un25 sz46 zr46 rfl (by decide) rfl (by decide) rfl rfl) rfl ?_)
   rintro _ _ ⟨b7, hb7, rfl, rfl⟩
   refine ⟨(.cons rfl (.plain rfl) (rlA (vs := [_, _]) ag23 sz23 rfl rfl rfl) (.cons rfl (.plain rfl) (rlA (vs := [_, _]) ag23 sz23 rfl rfl rfl) .nil)), ?_⟩
   refine D_wr (.go (E' := [(3, _), (1, _)]) rfl (.plain rfl) (ws (cs' := [_, _, _, _, _, _]) sz26 rfl rfl rfl rfl rfl rfl rfl) rfl ?_)
   rintro _ _ ⟨rfl, rfl⟩
   refine ⟨(.cons rfl (.plain rfl) (rlA (vs := [_, _]) ag23 sz23 rfl rfl rfl) (.cons rfl (.plain rfl) (rlA (vs := [_, _]) ag23 sz23 rfl rfl rfl) .nil)), ?_⟩
   refine Dp rfl rfl (p_fieldo fo28_3 rfl rfl) ?_
   refine D_wr (.go (E' := []) rfl (.plain rfl) (ws (cs' := [_, _, _, _, _, _]) sz25 rfl rfl rfl rfl rfl rfl rfl) rfl ?_)
   rintro _ _ ⟨rfl, rfl⟩
   refine ⟨.nil, ?_⟩
   refine D_then (kp [2, 3, 4, 7, 8, 10, 12] rfl) ?_
   refine ⟨b7, trivial, (.cons rfl (.cons rfl (.cons rfl (.cons rfl (.cons rfl (.cons rfl (.cons rfl (.nil _)))))))), (by (try dsimp only); repeat (first | exact HSub.refl _ | exact HSub.nil _ | refine HSub.take (by repeat first | exact Take.head | apply Take.tail) ?_ | exact HSub.refl _ | refine HSub.drop ?_ | refine HSub.app ?_)), rfl⟩
  refine (.go (E' := [(3, _), (1, _)]) rfl (.plain rfl) (ws (cs' := [_, _, _, _, _, _]) sz26 rfl rfl rfl rfl rfl rfl rfl) rfl ?_)
  rintro _ _ ⟨rfl, rfl⟩
  refine ⟨(.cons rfl (.plain rfl) (rlA (vs := [_, _]) ag23 sz23 rfl rfl rfl) (.cons rfl (.plain rfl) (rlA (vs := [_, _]) ag23 sz23 rfl rfl rfl) .nil)), ?_⟩
  refine D_wr (.go (E' := [(3, _), (1, _)]) rfl (.plain rfl) (w_slice (r := [_, _, _, _, _, _, _, _, _, _, _, _, _]) un25 sz46 zr46 rfl (by decide) rfl (by decide) rfl rfl) rfl ?_)
  rintro _ _ ⟨b7, hb7, rfl, rfl⟩
  refine ⟨(.cons rfl (.plain rfl) (rlA (vs := [_, _]) ag23 sz23 rfl rfl rfl) (.cons rfl (.plain rfl) (rlA (vs := [_, _]) ag23 sz23 rfl rfl rfl) .nil)), ?_⟩
  refine Dp rfl rfl (p_fieldo fo28_3 rfl rfl) ?_
  refine D_wr (.go (E' := []) rfl (.plain rfl) (ws (cs' := [_, _, _, _, _, _]) sz25 rfl rfl rfl rfl rfl rfl rfl) rfl ?_)
  rintro _ _ ⟨rfl, rfl⟩
  refine ⟨.nil, ?_⟩
  refine D_then (kp [2, 3, 4, 7, 8, 10, 12] rfl) ?_
  refine ⟨b7, trivial, (.cons rfl (.cons rfl (.cons rfl (.cons rfl (.cons rfl (.cons rfl (.cons rfl (.nil _)))))))), (by (try dsimp only); repeat (first | exact HSub.refl _ | exact HSub.nil _ | refine HSub.take (by repeat first | exact Take.head | apply Take.tail) ?_ | exact HSub.refl _ | refine HSub.drop ?_ | refine HSub.app ?_)), rfl⟩
 rintro x5 _
 refine Vs rfl ?_
 refine Lm rfl rfl rfl ?_
 refine Lp rfl (p_fieldo fo49_1 rfl rfl) ?_
 refine Lr rfl (rl ag3 rfl rfl rfl) ?_
 refine Lp rfl (p_idxo es40 rfl rfl rfl (by omega) (by omega)) ?_
 refine Lr rfl (r_loadA (vs := St.cells ((Fl.stT v d l) (v.pieces.getD m.toNat pcZ).at_.toNat)) ag54 sz54 rfl rfl (by repeat first | exact mH | apply mT | apply List.mem_append_right) (row_st (f := (Fl.stT v d l)) (k := (v.pieces.getD m.toNat pcZ).at_.toNat) hcur1 rfl (by omega))) ?_
 refine Lw rfl (w_alloc zr54 rfl) ?_
 rintro _ _ ⟨b7, hb7, rfl, rfl⟩
 refine Ls (cs' := [_, _, _, _, _, _, _, _, _, _, _, _]) rfl sz54 rfl rfl rfl rfl rfl rfl rfl ?_
 refine L_then (kp [2, 3, 4, 7, 10, 12, 13] rfl) ?_
 refine V_mid (γ := Nat) (kp [2, 3, 4, 7, 10, 12] rfl) (fun x14 => [(14, .pointer (some ⟨x14, 0, none⟩))]) (fun x14 => (x14, .cells #[.int .i64 (De.pickI (Fl.stT v d l (v.pieces.getD m.toNat pcZ).at_.toNat).p.x sh 0), .int .i64 (De.pickI (Fl.stT v d l (v.pieces.getD m.toNat pcZ).at_.toNat).p.y sh 1), .int .i64 (De.pickI (Fl.stT v d l (v.pieces.getD m.toNat pcZ).at_.toNat).p.z sh 2), .int .i64 (De.pickI (Fl.stT v d l (v.pieces.getD m.toNat pcZ).at_.toNat).v.x sh 3 + De.pickI (v.pieces.getD m.toNat pcZ).kick.x sh 4), .int .i64 (De.pickI (Fl.stT v d l (v.pieces.getD m.toNat pcZ).at_.toNat).v.y sh 5 + De.pickI (v.pieces.getD m.toNat pcZ).kick.y sh 6), .int .i64 (De.pickI (Fl.stT v d l (v.pieces.getD m.toNat pcZ).at_.toNat).v.z sh 7 + De.pickI (v.pieces.getD m.toNat pcZ).kick.z sh 8)] 88) :: (b7, .cells (St.cells (Fl.stT v d l (v.pieces.getD m.toNat pcZ).at_.toNat)).toArray 54) :: (b6, .cells #[.string v.name, .int .i64 v.gravity.lo, .int .i64 v.gravity.hi, .slice aa v.air.length ac, .slice (some ⟨x5, 0, none⟩) 1 1, .slice none 0 0] 28) :: (x5, .cells (Phase.cells ⟨1, Fl.spZ, (v.pieces.getD m.toNat pcZ).mass, (v.pieces.getD m.toNat pcZ).drag, axZ⟩).toArray 46) :: (b3, .cells (Piece.cells (v.pieces.getD m.toNat pcZ)).toArray 49) :: (b2, .cells #[.int .i64 d.x, .int .i64 d.y, .int .i64 d.z, .slice ba l.length bc, .int .i64 n, .int .i64 m] 39) :: (b1, .cells #[.string v.name, .int .i64 v.gravity.lo, .int .i64 v.gravity.hi, .slice aa v.air.length ac, .slice pa v.phases.length pc, .slice (some tb) v.pieces.length qc] 28) :: [(gb2, .cells cur2 54), (gb1, .cells cur1 54)]) (fun x14 => True) ?_ ?_
 ·refine V_draw (.rd 0 (.rd 1 (.rd 2 (.rd 4 (.rd 5 (.rd 6 (.rd 8 (.rd 9 (.rd 10 (.rd 12 (.rd 13 (.rd 14 (.rd 16 (.rd 17 (.rd 18 (.rd 19 (.rd 22 (.rd 23 (.rd 24 (.rd 26 (.rd 27 (.rd 28 (.rd 29 (.rd 32 (.rd 33 (.rd 34 (.rd 36 (.rd 37 (.rd 38 (.rd 39 (.wr2 3 [39, 38, 37, 36, 34, 33, 32, 29, 28, 27, 26, 24, 23, 22, 19, 18, 17, 16, 14, 13, 12, 10, 9, 8, 6, 5, 4, 0] (.wr2 7 [39, 38, 37, 36, 34, 33, 32, 29, 28, 27, 26, 24, 23, 22, 19, 18, 17, 16, 14, 13, 12, 10, 9, 8, 4, 2, 1, 0] (.wr2 11 [39, 38, 37, 36, 34, 33, 32, 29, 28, 27, 26, 24, 23, 22, 19, 18, 17, 16, 14, 13, 12, 8, 6, 5, 4, 2, 1, 0] (.wr2 15 [39, 38, 37, 36, 34, 33, 32, 29, 28, 27, 26, 24, 23, 22, 19, 18, 17, 16, 12, 10, 9, 8, 6, 5, 4, 2, 1, 0] (.wr2 20 [39, 38, 37, 36, 34, 33, 32, 29, 28, 27, 26, 24, 23, 22, 17, 16, 14, 13, 12, 10, 9, 8, 6, 5, 4, 2, 1, 0] (.rd 21 (.wr2 25 [39, 38, 37, 36, 34, 33, 32, 29, 28, 27, 26, 22, 21, 19, 18, 17, 16, 14, 13, 12, 10, 9, 8, 6, 5, 4, 2, 1, 0] (.wr2 30 [39, 38, 37, 36, 34, 33, 32, 27, 26, 24, 23, 22, 21, 19, 18, 17, 16, 14, 13, 12, 10, 9, 8, 6, 5, 4, 2, 1, 0] (.rd 31 (.wr2 35 [39, 38, 37, 36, 32, 31, 29, 28, 27, 26, 24, 23, 22, 21, 19, 18, 17, 16, 14, 13, 12, 10, 9, 8, 6, 5, 4, 2, 1, 0] (.wr2 40 [37, 36, 34, 33, 32, 31, 29, 28, 27, 26, 24, 23, 22, 21, 19, 18, 17, 16, 14, 13, 12, 10, 9, 8, 6, 5, 4, 2, 1, 0] (.rd 41 (.rd 42 (.wr 43 [42, 41, 39, 38, 37, 36, 34, 33, 32, 31, 29, 28, 27, 26, 24, 23, 22, 21, 19, 18, 17, 16, 14, 13, 12, 10, 9, 8, 6, 5, 4, 2, 1, 0] (.wr 44 [] .done)))) 43 [39, 38, 37, 36, 34, 33, 32, 31, 29, 28, 27, 26, 24, 23, 22, 21, 19, 18, 17, 16, 14, 13, 12, 10, 9, 8, 6, 5, 4, 2, 1, 0] (.wr 40 [37, 36, 34, 33, 32, 31, 29, 28, 27, 26, 24, 23, 22, 21, 19, 18, 17, 16, 14, 13, 12, 10, 9, 8, 6, 5, 4, 2, 1, 0] (.rd 41 (.rd 42 (.wr 44 [] .done))))) 43 [39, 38, 37, 36, 34, 33, 32, 31, 29, 28, 27, 26, 24, 23, 22, 21, 19, 18, 17, 16, 14, 13, 12, 10, 9, 8, 6, 5, 4, 2, 1, 0] (.wr 35 [39, 38, 37, 36, 32, 31, 29, 28, 27, 26, 24, 23, 22, 21, 19, 18, 17, 16, 14, 13, 12, 10, 9, 8, 6, 5, 4, 2, 1, 0] (.wr 40 [37, 36, 34, 33, 32, 31, 29, 28, 27, 26, 24, 23, 22, 21, 19, 18, 17, 16, 14, 13, 12, 10, 9, 8, 6, 5, 4, 2, 1, 0] (.rd 41 (.rd 42 (.wr 44 [] .done))))))) 43 [39, 38, 37, 36, 34, 33, 32, 29, 28, 27, 26, 24, 23, 22, 21, 19, 18, 17, 16, 14, 13, 12, 10, 9, 8, 6, 5, 4, 2, 1, 0] (.wr 30 [39, 38, 37, 36, 34, 33, 32, 27, 26, 24, 23, 22, 21, 19, 18, 17, 16, 14, 13, 12, 10, 9, 8, 6, 5, 4, 2, 1, 0] (.rd 31 (.wr 35 [39, 38, 37, 36, 32, 31, 29, 28, 27, 26, 24, 23, 22, 21, 19, 18, 17, 16, 14, 13, 12, 10, 9, 8, 6, 5, 4, 2, 1, 0] (.wr 40 [37, 36, 34, 33, 32, 31, 29, 28, 27, 26, 24, 23, 22, 21, 19, 18, 17, 16, 14, 13, 12, 10, 9, 8, 6, 5, 4, 2, 1, 0] (.rd 41 (.rd 42 (.wr 44 [] .done)))))))) 43 [39, 38, 37, 36, 34, 33, 32, 29, 28, 27, 26, 24, 23, 22, 21, 19, 18, 17, 16, 14, 13, 12, 10, 9, 8, 6, 5, 4, 2, 1, 0] (.wr 25 [39, 38, 37, 36, 34, 33, 32, 29, 28, 27, 26, 22, 21, 19, 18, 17, 16, 14, 13, 12, 10, 9, 8, 6, 5, 4, 2, 1, 0] (.wr 30 [39, 38, 37, 36, 34, 33, 32, 27, 26, 24, 23, 22, 21, 19, 18, 17, 16, 14, 13, 12, 10, 9, 8, 6, 5, 4, 2, 1, 0] (.rd 31 (.wr 35 [39, 38, 37, 36, 32, 31, 29, 28, 27, 26, 24, 23, 22, 21, 19, 18, 17, 16, 14, 13, 12, 10, 9, 8, 6, 5, 4, 2, 1, 0] (.wr 40 [37, 36, 34, 33, 32, 31, 29, 28, 27, 26, 24, 23, 22, 21, 19, 18, 17, 16, 14, 13, 12, 10, 9, 8, 6, 5, 4, 2, 1, 0] (.rd 41 (.rd 42 (.wr 44 [] .done)))))))))) 43 [39, 38, 37, 36, 34, 33, 32, 29, 28, 27, 26, 24, 23, 22, 19, 18, 17, 16, 14, 13, 12, 10, 9, 8, 6, 5, 4, 2, 1, 0] (.wr 20 [39, 38, 37, 36, 34, 33, 32, 29, 28, 27, 26, 24, 23, 22, 17, 16, 14, 13, 12, 10, 9, 8, 6, 5, 4, 2, 1, 0] (.rd 21 (.wr 25 [39, 38, 37, 36, 34, 33, 32, 29, 28, 27, 26, 22, 21, 19, 18, 17, 16, 14, 13, 12, 10, 9, 8, 6, 5, 4, 2, 1, 0] (.wr 30 [39, 38, 37, 36, 34, 33, 32, 27, 26, 24, 23, 22, 21, 19, 18, 17, 16, 14, 13, 12, 10, 9, 8, 6, 5, 4, 2, 1, 0] (.rd 31 (.wr 35 [39, 38, 37, 36, 32, 31, 29, 28, 27, 26, 24, 23, 22, 21, 19, 18, 17, 16, 14, 13, 12, 10, 9, 8, 6, 5, 4, 2, 1, 0] (.wr 40 [37, 36, 34, 33, 32, 31, 29, 28, 27, 26, 24, 23, 22, 21, 19, 18, 17, 16, 14, 13, 12, 10, 9, 8, 6, 5, 4, 2, 1, 0] (.rd 41 (.rd 42 (.wr 44 [] .done))))))))))) 43 [39, 38, 37, 36, 34, 33, 32, 29, 28, 27, 26, 24, 23, 22, 19, 18, 17, 16, 14, 13, 12, 10, 9, 8, 6, 5, 4, 2, 1, 0] (.wr 15 [39, 38, 37, 36, 34, 33, 32, 29, 28, 27, 26, 24, 23, 22, 19, 18, 17, 16, 12, 10, 9, 8, 6, 5, 4, 2, 1, 0] (.wr 20 [39, 38, 37, 36, 34, 33, 32, 29, 28, 27, 26, 24, 23, 22, 17, 16, 14, 13, 12, 10, 9, 8, 6, 5, 4, 2, 1, 0] (.rd 21 (.wr 25 [39, 38, 37, 36, 34, 33, 32, 29, 28, 27, 26, 22, 21, 19, 18, 17, 16, 14, 13, 12, 10, 9, 8, 6, 5, 4, 2, 1, 0] (.wr 30 [39, 38, 37, 36, 34, 33, 32, 27, 26, 24, 23, 22, 21, 19, 18, 17, 16, 14, 13, 12, 10, 9, 8, 6, 5, 4, 2, 1, 0] (.rd 31 (.wr 35 [39, 38, 37, 36, 32, 31, 29, 28, 27, 26, 24, 23, 22, 21, 19, 18, 17, 16, 14, 13, 12, 10, 9, 8, 6, 5, 4, 2, 1, 0] (.wr 40 [37, 36, 34, 33, 32, 31, 29, 28, 27, 26, 24, 23, 22, 21, 19, 18, 17, 16, 14, 13, 12, 10, 9, 8, 6, 5, 4, 2, 1, 0] (.rd 41 (.rd 42 (.wr 44 [] .done)))))))))))) 43 [39, 38, 37, 36, 34, 33, 32, 29, 28, 27, 26, 24, 23, 22, 19, 18, 17, 16, 14, 13, 12, 10, 9, 8, 6, 5, 4, 2, 1, 0] (.wr 11 [39, 38, 37, 36, 34, 33, 32, 29, 28, 27, 26, 24, 23, 22, 19, 18, 17, 16, 14, 13, 12, 8, 6, 5, 4, 2, 1, 0] (.wr 15 [39, 38, 37, 36, 34, 33, 32, 29, 28, 27, 26, 24, 23, 22, 19, 18, 17, 16, 12, 10, 9, 8, 6, 5, 4, 2, 1, 0] (.wr 20 [39, 38, 37, 36, 34, 33, 32, 29, 28, 27, 26, 24, 23, 22, 17, 16, 14, 13, 12, 10, 9, 8, 6, 5, 4, 2, 1, 0] (.rd 21 (.wr 25 [39, 38, 37, 36, 34, 33, 32, 29, 28, 27, 26, 22, 21, 19, 18, 17, 16, 14, 13, 12, 10, 9, 8, 6, 5, 4, 2, 1, 0] (.wr 30 [39, 38, 37, 36, 34, 33, 32, 27, 26, 24, 23, 22, 21, 19, 18, 17, 16, 14, 13, 12, 10, 9, 8, 6, 5, 4, 2, 1, 0] (.rd 31 (.wr 35 [39, 38, 37, 36, 32, 31, 29, 28, 27, 26, 24, 23, 22, 21, 19, 18, 17, 16, 14, 13, 12, 10, 9, 8, 6, 5, 4, 2, 1, 0] (.wr 40 [37, 36, 34, 33, 32, 31, 29, 28, 27, 26, 24, 23, 22, 21, 19, 18, 17, 16, 14, 13, 12, 10, 9, 8, 6, 5, 4, 2, 1, 0] (.rd 41 (.rd 42 (.wr 44 [] .done))))))))))))) 43 [39, 38, 37, 36, 34, 33, 32, 29, 28, 27, 26, 24, 23, 22, 19, 18, 17, 16, 14, 13, 12, 10, 9, 8, 6, 5, 4, 2, 1, 0] (.wr 7 [39, 38, 37, 36, 34, 33, 32, 29, 28, 27, 26, 24, 23, 22, 19, 18, 17, 16, 14, 13, 12, 10, 9, 8, 4, 2, 1, 0] (.wr 11 [39, 38, 37, 36, 34, 33, 32, 29, 28, 27, 26, 24, 23, 22, 19, 18, 17, 16, 14, 13, 12, 8, 6, 5, 4, 2, 1, 0] (.wr 15 [39, 38, 37, 36, 34, 33, 32, 29, 28, 27, 26, 24, 23, 22, 19, 18, 17, 16, 12, 10, 9, 8, 6, 5, 4, 2, 1, 0] (.wr 20 [39, 38, 37, 36, 34, 33, 32, 29, 28, 27, 26, 24, 23, 22, 17, 16, 14, 13, 12, 10, 9, 8, 6, 5, 4, 2, 1, 0] (.rd 21 (.wr 25 [39, 38, 37, 36, 34, 33, 32, 29, 28, 27, 26, 22, 21, 19, 18, 17, 16, 14, 13, 12, 10, 9, 8, 6, 5, 4, 2, 1, 0] (.wr 30 [39, 38, 37, 36, 34, 33, 32, 27, 26, 24, 23, 22, 21, 19, 18, 17, 16, 14, 13, 12, 10, 9, 8, 6, 5, 4, 2, 1, 0] (.rd 31 (.wr 35 [39, 38, 37, 36, 32, 31, 29, 28, 27, 26, 24, 23, 22, 21, 19, 18, 17, 16, 14, 13, 12, 10, 9, 8, 6, 5, 4, 2, 1, 0] (.wr 40 [37, 36, 34, 33, 32, 31, 29, 28, 27, 26, 24, 23, 22, 21, 19, 18, 17, 16, 14, 13, 12, 10, 9, 8, 6, 5, 4, 2, 1, 0] (.rd 41 (.rd 42 (.wr 44 [] .done)))))))))))))) 43 [39, 38, 37, 36, 34, 33, 32, 29, 28, 27, 26, 24, 23, 22, 19, 18, 17, 16, 14, 13, 12, 10, 9, 8, 6, 5, 4, 2, 1, 0] (.wr 3 [39, 38, 37, 36, 34, 33, 32, 29, 28, 27, 26, 24, 23, 22, 19, 18, 17, 16, 14, 13, 12, 10, 9, 8, 6, 5, 4, 0] (.wr 7 [39, 38, 37, 36, 34, 33, 32, 29, 28, 27, 26, 24, 23, 22, 19, 18, 17, 16, 14, 13, 12, 10, 9, 8, 4, 2, 1, 0] (.wr 11 [39, 38, 37, 36, 34, 33, 32, 29, 28, 27, 26, 24, 23, 22, 19, 18, 17, 16, 14, 13, 12, 8, 6, 5, 4, 2, 1, 0] (.wr 15 [39, 38, 37, 36, 34, 33, 32, 29, 28, 27, 26, 24, 23, 22, 19, 18, 17, 16, 12, 10, 9, 8, 6, 5, 4, 2, 1, 0] (.wr 20 [39, 38, 37, 36, 34, 33, 32, 29, 28, 27, 26, 24, 23, 22, 17, 16, 14, 13, 12, 10, 9, 8, 6, 5, 4, 2, 1, 0] (.rd 21 (.wr 25 [39, 38, 37, 36, 34, 33, 32, 29, 28, 27, 26, 22, 21, 19, 18, 17, 16, 14, 13, 12, 10, 9, 8, 6, 5, 4, 2, 1, 0] (.wr 30 [39, 38, 37, 36, 34, 33, 32, 27, 26, 24, 23, 22, 21, 19, 18, 17, 16, 14, 13, 12, 10, 9, 8, 6, 5, 4, 2, 1, 0] (.rd 31 (.wr 35 [39, 38, 37, 36, 32, 31, 29, 28, 27, 26, 24, 23, 22, 21, 19, 18, 17, 16, 14, 13, 12, 10, 9, 8, 6, 5, 4, 2, 1, 0] (.wr 40 [37, 36, 34, 33, 32, 31, 29, 28, 27, 26, 24, 23, 22, 21, 19, 18, 17, 16, 14, 13, 12, 10, 9, 8, 6, 5, 4, 2, 1, 0] (.rd 41 (.rd 42 (.wr 44 [] .done))))))))))))))))))))))))))))))))))))))))))))) mixed (by kernel_rfl) rfl ?_
  refine Dp rfl rfl (p_fieldo fo54_0 rfl rfl) ?_
  refine Dr rfl rfl (rlA (vs := [_, _]) ag23 sz23 rfl rfl rfl) ?_
  refine Dm rfl rfl rfl rfl ?_
  refine Dp rfl rfl (p_fieldo fo54_1 rfl rfl) ?_
  refine Dr rfl rfl (rlA (vs := [_, _]) ag23 sz23 rfl rfl rfl) ?_
  refine Dm rfl rfl rfl rfl ?_
  refine Dp rfl rfl (p_fieldo fo54_2 rfl rfl) ?_
  refine Dr rfl rfl (rlA (vs := [_, _]) ag23 sz23 rfl rfl rfl) ?_
  refine Dm rfl rfl rfl rfl ?_
  refine Dp rfl rfl (p_fieldo fo54_3 rfl rfl) ?_
  refine Dr rfl rfl (rlA (vs := [_, _]) ag23 sz23 rfl rfl rfl) ?_
  refine Dm rfl rfl rfl rfl ?_
  refine Dp rfl rfl (p_fieldo fo49_4 rfl rfl) ?_
  refine Dp rfl rfl (p_fieldo fo44_0 rfl rfl) ?_
  refine Dr rfl rfl (rlA (vs := [_, _]) ag23 sz23 rfl rfl rfl) ?_
  refine Dm rfl rfl rfl rfl ?_
  refine Dp rfl rfl (p_fieldo fo54_4 rfl rfl) ?_
  refine Dr rfl rfl (rlA (vs := [_, _]) ag23 sz23 rfl rfl rfl) ?_
  refine Dm rfl rfl rfl rfl ?_
  refine Dp rfl rfl (p_fieldo fo49_4 rfl rfl) ?_
  refine Dp rfl rfl (p_fieldo fo44_1 rfl rfl) ?_
  refine Dr rfl rfl (rlA (vs := [_, _]) ag23 sz23 rfl rfl rfl) ?_
  refine Dm rfl rfl rfl rfl ?_
  refine Dp rfl rfl (p_fieldo fo54_5 rfl rfl) ?_
  refine Dr rfl rfl (rlA (vs := [_, _]) ag23 sz23 rfl rfl rfl) ?_
  refine Dm rfl rfl rfl rfl ?_
  refine Dp rfl rfl (p_fieldo fo49_4 rfl rfl) ?_
  refine Dp rfl rfl (p_fieldo fo44_2 rfl rfl) ?_
  refine Dr rfl rfl (rlA (vs := [_, _]) ag23 sz23 rfl rfl rfl) ?_
  refine Dm rfl rfl rfl rfl ?_
  refine D_wr2 rfl ?_ ?_
  ·refine (.go (E' := [(38, _), (33, _), (28, _), (23, _), (18, _), (13, _), (9, _), (5, _)]) rfl (.plain rfl) (w_callP rfl rfl rfl (fun w hg => lpick_c (Fl.stT v d l (v.pieces.getD m.toNat pcZ).at_.toNat).p.x (spb4 hSf.1.1 (by decide)) sh _ h8 hll 0 (by decide) w (hS.good hg))) rfl ?_)
   rintro _ _ ⟨rfl, rfl⟩
   refine ⟨(.cons rfl (.plain rfl) (rlA (vs := [_, _]) ag23 sz23 rfl rfl rfl) (.cons rfl (.plain rfl) (rlA (vs := [_, _]) ag23 sz23 rfl rfl rfl) (.cons rfl (.plain rfl) (rlA (vs := [_, _]) ag23 sz23 rfl rfl rfl) (.cons rfl (.plain rfl) (rlA (vs := [_, _]) ag23 sz23 rfl rfl rfl) (.cons rfl (.plain rfl) (rlA (vs := [_, _]) ag23 sz23 rfl rfl rfl) (.cons rfl (.plain rfl) (rlA (vs := [_, _]) ag23 sz23 rfl rfl rfl) (.cons rfl (.plain rfl) (rlA (vs := [_, _]) ag23 sz23 rfl rfl rfl) (.cons rfl (.plain rfl) (rlA (vs := [_, _]) ag23 sz23 rfl rfl rfl) .nil)))))))), ?_⟩
   refine D_wr2 rfl ?_ ?_
   ·refine (.go (E' := [(38, _), (33, _), (28, _), (23, _), (18, _), (13, _), (9, _)]) rfl (.plain rfl) (w_callP rfl rfl rfl (fun w hg => lpick_c (Fl.stT v d l (v.pieces.getD m.toNat pcZ).at_.toNat).p.y (spb4 hSf.1.2.1 (by decide)) sh _ h8 hll 1 (by decide) w (hS.good hg))) rfl ?_)
    rintro _ _ ⟨rfl, rfl⟩
    refine ⟨(.cons rfl (.plain rfl) (rlA (vs := [_, _]) ag23 sz23 rfl rfl rfl) (.cons rfl (.plain rfl) (rlA (vs := [_, _]) ag23 sz23 rfl rfl rfl) (.cons rfl (.plain rfl) (rlA (vs := [_, _]) ag23 sz23 rfl rfl rfl) (.cons rfl (.plain rfl) (rlA (vs := [_, _]) ag23 sz23 rfl rfl rfl) (.cons rfl (.plain rfl) (rlA (vs := [_, _]) ag23 sz23 rfl rfl rfl) (.cons rfl (.plain rfl) (rlA (vs := [_, _]) ag23 sz23 rfl rfl rfl) (.cons rfl (.plain rfl) (rlA (vs := [_, _]) ag23 sz23 rfl rfl rfl) .nil))))))), ?_⟩
    refine D_wr2 rfl ?_ ?_
    ·refine (.go (E' := [(38, _), (33, _), (28, _), (23, _), (18, _), (13, _)]) rfl (.plain rfl) (w_callP rfl rfl rfl (fun w hg => lpick_c (Fl.stT v d l (v.pieces.getD m.toNat pcZ).at_.toNat).p.z (spb4 hSf.1.2.2 (by decide)) sh _ h8 hll 2 (by decide) w (hS.good hg))) rfl ?_)
     rintro _ _ ⟨rfl, rfl⟩
     refine ⟨(.cons rfl (.plain rfl) (rlA (vs := [_, _]) ag23 sz23 rfl rfl rfl) (.cons rfl (.plain rfl) (rlA (vs := [_, _]) ag23 sz23 rfl rfl rfl) (.cons rfl (.plain rfl) (rlA (vs := [_, _]) ag23 sz23 rfl rfl rfl) (.cons rfl (.plain rfl) (rlA (vs := [_, _]) ag23 sz23 rfl rfl rfl) (.cons rfl (.plain rfl) (rlA (vs := [_, _]) ag23 sz23 rfl rfl rfl) (.cons rfl (.plain rfl) (rlA (vs := [_, _]) ag23 sz23 rfl rfl rfl) .nil)))))), ?_⟩
     refine D_wr2 rfl ?_ ?_
     ·refine (.go (E' := [(38, _), (33, _), (28, _), (23, _), (18, _)]) rfl (.plain rfl) (w_callP rfl rfl rfl (fun w hg => lpick_c (Fl.stT v d l (v.pieces.getD m.toNat pcZ).at_.toNat).v.x (spb4 hSf.2.1 (by decide)) sh _ h8 hll 3 (by decide) w (hS.good hg))) rfl ?_)
      rintro _ _ ⟨rfl, rfl⟩
      refine ⟨(.cons rfl (.plain rfl) (rlA (vs := [_, _]) ag23 sz23 rfl rfl rfl) (.cons rfl (.plain rfl) (rlA (vs := [_, _]) ag23 sz23 rfl rfl rfl) (.cons rfl (.plain rfl) (rlA (vs := [_, _]) ag23 sz23 rfl rfl rfl) (.cons rfl (.plain rfl) (rlA (vs := [_, _]) ag23 sz23 rfl rfl rfl) (.cons rfl (.plain rfl) (rlA (vs := [_, _]) ag23 sz23 rfl rfl rfl) .nil))))), ?_⟩
      refine D_wr2 rfl ?_ ?_
      ·refine (.go (E' := [(38, _), (33, _), (28, _), (23, _)]) rfl (.plain rfl) (w_callP rfl rfl rfl (fun w hg => lpick_c (v.pieces.getD m.toNat pcZ).kick.x (spb4 hkk.1 (by decide)) sh _ h8 hll 4 (by decide) w (hS.good hg))) rfl ?_)
       rintro _ _ ⟨rfl, rfl⟩
       refine ⟨(.cons rfl (.plain rfl) (rlA (vs := [_, _]) ag23 sz23 rfl rfl rfl) (.cons rfl (.plain rfl) (rlA (vs := [_, _]) ag23 sz23 rfl rfl rfl) (.cons rfl (.plain rfl) (rlA (vs := [_, _]) ag23 sz23 rfl rfl rfl) (.cons rfl (.plain rfl) (rlA (vs := [_, _]) ag23 sz23 rfl rfl rfl) .nil)))), ?_⟩
       refine Dp rfl rfl (p_add' rfl rfl rfl (a3.1)) ?_
       refine D_wr2 rfl ?_ ?_
       ·refine (.go (E' := [(38, _), (33, _), (28, _)]) rfl (.plain rfl) (w_callP rfl rfl rfl (fun w hg => lpick_c (Fl.stT v d l (v.pieces.getD m.toNat pcZ).at_.toNat).v.y (spb4 hSf.2.2.1 (by decide)) sh _ h8 hll 5 (by decide) w (hS.good hg))) rfl ?_)
        rintro _ _ ⟨rfl, rfl⟩
        refine ⟨(.cons rfl (.plain rfl) (rlA (vs := [_, _]) ag23 sz23 rfl rfl rfl) (.cons rfl (.plain rfl) (rlA (vs := [_, _]) ag23 sz23 rfl rfl rfl) (.cons rfl (.plain rfl) (rlA (vs := [_, _]) ag23 sz23 rfl rfl rfl) .nil))), ?_⟩
        refine D_wr2 rfl ?_ ?_
        ·refine (.go (E' := [(38, _), (33, _)]) rfl (.plain rfl) (w_callP rfl rfl rfl (fun w hg => lpick_c (v.pieces.getD m.toNat pcZ).kick.y (spb4 hkk.2.1 (by decide)) sh _ h8 hll 6 (by decide) w (hS.good hg))) rfl ?_)
         rintro _ _ ⟨rfl, rfl⟩
         refine ⟨(.cons rfl (.plain rfl) (rlA (vs := [_, _]) ag23 sz23 rfl rfl rfl) (.cons rfl (.plain rfl) (rlA (vs := [_, _]) ag23 sz23 rfl rfl rfl) .nil)), ?_⟩
         refine Dp rfl rfl (p_add' rfl rfl rfl (a3.2.1)) ?_
         refine D_wr2 rfl ?_ ?_
         ·refine (.go (E' := [(38, _)]) rfl (.plain rfl) (w_callP rfl rfl rfl (fun w hg => lpick_c (Fl.stT v d l (v.pieces.getD m.toNat pcZ).at_.toNat).v.z (spb4 hSf.2.2.2 (by decide)) sh _ h8 hll 7 (by decide) w (hS.good hg))) rfl ?_)
          rintro _ _ ⟨rfl, rfl⟩
          refine ⟨(.cons rfl (.plain rfl) (rlA (vs := [_, _]) ag23 sz23 rfl rfl rfl) .nil), ?_⟩
          refine D_wr2 rfl ?_ ?_
          ·refine (.go (E' := []) rfl (.plain rfl) (w_callP rfl rfl rfl (fun w hg => lpick_c (v.pieces.getD m.toNat pcZ).kick.z (spb4 hkk.2.2 (by decide)) sh _ h8 hll 8 (by decide) w (hS.good hg))) rfl ?_)
           rintro _ _ ⟨rfl, rfl⟩
           refine ⟨.nil, ?_⟩
           refine Dp rfl rfl (p_add' rfl rfl rfl (a3.2.2)) ?_
           refine Dp rfl rfl (p_build (r := [_, _, _, _, _, _]) pl88 zr88 rfl rfl rfl) ?_
           refine D_wr (.go (E' := []) rfl (.plain rfl) (w_alloc zr88 rfl) rfl ?_)
           rintro _ _ ⟨b8, hb8, rfl, rfl⟩
           refine ⟨.nil, ?_⟩
           refine D_wr (.go (E' := []) rfl (.plain rfl) (ws (cs' := [_, _, _, _, _, _]) sz88 rfl rfl rfl rfl rfl rfl rfl) rfl ?_)
           rintro _ _ ⟨rfl, rfl⟩
           refine ⟨.nil, ?_⟩
           refine D_then (kp [2, 3, 4, 7, 10, 12, 14] rfl) ?_
           refine ⟨b8, trivial, (.cons rfl (.cons rfl (.cons rfl (.cons rfl (.cons rfl (.cons rfl (.cons rfl (.nil _)))))))), (by (try dsimp only); repeat (first | exact HSub.refl _ | exact HSub.nil _ | refine HSub.take (by repeat first | exact Take.head | apply Take.tail) ?_ | exact HSub.refl _ | refine HSub.drop ?_ | refine HSub.app ?_)), rfl⟩
          refine (.go (E' := [(38, _)]) rfl (.plain rfl) (w_alloc zr88 rfl) rfl ?_)
          rintro _ _ ⟨b8, hb8, rfl, rfl⟩
          refine ⟨(.cons rfl (.plain rfl) (rlA (vs := [_, _]) ag23 sz23 rfl rfl rfl) .nil), ?_⟩
          refine D_wr (.go (E' := []) rfl (.plain rfl) (w_callP rfl rfl rfl (fun w hg => lpick_c (v.pieces.getD m.toNat pcZ).kick.z (spb4 hkk.2.2 (by decide)) sh _ h8 hll 8 (by decide) w (hS.good hg))) rfl ?_)
          rintro _ _ ⟨rfl, rfl⟩
          refine ⟨.nil, ?_⟩
          refine Dp rfl rfl (p_add' rfl rfl rfl (a3.2.2)) ?_
          refine Dp rfl rfl (p_build (r := [_, _, _, _, _, _]) pl88 zr88 rfl rfl rfl) ?_
          refine D_wr (.go (E' := []) rfl (.plain rfl) (ws (cs' := [_, _, _, _, _, _]) sz88 rfl rfl rfl rfl rfl rfl rfl) rfl ?_)
          rintro _ _ ⟨rfl, rfl⟩
          refine ⟨.nil, ?_⟩
          refine D_then (kp [2, 3, 4, 7, 10, 12, 14] rfl) ?_
          refine ⟨b8, trivial, (.cons rfl (.cons rfl (.cons rfl (.cons rfl (.cons rfl (.cons rfl (.cons rfl (.nil _)))))))), (by (try dsimp only); repeat (first | exact HSub.refl _ | exact HSub.nil _ | refine HSub.take (by repeat first | exact Take.head | apply Take.tail) ?_ | exact HSub.refl _ | refine HSub.drop ?_ | refine HSub.app ?_)), rfl⟩
         refine (.go (E' := [(38, _), (33, _)]) rfl (.plain rfl) (w_alloc zr88 rfl) rfl ?_)
         rintro _ _ ⟨b8, hb8, rfl, rfl⟩
         refine ⟨(.cons rfl (.plain rfl) (rlA (vs := [_, _]) ag23 sz23 rfl rfl rfl) (.cons rfl (.plain rfl) (rlA (vs := [_, _]) ag23 sz23 rfl rfl rfl) .nil)), ?_⟩
         refine D_wr (.go (E' := [(38, _)]) rfl (.plain rfl) (w_callP rfl rfl rfl (fun w hg => lpick_c (Fl.stT v d l (v.pieces.getD m.toNat pcZ).at_.toNat).v.z (spb4 hSf.2.2.2 (by decide)) sh _ h8 hll 7 (by decide) w (hS.good hg))) rfl ?_)
         rintro _ _ ⟨rfl, rfl⟩
         refine ⟨(.cons rfl (.plain rfl) (rlA (vs := [_, _]) ag23 sz23 rfl rfl rfl) .nil), ?_⟩
         refine D_wr (.go (E' := []) rfl (.plain rfl) (w_callP rfl rfl rfl (fun w hg => lpick_c (v.pieces.getD m.toNat pcZ).kick.z (spb4 hkk.2.2 (by decide)) sh _ h8 hll 8 (by decide) w (hS.good hg))) rfl ?_)
         rintro _ _ ⟨rfl, rfl⟩
         refine ⟨.nil, ?_⟩
         refine Dp rfl rfl (p_add' rfl rfl rfl (a3.2.2)) ?_
         refine Dp rfl rfl (p_build (r := [_, _, _, _, _, _]) pl88 zr88 rfl rfl rfl) ?_
         refine D_wr (.go (E' := []) rfl (.plain rfl) (ws (cs' := [_, _, _, _, _, _]) sz88 rfl rfl rfl rfl rfl rfl rfl) rfl ?_)
         rintro _ _ ⟨rfl, rfl⟩
         refine ⟨.nil, ?_⟩
         refine D_then (kp [2, 3, 4, 7, 10, 12, 14] rfl) ?_
         refine ⟨b8, trivial, (.cons rfl (.cons rfl (.cons rfl (.cons rfl (.cons rfl (.cons rfl (.cons rfl (.nil _)))))))), (by (try dsimp only); repeat (first | exact HSub.refl _ | exact HSub.nil _ | refine HSub.take (by repeat first | exact Take.head | apply Take.tail) ?_ | exact HSub.refl _ | refine HSub.drop ?_ | refine HSub.app ?_)), rfl⟩
        refine (.go (E' := [(38, _), (33, _), (28, _)]) rfl (.plain rfl) (w_alloc zr88 rfl) rfl ?_)
        rintro _ _ ⟨b8, hb8, rfl, rfl⟩
        refine ⟨(.cons rfl (.plain rfl) (rlA (vs := [_, _]) ag23 sz23 rfl rfl rfl) (.cons rfl (.plain rfl) (rlA (vs := [_, _]) ag23 sz23 rfl rfl rfl) (.cons rfl (.plain rfl) (rlA (vs := [_, _]) ag23 sz23 rfl rfl rfl) .nil))), ?_⟩
        refine D_wr (.go (E' := [(38, _), (33, _)]) rfl (.plain rfl) (w_callP rfl rfl rfl (fun w hg => lpick_c (v.pieces.getD m.toNat pcZ).kick.y (spb4 hkk.2.1 (by decide)) sh _ h8 hll 6 (by decide) w (hS.good hg))) rfl ?_)
        rintro _ _ ⟨rfl, rfl⟩
        refine ⟨(.cons rfl (.plain rfl) (rlA (vs := [_, _]) ag23 sz23 rfl rfl rfl) (.cons rfl (.plain rfl) (rlA (vs := [_, _]) ag23 sz23 rfl rfl rfl) .nil)), ?_⟩
        refine Dp rfl rfl (p_add' rfl rfl rfl (a3.2.1)) ?_
        refine D_wr (.go (E' := [(38, _)]) rfl (.plain rfl) (w_callP rfl rfl rfl (fun w hg => lpick_c (Fl.stT v d l (v.pieces.getD m.toNat pcZ).at_.toNat).v.z (spb4 hSf.2.2.2 (by decide)) sh _ h8 hll 7 (by decide) w (hS.good hg))) rfl ?_)
        rintro _ _ ⟨rfl, rfl⟩
        refine ⟨(.cons rfl (.plain rfl) (rlA (vs := [_, _]) ag23 sz23 rfl rfl rfl) .nil), ?_⟩
        refine D_wr (.go (E' := []) rfl (.plain rfl) (w_callP rfl rfl rfl (fun w hg => lpick_c (v.pieces.getD m.toNat pcZ).kick.z (spb4 hkk.2.2 (by decide)) sh _ h8 hll 8 (by decide) w (hS.good hg))) rfl ?_)
        rintro _ _ ⟨rfl, rfl⟩
        refine ⟨.nil, ?_⟩
        refine Dp rfl rfl (p_add' rfl rfl rfl (a3.2.2)) ?_
        refine Dp rfl rfl (p_build (r := [_, _, _, _, _, _]) pl88 zr88 rfl rfl rfl) ?_
        refine D_wr (.go (E' := []) rfl (.plain rfl) (ws (cs' := [_, _, _, _, _, _]) sz88 rfl rfl rfl rfl rfl rfl rfl) rfl ?_)
        rintro _ _ ⟨rfl, rfl⟩
        refine ⟨.nil, ?_⟩
        refine D_then (kp [2, 3, 4, 7, 10, 12, 14] rfl) ?_
        refine ⟨b8, trivial, (.cons rfl (.cons rfl (.cons rfl (.cons rfl (.cons rfl (.cons rfl (.cons rfl (.nil _)))))))), (by (try dsimp only); repeat (first | exact HSub.refl _ | exact HSub.nil _ | refine HSub.take (by repeat first | exact Take.head | apply Take.tail) ?_ | exact HSub.refl _ | refine HSub.drop ?_ | refine HSub.app ?_)), rfl⟩
       refine (.go (E' := [(38, _), (33, _), (28, _), (23, _)]) rfl (.plain rfl) (w_alloc zr88 rfl) rfl ?_)
       rintro _ _ ⟨b8, hb8, rfl, rfl⟩
       refine ⟨(.cons rfl (.plain rfl) (rlA (vs := [_, _]) ag23 sz23 rfl rfl rfl) (.cons rfl (.plain rfl) (rlA (vs := [_, _]) ag23 sz23 rfl rfl rfl) (.cons rfl (.plain rfl) (rlA (vs := [_, _]) ag23 sz23 rfl rfl rfl) (.cons rfl (.plain rfl) (rlA (vs := [_, _]) ag23 sz23 rfl rfl rfl) .nil)))), ?_⟩
       refine D_wr (.go (E' := [(38, _), (33, _), (28, _)]) rfl (.plain rfl) (w_callP rfl rfl rfl (fun w hg => lpick_c (Fl.stT v d l (v.pieces.getD m.toNat pcZ).at_.toNat).v.y (spb4 hSf.2.2.1 (by decide)) sh _ h8 hll 5 (by decide) w (hS.good hg))) rfl ?_)
       rintro _ _ ⟨rfl, rfl⟩
       refine ⟨(.cons rfl (.plain rfl) (rlA (vs := [_, _]) ag23 sz23 rfl rfl rfl) (.cons rfl (.plain rfl) (rlA (vs := [_, _]) ag23 sz23 rfl rfl rfl) (.cons rfl (.plain rfl) (rlA (vs := [_, _]) ag23 sz23 rfl rfl rfl) .nil))), ?_⟩
       refine D_wr (.go (E' := [(38, _), (33, _)]) rfl (.plain rfl) (w_callP rfl rfl rfl (fun w hg => lpick_c (v.pieces.getD m.toNat pcZ).kick.y (spb4 hkk.2.1 (by decide)) sh _ h8 hll 6 (by decide) w (hS.good hg))) rfl ?_)
       rintro _ _ ⟨rfl, rfl⟩
       refine ⟨(.cons rfl (.plain rfl) (rlA (vs := [_, _]) ag23 sz23 rfl rfl rfl) (.cons rfl (.plain rfl) (rlA (vs := [_, _]) ag23 sz23 rfl rfl rfl) .nil)), ?_⟩
       refine Dp rfl rfl (p_add' rfl rfl rfl (a3.2.1)) ?_
       refine D_wr (.go (E' := [(38, _)]) rfl (.plain rfl) (w_callP rfl rfl rfl (fun w hg => lpick_c (Fl.stT v d l (v.pieces.getD m.toNat pcZ).at_.toNat).v.z (spb4 hSf.2.2.2 (by decide)) sh _ h8 hll 7 (by decide) w (hS.good hg))) rfl ?_)
       rintro _ _ ⟨rfl, rfl⟩
       refine ⟨(.cons rfl (.plain rfl) (rlA (vs := [_, _]) ag23 sz23 rfl rfl rfl) .nil), ?_⟩
       refine D_wr (.go (E' := []) rfl (.plain rfl) (w_callP rfl rfl rfl (fun w hg => lpick_c (v.pieces.getD m.toNat pcZ).kick.z (spb4 hkk.2.2 (by decide)) sh _ h8 hll 8 (by decide) w (hS.good hg))) rfl ?_)
       rintro _ _ ⟨rfl, rfl⟩
       refine ⟨.nil, ?_⟩
       refine Dp rfl rfl (p_add' rfl rfl rfl (a3.2.2)) ?_
       refine Dp rfl rfl (p_build (r := [_, _, _, _, _, _]) pl88 zr88 rfl rfl rfl) ?_
       refine D_wr (.go (E' := []) rfl (.plain rfl) (ws (cs' := [_, _, _, _, _, _]) sz88 rfl rfl rfl rfl rfl rfl rfl) rfl ?_)
       rintro _ _ ⟨rfl, rfl⟩
       refine ⟨.nil, ?_⟩
       refine D_then (kp [2, 3, 4, 7, 10, 12, 14] rfl) ?_
       refine ⟨b8, trivial, (.cons rfl (.cons rfl (.cons rfl (.cons rfl (.cons rfl (.cons rfl (.cons rfl (.nil _)))))))), (by (try dsimp only); repeat (first | exact HSub.refl _ | exact HSub.nil _ | refine HSub.take (by repeat first | exact Take.head | apply Take.tail) ?_ | exact HSub.refl _ | refine HSub.drop ?_ | refine HSub.app ?_)), rfl⟩
      refine (.go (E' := [(38, _), (33, _), (28, _), (23, _), (18, _)]) rfl (.plain rfl) (w_alloc zr88 rfl) rfl ?_)
      rintro _ _ ⟨b8, hb8, rfl, rfl⟩
      refine ⟨(.cons rfl (.plain rfl) (rlA (vs := [_, _]) ag23 sz23 rfl rfl rfl) (.cons rfl (.plain rfl) (rlA (vs := [_, _]) ag23 sz23 rfl rfl rfl) (.cons rfl (.plain rfl) (rlA (vs := [_, _]) ag23 sz23 rfl rfl rfl) (.cons rfl (.plain rfl) (rlA (vs := [_, _]) ag23 sz23 rfl rfl rfl) (.cons rfl (.plain rfl) (rlA (vs := [_, _]) ag23 sz23 rfl rfl rfl) .nil))))), ?_⟩
      refine D_wr (.go (E' := [(38, _), (33, _), (28, _), (23, _)]) rfl (.plain rfl) (w_callP rfl rfl rfl (fun w hg => lpick_c (v.pieces.getD m.toNat pcZ).kick.x (spb4 hkk.1 (by decide)) sh _ h8 hll 4 (by decide) w (hS.good hg))) rfl ?_)
      rintro _ _ ⟨rfl, rfl⟩
      refine ⟨(.cons rfl (.plain rfl) (rlA (vs := [_, _]) ag23 sz23 rfl rfl rfl) (.cons rfl (.plain rfl) (rlA (vs := [_, _]) ag23 sz23 rfl rfl rfl) (.cons rfl (.plain rfl) (rlA (vs := [_, _]) ag23 sz23 rfl rfl rfl) (.cons rfl (.plain rfl) (rlA (vs := [_, _]) ag23 sz23 rfl rfl rfl) .nil)))), ?_⟩
      refine Dp rfl rfl (p_add' rfl rfl rfl (a3.1)) ?_
      refine D_wr (.go (E' := [(38, _), (33, _), (28, _)]) rfl (.plain rfl) (w_callP rfl rfl rfl (fun w hg => lpick_c (Fl.stT v d l (v.pieces.getD m.toNat pcZ).at_.toNat).v.y (spb4 hSf.2.2.1 (by decide)) sh _ h8 hll 5 (by decide) w (hS.good hg))) rfl ?_)
      rintro _ _ ⟨rfl, rfl⟩
      refine ⟨(.cons rfl (.plain rfl) (rlA (vs := [_, _]) ag23 sz23 rfl rfl rfl) (.cons rfl (.plain rfl) (rlA (vs := [_, _]) ag23 sz23 rfl rfl rfl) (.cons rfl (.plain rfl) (rlA (vs := [_, _]) ag23 sz23 rfl rfl rfl) .nil))), ?_⟩
      refine D_wr (.go (E' := [(38, _), (33, _)]) rfl (.plain rfl) (w_callP rfl rfl rfl (fun w hg => lpick_c (v.pieces.getD m.toNat pcZ).kick.y (spb4 hkk.2.1 (by decide)) sh _ h8 hll 6 (by decide) w (hS.good hg))) rfl ?_)
      rintro _ _ ⟨rfl, rfl⟩
      refine ⟨(.cons rfl (.plain rfl) (rlA (vs := [_, _]) ag23 sz23 rfl rfl rfl) (.cons rfl (.plain rfl) (rlA (vs := [_, _]) ag23 sz23 rfl rfl rfl) .nil)), ?_⟩
      refine Dp rfl rfl (p_add' rfl rfl rfl (a3.2.1)) ?_
      refine D_wr (.go (E' := [(38, _)]) rfl (.plain rfl) (w_callP rfl rfl rfl (fun w hg => lpick_c (Fl.stT v d l (v.pieces.getD m.toNat pcZ).at_.toNat).v.z (spb4 hSf.2.2.2 (by decide)) sh _ h8 hll 7 (by decide) w (hS.good hg))) rfl ?_)
      rintro _ _ ⟨rfl, rfl⟩
      refine ⟨(.cons rfl (.plain rfl) (rlA (vs := [_, _]) ag23 sz23 rfl rfl rfl) .nil), ?_⟩
      refine D_wr (.go (E' := []) rfl (.plain rfl) (w_callP rfl rfl rfl (fun w hg => lpick_c (v.pieces.getD m.toNat pcZ).kick.z (spb4 hkk.2.2 (by decide)) sh _ h8 hll 8 (by decide) w (hS.good hg))) rfl ?_)
      rintro _ _ ⟨rfl, rfl⟩
      refine ⟨.nil, ?_⟩
      refine Dp rfl rfl (p_add' rfl rfl rfl (a3.2.2)) ?_
      refine Dp rfl rfl (p_build (r := [_, _, _, _, _, _]) pl88 zr88 rfl rfl rfl) ?_
      refine D_wr (.go (E' := []) rfl (.plain rfl) (ws (cs' := [_, _, _, _, _, _]) sz88 rfl rfl rfl rfl rfl rfl rfl) rfl ?_)
      rintro _ _ ⟨rfl, rfl⟩
      refine ⟨.nil, ?_⟩
      refine D_then (kp [2, 3, 4, 7, 10, 12, 14] rfl) ?_
      refine ⟨b8, trivial, (.cons rfl (.cons rfl (.cons rfl (.cons rfl (.cons rfl (.cons rfl (.cons rfl (.nil _)))))))), (by (try dsimp only); repeat (first | exact HSub.refl _ | exact HSub.nil _ | refine HSub.take (by repeat first | exact Take.head | apply Take.tail) ?_ | exact HSub.refl _ | refine HSub.drop ?_ | refine HSub.app ?_)), rfl⟩
     refine (.go (E' := [(38, _), (33, _), (28, _), (23, _), (18, _), (13, _)]) rfl (.plain rfl) (w_alloc zr88 rfl) rfl ?_)
     rintro _ _ ⟨b8, hb8, rfl, rfl⟩
     refine ⟨(.cons rfl (.plain rfl) (rlA (vs := [_, _]) ag23 sz23 rfl rfl rfl) (.cons rfl (.plain rfl) (rlA (vs := [_, _]) ag23 sz23 rfl rfl rfl) (.cons rfl (.plain rfl) (rlA (vs := [_, _]) ag23 sz23 rfl rfl rfl) (.cons rfl (.plain rfl) (rlA (vs := [_, _]) ag23 sz23 rfl rfl rfl) (.cons rfl (.plain rfl) (rlA (vs := [_, _]) ag23 sz23 rfl rfl rfl) (.cons rfl (.plain rfl) (rlA (vs := [_, _]) ag23 sz23 rfl rfl rfl) .nil)))))), ?_⟩
     refine D_wr (.go (E' := [(38, _), (33, _), (28, _), (23, _), (18, _)]) rfl (.plain rfl) (w_callP rfl rfl rfl (fun w hg => lpick_c (Fl.stT v d l (v.pieces.getD m.toNat pcZ).at_.toNat).v.x (spb4 hSf.2.1 (by decide)) sh _ h8 hll 3 (by decide) w (hS.good hg))) rfl ?_)
     rintro _ _ ⟨rfl, rfl⟩
     refine ⟨(.cons rfl (.plain rfl) (rlA (vs := [_, _]) ag23 sz23 rfl rfl rfl) (.cons rfl (.plain rfl) (rlA (vs := [_, _]) ag23 sz23 rfl rfl rfl) (.cons rfl (.plain rfl) (rlA (vs := [_, _]) ag23 sz23 rfl rfl rfl) (.cons rfl (.plain rfl) (rlA (vs := [_, _]) ag23 sz23 rfl rfl rfl) (.cons rfl (.plain rfl) (rlA (vs := [_, _]) ag23 sz23 rfl rfl rfl) .nil))))), ?_⟩
     refine D_wr (.go (E' := [(38, _), (33, _), (28, _), (23, _)]) rfl (.plain rfl) (w_callP rfl rfl rfl (fun w hg => lpick_c (v.pieces.getD m.toNat pcZ).kick.x (spb4 hkk.1 (by decide)) sh _ h8 hll 4 (by decide) w (hS.good hg))) rfl ?_)
     rintro _ _ ⟨rfl, rfl⟩
     refine ⟨(.cons rfl (.plain rfl) (rlA (vs := [_, _]) ag23 sz23 rfl rfl rfl) (.cons rfl (.plain rfl) (rlA (vs := [_, _]) ag23 sz23 rfl rfl rfl) (.cons rfl (.plain rfl) (rlA (vs := [_, _]) ag23 sz23 rfl rfl rfl) (.cons rfl (.plain rfl) (rlA (vs := [_, _]) ag23 sz23 rfl rfl rfl) .nil)))), ?_⟩
     refine Dp rfl rfl (p_add' rfl rfl rfl (a3.1)) ?_
     refine D_wr (.go (E' := [(38, _), (33, _), (28, _)]) rfl (.plain rfl) (w_callP rfl rfl rfl (fun w hg => lpick_c (Fl.stT v d l (v.pieces.getD m.toNat pcZ).at_.toNat).v.y (spb4 hSf.2.2.1 (by decide)) sh _ h8 hll 5 (by decide) w (hS.good hg))) rfl ?_)
     rintro _ _ ⟨rfl, rfl⟩
     refine ⟨(.cons rfl (.plain rfl) (rlA (vs := [_, _]) ag23 sz23 rfl rfl rfl) (.cons rfl (.plain rfl) (rlA (vs := [_, _]) ag23 sz23 rfl rfl rfl) (.cons rfl (.plain rfl) (rlA (vs := [_, _]) ag23 sz23 rfl rfl rfl) .nil))), ?_⟩
     refine D_wr (.go (E' := [(38, _), (33, _)]) rfl (.plain rfl) (w_callP rfl rfl rfl (fun w hg => lpick_c (v.pieces.getD m.toNat pcZ).kick.y (spb4 hkk.2.1 (by decide)) sh _ h8 hll 6 (by decide) w (hS.good hg))) rfl ?_)
     rintro _ _ ⟨rfl, rfl⟩
     refine ⟨(.cons rfl (.plain rfl) (rlA (vs := [_, _]) ag23 sz23 rfl rfl rfl) (.cons rfl (.plain rfl) (rlA (vs := [_, _]) ag23 sz23 rfl rfl rfl) .nil)), ?_⟩
     refine Dp rfl rfl (p_add' rfl rfl rfl (a3.2.1)) ?_
     refine D_wr (.go (E' := [(38, _)]) rfl (.plain rfl) (w_callP rfl rfl rfl (fun w hg => lpick_c (Fl.stT v d l (v.pieces.getD m.toNat pcZ).at_.toNat).v.z (spb4 hSf.2.2.2 (by decide)) sh _ h8 hll 7 (by decide) w (hS.good hg))) rfl ?_)
     rintro _ _ ⟨rfl, rfl⟩
     refine ⟨(.cons rfl (.plain rfl) (rlA (vs := [_, _]) ag23 sz23 rfl rfl rfl) .nil), ?_⟩
     refine D_wr (.go (E' := []) rfl (.plain rfl) (w_callP rfl rfl rfl (fun w hg => lpick_c (v.pieces.getD m.toNat pcZ).kick.z (spb4 hkk.2.2 (by decide)) sh _ h8 hll 8 (by decide) w (hS.good hg))) rfl ?_)
     rintro _ _ ⟨rfl, rfl⟩
     refine ⟨.nil, ?_⟩
     refine Dp rfl rfl (p_add' rfl rfl rfl (a3.2.2)) ?_
     refine Dp rfl rfl (p_build (r := [_, _, _, _, _, _]) pl88 zr88 rfl rfl rfl) ?_
     refine D_wr (.go (E' := []) rfl (.plain rfl) (ws (cs' := [_, _, _, _, _, _]) sz88 rfl rfl rfl rfl rfl rfl rfl) rfl ?_)
     rintro _ _ ⟨rfl, rfl⟩
     refine ⟨.nil, ?_⟩
     refine D_then (kp [2, 3, 4, 7, 10, 12, 14] rfl) ?_
     refine ⟨b8, trivial, (.cons rfl (.cons rfl (.cons rfl (.cons rfl (.cons rfl (.cons rfl (.cons rfl (.nil _)))))))), (by (try dsimp only); repeat (first | exact HSub.refl _ | exact HSub.nil _ | refine HSub.take (by repeat first | exact Take.head | apply Take.tail) ?_ | exact HSub.refl _ | refine HSub.drop ?_ | refine HSub.app ?_)), rfl⟩
    refine (.go (E' := [(38, _), (33, _), (28, _), (23, _), (18, _), (13, _), (9, _)]) rfl (.plain rfl) (w_alloc zr88 rfl) rfl ?_)
    rintro _ _ ⟨b8, hb8, rfl, rfl⟩
    refine ⟨(.cons rfl (.plain rfl) (rlA (vs := [_, _]) ag23 sz23 rfl rfl rfl) (.cons rfl (.plain rfl) (rlA (vs := [_, _]) ag23 sz23 rfl rfl rfl) (.cons rfl (.plain rfl) (rlA (vs := [_, _]) ag23 sz23 rfl rfl rfl) (.cons rfl (.plain rfl) (rlA (vs := [_, _]) ag23 sz23 rfl rfl rfl) (.cons rfl (.plain rfl) (rlA (vs := [_, _]) ag23 sz23 rfl rfl rfl) (.cons rfl (.plain rfl) (rlA (vs := [_, _]) ag23 sz23 rfl rfl rfl) (.cons rfl (.plain rfl) (rlA (vs := [_, _]) ag23 sz23 rfl rfl rfl) .nil))))))), ?_⟩
    refine D_wr (.go (E' := [(38, _), (33, _), (28, _), (23, _), (18, _), (13, _)]) rfl (.plain rfl) (w_callP rfl rfl rfl (fun w hg => lpick_c (Fl.stT v d l (v.pieces.getD m.toNat pcZ).at_.toNat).p.z (spb4 hSf.1.2.2 (by decide)) sh _ h8 hll 2 (by decide) w (hS.good hg))) rfl ?_)
    rintro _ _ ⟨rfl, rfl⟩
    refine ⟨(.cons rfl (.plain rfl) (rlA (vs := [_, _]) ag23 sz23 rfl rfl rfl) (.cons rfl (.plain rfl) (rlA (vs := [_, _]) ag23 sz23 rfl rfl rfl) (.cons rfl (.plain rfl) (rlA (vs := [_, _]) ag23 sz23 rfl rfl rfl) (.cons rfl (.plain rfl) (rlA (vs := [_, _]) ag23 sz23 rfl rfl rfl) (.cons rfl (.plain rfl) (rlA (vs := [_, _]) ag23 sz23 rfl rfl rfl) (.cons rfl (.plain rfl) (rlA (vs := [_, _]) ag23 sz23 rfl rfl rfl) .nil)))))), ?_⟩
    refine D_wr (.go (E' := [(38, _), (33, _), (28, _), (23, _), (18, _)]) rfl (.plain rfl) (w_callP rfl rfl rfl (fun w hg => lpick_c (Fl.stT v d l (v.pieces.getD m.toNat pcZ).at_.toNat).v.x (spb4 hSf.2.1 (by decide)) sh _ h8 hll 3 (by decide) w (hS.good hg))) rfl ?_)
    rintro _ _ ⟨rfl, rfl⟩
    refine ⟨(.cons rfl (.plain rfl) (rlA (vs := [_, _]) ag23 sz23 rfl rfl rfl) (.cons rfl (.plain rfl) (rlA (vs := [_, _]) ag23 sz23 rfl rfl rfl) (.cons rfl (.plain rfl) (rlA (vs := [_, _]) ag23 sz23 rfl rfl rfl) (.cons rfl (.plain rfl) (rlA (vs := [_, _]) ag23 sz23 rfl rfl rfl) (.cons rfl (.plain rfl) (rlA (vs := [_, _]) ag23 sz23 rfl rfl rfl) .nil))))), ?_⟩
    refine D_wr (.go (E' := [(38, _), (33, _), (28, _), (23, _)]) rfl (.plain rfl) (w_callP rfl rfl rfl (fun w hg => lpick_c (v.pieces.getD m.toNat pcZ).kick.x (spb4 hkk.1 (by decide)) sh _ h8 hll 4 (by decide) w (hS.good hg))) rfl ?_)
    rintro _ _ ⟨rfl, rfl⟩
    refine ⟨(.cons rfl (.plain rfl) (rlA (vs := [_, _]) ag23 sz23 rfl rfl rfl) (.cons rfl (.plain rfl) (rlA (vs := [_, _]) ag23 sz23 rfl rfl rfl) (.cons rfl (.plain rfl) (rlA (vs := [_, _]) ag23 sz23 rfl rfl rfl) (.cons rfl (.plain rfl) (rlA (vs := [_, _]) ag23 sz23 rfl rfl rfl) .nil)))), ?_⟩
    refine Dp rfl rfl (p_add' rfl rfl rfl (a3.1)) ?_
    refine D_wr (.go (E' := [(38, _), (33, _), (28, _)]) rfl (.plain rfl) (w_callP rfl rfl rfl (fun w hg => lpick_c (Fl.stT v d l (v.pieces.getD m.toNat pcZ).at_.toNat).v.y (spb4 hSf.2.2.1 (by decide)) sh _ h8 hll 5 (by decide) w (hS.good hg))) rfl ?_)
    rintro _ _ ⟨rfl, rfl⟩
    refine ⟨(.cons rfl (.plain rfl) (rlA (vs := [_, _]) ag23 sz23 rfl rfl rfl) (.cons rfl (.plain rfl) (rlA (vs := [_, _]) ag23 sz23 rfl rfl rfl) (.cons rfl (.plain rfl) (rlA (vs := [_, _]) ag23 sz23 rfl rfl rfl) .nil))), ?_⟩
    refine D_wr (.go (E' := [(38, _), (33, _)]) rfl (.plain rfl) (w_callP rfl rfl rfl (fun w hg => lpick_c (v.pieces.getD m.toNat pcZ).kick.y (spb4 hkk.2.1 (by decide)) sh _ h8 hll 6 (by decide) w (hS.good hg))) rfl ?_)
    rintro _ _ ⟨rfl, rfl⟩
    refine ⟨(.cons rfl (.plain rfl) (rlA (vs := [_, _]) ag23 sz23 rfl rfl rfl) (.cons rfl (.plain rfl) (rlA (vs := [_, _]) ag23 sz23 rfl rfl rfl) .nil)), ?_⟩
    refine Dp rfl rfl (p_add' rfl rfl rfl (a3.2.1)) ?_
    refine D_wr (.go (E' := [(38, _)]) rfl (.plain rfl) (w_callP rfl rfl rfl (fun w hg => lpick_c (Fl.stT v d l (v.pieces.getD m.toNat pcZ).at_.toNat).v.z (spb4 hSf.2.2.2 (by decide)) sh _ h8 hll 7 (by decide) w (hS.good hg))) rfl ?_)
    rintro _ _ ⟨rfl, rfl⟩
    refine ⟨(.cons rfl (.plain rfl) (rlA (vs := [_, _]) ag23 sz23 rfl rfl rfl) .nil), ?_⟩
    refine D_wr (.go (E' := []) rfl (.plain rfl) (w_callP rfl rfl rfl (fun w hg => lpick_c (v.pieces.getD m.toNat pcZ).kick.z (spb4 hkk.2.2 (by decide)) sh _ h8 hll 8 (by decide) w (hS.good hg))) rfl ?_)
    rintro _ _ ⟨rfl, rfl⟩
    refine ⟨.nil, ?_⟩
    refine Dp rfl rfl (p_add' rfl rfl rfl (a3.2.2)) ?_
    refine Dp rfl rfl (p_build (r := [_, _, _, _, _, _]) pl88 zr88 rfl rfl rfl) ?_
    refine D_wr (.go (E' := []) rfl (.plain rfl) (ws (cs' := [_, _, _, _, _, _]) sz88 rfl rfl rfl rfl rfl rfl rfl) rfl ?_)
    rintro _ _ ⟨rfl, rfl⟩
    refine ⟨.nil, ?_⟩
    refine D_then (kp [2, 3, 4, 7, 10, 12, 14] rfl) ?_
    refine ⟨b8, trivial, (.cons rfl (.cons rfl (.cons rfl (.cons rfl (.cons rfl (.cons rfl (.cons rfl (.nil _)))))))), (by (try dsimp only); repeat (first | exact HSub.refl _ | exact HSub.nil _ | refine HSub.take (by repeat first | exact Take.head | apply Take.tail) ?_ | exact HSub.refl _ | refine HSub.drop ?_ | refine HSub.app ?_)), rfl⟩
   refine (.go (E' := [(38, _), (33, _), (28, _), (23, _), (18, _), (13, _), (9, _), (5, _)]) rfl (.plain rfl) (w_alloc zr88 rfl) rfl ?_)
   rintro _ _ ⟨b8, hb8, rfl, rfl⟩
   refine ⟨(.cons rfl (.plain rfl) (rlA (vs := [_, _]) ag23 sz23 rfl rfl rfl) (.cons rfl (.plain rfl) (rlA (vs := [_, _]) ag23 sz23 rfl rfl rfl) (.cons rfl (.plain rfl) (rlA (vs := [_, _]) ag23 sz23 rfl rfl rfl) (.cons rfl (.plain rfl) (rlA (vs := [_, _]) ag23 sz23 rfl rfl rfl) (.cons rfl (.plain rfl) (rlA (vs := [_, _]) ag23 sz23 rfl rfl rfl) (.cons rfl (.plain rfl) (rlA (vs := [_, _]) ag23 sz23 rfl rfl rfl) (.cons rfl (.plain rfl) (rlA (vs := [_, _]) ag23 sz23 rfl rfl rfl) (.cons rfl (.plain rfl) (rlA (vs := [_, _]) ag23 sz23 rfl rfl rfl) .nil)))))))), ?_⟩
   refine D_wr (.go (E' := [(38, _), (33, _), (28, _), (23, _), (18, _), (13, _), (9, _)]) rfl (.plain rfl) (w_callP rfl rfl rfl (fun w hg => lpick_c (Fl.stT v d l (v.pieces.getD m.toNat pcZ).at_.toNat).p.y (spb4 hSf.1.2.1 (by decide)) sh _ h8 hll 1 (by decide) w (hS.good hg))) rfl ?_)
   rintro _ _ ⟨rfl, rfl⟩
   refine ⟨(.cons rfl (.plain rfl) (rlA (vs := [_, _]) ag23 sz23 rfl rfl rfl) (.cons rfl (.plain rfl) (rlA (vs := [_, _]) ag23 sz23 rfl rfl rfl) (.cons rfl (.plain rfl) (rlA (vs := [_, _]) ag23 sz23 rfl rfl rfl) (.cons rfl (.plain rfl) (rlA (vs := [_, _]) ag23 sz23 rfl rfl rfl) (.cons rfl (.plain rfl) (rlA (vs := [_, _]) ag23 sz23 rfl rfl rfl) (.cons rfl (.plain rfl) (rlA (vs := [_, _]) ag23 sz23 rfl rfl rfl) (.cons rfl (.plain rfl) (rlA (vs := [_, _]) ag23 sz23 rfl rfl rfl) .nil))))))), ?_⟩
   refine D_wr (.go (E' := [(38, _), (33, _), (28, _), (23, _), (18, _), (13, _)]) rfl (.plain rfl) (w_callP rfl rfl rfl (fun w hg => lpick_c (Fl.stT v d l (v.pieces.getD m.toNat pcZ).at_.toNat).p.z (spb4 hSf.1.2.2 (by decide)) sh _ h8 hll 2 (by decide) w (hS.good hg))) rfl ?_)
   rintro _ _ ⟨rfl, rfl⟩
   refine ⟨(.cons rfl (.plain rfl) (rlA (vs := [_, _]) ag23 sz23 rfl rfl rfl) (.cons rfl (.plain rfl) (rlA (vs := [_, _]) ag23 sz23 rfl rfl rfl) (.cons rfl (.plain rfl) (rlA (vs := [_, _]) ag23 sz23 rfl rfl rfl) (.cons rfl (.plain rfl) (rlA (vs := [_, _]) ag23 sz23 rfl rfl rfl) (.cons rfl (.plain rfl) (rlA (vs := [_, _]) ag23 sz23 rfl rfl rfl) (.cons rfl (.plain rfl) (rlA (vs := [_, _]) ag23 sz23 rfl rfl rfl) .nil)))))), ?_⟩
   refine D_wr (.go (E' := [(38, _), (33, _), (28, _), (23, _), (18, _)]) rfl (.plain rfl) (w_callP rfl rfl rfl (fun w hg => lpick_c (Fl.stT v d l (v.pieces.getD m.toNat pcZ).at_.toNat).v.x (spb4 hSf.2.1 (by decide)) sh _ h8 hll 3 (by decide) w (hS.good hg))) rfl ?_)
   rintro _ _ ⟨rfl, rfl⟩
   refine ⟨(.cons rfl (.plain rfl) (rlA (vs := [_, _]) ag23 sz23 rfl rfl rfl) (.cons rfl (.plain rfl) (rlA (vs := [_, _]) ag23 sz23 rfl rfl rfl) (.cons rfl (.plain rfl) (rlA (vs := [_, _]) ag23 sz23 rfl rfl rfl) (.cons rfl (.plain rfl) (rlA (vs := [_, _]) ag23 sz23 rfl rfl rfl) (.cons rfl (.plain rfl) (rlA (vs := [_, _]) ag23 sz23 rfl rfl rfl) .nil))))), ?_⟩
   refine D_wr (.go (E' := [(38, _), (33, _), (28, _), (23, _)]) rfl (.plain rfl) (w_callP rfl rfl rfl (fun w hg => lpick_c (v.pieces.getD m.toNat pcZ).kick.x (spb4 hkk.1 (by decide)) sh _ h8 hll 4 (by decide) w (hS.good hg))) rfl ?_)
   rintro _ _ ⟨rfl, rfl⟩
   refine ⟨(.cons rfl (.plain rfl) (rlA (vs := [_, _]) ag23 sz23 rfl rfl rfl) (.cons rfl (.plain rfl) (rlA (vs := [_, _]) ag23 sz23 rfl rfl rfl) (.cons rfl (.plain rfl) (rlA (vs := [_, _]) ag23 sz23 rfl rfl rfl) (.cons rfl (.plain rfl) (rlA (vs := [_, _]) ag23 sz23 rfl rfl rfl) .nil)))), ?_⟩
   refine Dp rfl rfl (p_add' rfl rfl rfl (a3.1)) ?_
   refine D_wr (.go (E' := [(38, _), (33, _), (28, _)]) rfl (.plain rfl) (w_callP rfl rfl rfl (fun w hg => lpick_c (Fl.stT v d l (v.pieces.getD m.toNat pcZ).at_.toNat).v.y (spb4 hSf.2.2.1 (by decide)) sh _ h8 hll 5 (by decide) w (hS.good hg))) rfl ?_)
   rintro _ _ ⟨rfl, rfl⟩
   refine ⟨(.cons rfl (.plain rfl) (rlA (vs := [_, _]) ag23 sz23 rfl rfl rfl) (.cons rfl (.plain rfl) (rlA (vs := [_, _]) ag23 sz23 rfl rfl rfl) (.cons rfl (.plain rfl) (rlA (vs := [_, _]) ag23 sz23 rfl rfl rfl) .nil))), ?_⟩
   refine D_wr (.go (E' := [(38, _), (33, _)]) rfl (.plain rfl) (w_callP rfl rfl rfl (fun w hg => lpick_c (v.pieces.getD m.toNat pcZ).kick.y (spb4 hkk.2.1 (by decide)) sh _ h8 hll 6 (by decide) w (hS.good hg))) rfl ?_)
   rintro _ _ ⟨rfl, rfl⟩
   refine ⟨(.cons rfl (.plain rfl) (rlA (vs := [_, _]) ag23 sz23 rfl rfl rfl) (.cons rfl (.plain rfl) (rlA (vs := [_, _]) ag23 sz23 rfl rfl rfl) .nil)), ?_⟩
   refine Dp rfl rfl (p_add' rfl rfl rfl (a3.2.1)) ?_
   refine D_wr (.go (E' := [(38, _)]) rfl (.plain rfl) (w_callP rfl rfl rfl (fun w hg => lpick_c (Fl.stT v d l (v.pieces.getD m.toNat pcZ).at_.toNat).v.z (spb4 hSf.2.2.2 (by decide)) sh _ h8 hll 7 (by decide) w (hS.good hg))) rfl ?_)
   rintro _ _ ⟨rfl, rfl⟩
   refine ⟨(.cons rfl (.plain rfl) (rlA (vs := [_, _]) ag23 sz23 rfl rfl rfl) .nil), ?_⟩
   refine D_wr (.go (E' := []) rfl (.plain rfl) (w_callP rfl rfl rfl (fun w hg => lpick_c (v.pieces.getD m.toNat pcZ).kick.z (spb4 hkk.2.2 (by decide)) sh _ h8 hll 8 (by decide) w (hS.good hg))) rfl ?_)
   rintro _ _ ⟨rfl, rfl⟩
   refine ⟨.nil, ?_⟩
   refine Dp rfl rfl (p_add' rfl rfl rfl (a3.2.2)) ?_
   refine Dp rfl rfl (p_build (r := [_, _, _, _, _, _]) pl88 zr88 rfl rfl rfl) ?_
   refine D_wr (.go (E' := []) rfl (.plain rfl) (ws (cs' := [_, _, _, _, _, _]) sz88 rfl rfl rfl rfl rfl rfl rfl) rfl ?_)
   rintro _ _ ⟨rfl, rfl⟩
   refine ⟨.nil, ?_⟩
   refine D_then (kp [2, 3, 4, 7, 10, 12, 14] rfl) ?_
   refine ⟨b8, trivial, (.cons rfl (.cons rfl (.cons rfl (.cons rfl (.cons rfl (.cons rfl (.cons rfl (.nil _)))))))), (by (try dsimp only); repeat (first | exact HSub.refl _ | exact HSub.nil _ | refine HSub.take (by repeat first | exact Take.head | apply Take.tail) ?_ | exact HSub.refl _ | refine HSub.drop ?_ | refine HSub.app ?_)), rfl⟩
  refine (.go (E' := [(38, _), (33, _), (28, _), (23, _), (18, _), (13, _), (9, _), (5, _), (1, _)]) rfl (.plain rfl) (w_alloc zr88 rfl) rfl ?_)
  rintro _ _ ⟨b8, hb8, rfl, rfl⟩
  refine ⟨(.cons rfl (.plain rfl) (rlA (vs := [_, _]) ag23 sz23 rfl rfl rfl) (.cons rfl (.plain rfl) (rlA (vs := [_, _]) ag23 sz23 rfl rfl rfl) (.cons rfl (.plain rfl) (rlA (vs := [_, _]) ag23 sz23 rfl rfl rfl) (.cons rfl (.plain rfl) (rlA (vs := [_, _]) ag23 sz23 rfl rfl rfl) (.cons rfl (.plain rfl) (rlA (vs := [_, _]) ag23 sz23 rfl rfl rfl) (.cons rfl (.plain rfl) (rlA (vs := [_, _]) ag23 sz23 rfl rfl rfl) (.cons rfl (.plain rfl) (rlA (vs := [_, _]) ag23 sz23 rfl rfl rfl) (.cons rfl (.plain rfl) (rlA (vs := [_, _]) ag23 sz23 rfl rfl rfl) (.cons rfl (.plain rfl) (rlA (vs := [_, _]) ag23 sz23 rfl rfl rfl) .nil))))))))), ?_⟩
  refine D_wr (.go (E' := [(38, _), (33, _), (28, _), (23, _), (18, _), (13, _), (9, _), (5, _)]) rfl (.plain rfl) (w_callP rfl rfl rfl (fun w hg => lpick_c (Fl.stT v d l (v.pieces.getD m.toNat pcZ).at_.toNat).p.x (spb4 hSf.1.1 (by decide)) sh _ h8 hll 0 (by decide) w (hS.good hg))) rfl ?_)
  rintro _ _ ⟨rfl, rfl⟩
  refine ⟨(.cons rfl (.plain rfl) (rlA (vs := [_, _]) ag23 sz23 rfl rfl rfl) (.cons rfl (.plain rfl) (rlA (vs := [_, _]) ag23 sz23 rfl rfl rfl) (.cons rfl (.plain rfl) (rlA (vs := [_, _]) ag23 sz23 rfl rfl rfl) (.cons rfl (.plain rfl) (rlA (vs := [_, _]) ag23 sz23 rfl rfl rfl) (.cons rfl (.plain rfl) (rlA (vs := [_, _]) ag23 sz23 rfl rfl rfl) (.cons rfl (.plain rfl) (rlA (vs := [_, _]) ag23 sz23 rfl rfl rfl) (.cons rfl (.plain rfl) (rlA (vs := [_, _]) ag23 sz23 rfl rfl rfl) (.cons rfl (.plain rfl) (rlA (vs := [_, _]) ag23 sz23 rfl rfl rfl) .nil)))))))), ?_⟩
  refine D_wr (.go (E' := [(38, _), (33, _), (28, _), (23, _), (18, _), (13, _), (9, _)]) rfl (.plain rfl) (w_callP rfl rfl rfl (fun w hg => lpick_c (Fl.stT v d l (v.pieces.getD m.toNat pcZ).at_.toNat).p.y (spb4 hSf.1.2.1 (by decide)) sh _ h8 hll 1 (by decide) w (hS.good hg))) rfl ?_)
  rintro _ _ ⟨rfl, rfl⟩
  refine ⟨(.cons rfl (.plain rfl) (rlA (vs := [_, _]) ag23 sz23 rfl rfl rfl) (.cons rfl (.plain rfl) (rlA (vs := [_, _]) ag23 sz23 rfl rfl rfl) (.cons rfl (.plain rfl) (rlA (vs := [_, _]) ag23 sz23 rfl rfl rfl) (.cons rfl (.plain rfl) (rlA (vs := [_, _]) ag23 sz23 rfl rfl rfl) (.cons rfl (.plain rfl) (rlA (vs := [_, _]) ag23 sz23 rfl rfl rfl) (.cons rfl (.plain rfl) (rlA (vs := [_, _]) ag23 sz23 rfl rfl rfl) (.cons rfl (.plain rfl) (rlA (vs := [_, _]) ag23 sz23 rfl rfl rfl) .nil))))))), ?_⟩
  refine D_wr (.go (E' := [(38, _), (33, _), (28, _), (23, _), (18, _), (13, _)]) rfl (.plain rfl) (w_callP rfl rfl rfl (fun w hg => lpick_c (Fl.stT v d l (v.pieces.getD m.toNat pcZ).at_.toNat).p.z (spb4 hSf.1.2.2 (by decide)) sh _ h8 hll 2 (by decide) w (hS.good hg))) rfl ?_)
  rintro _ _ ⟨rfl, rfl⟩
  refine ⟨(.cons rfl (.plain rfl) (rlA (vs := [_, _]) ag23 sz23 rfl rfl rfl) (.cons rfl (.plain rfl) (rlA (vs := [_, _]) ag23 sz23 rfl rfl rfl) (.cons rfl (.plain rfl) (rlA (vs := [_, _]) ag23 sz23 rfl rfl rfl) (.cons rfl (.plain rfl) (rlA (vs := [_, _]) ag23 sz23 rfl rfl rfl) (.cons rfl (.plain rfl) (rlA (vs := [_, _]) ag23 sz23 rfl rfl rfl) (.cons rfl (.plain rfl) (rlA (vs := [_, _]) ag23 sz23 rfl rfl rfl) .nil)))))), ?_⟩
  refine D_wr (.go (E' := [(38, _), (33, _), (28, _), (23, _), (18, _)]) rfl (.plain rfl) (w_callP rfl rfl rfl (fun w hg => lpick_c (Fl.stT v d l (v.pieces.getD m.toNat pcZ).at_.toNat).v.x (spb4 hSf.2.1 (by decide)) sh _ h8 hll 3 (by decide) w (hS.good hg))) rfl ?_)
  rintro _ _ ⟨rfl, rfl⟩
  refine ⟨(.cons rfl (.plain rfl) (rlA (vs := [_, _]) ag23 sz23 rfl rfl rfl) (.cons rfl (.plain rfl) (rlA (vs := [_, _]) ag23 sz23 rfl rfl rfl) (.cons rfl (.plain rfl) (rlA (vs := [_, _]) ag23 sz23 rfl rfl rfl) (.cons rfl (.plain rfl) (rlA (vs := [_, _]) ag23 sz23 rfl rfl rfl) (.cons rfl (.plain rfl) (rlA (vs := [_, _]) ag23 sz23 rfl rfl rfl) .nil))))), ?_⟩
  refine D_wr (.go (E' := [(38, _), (33, _), (28, _), (23, _)]) rfl (.plain rfl) (w_callP rfl rfl rfl (fun w hg => lpick_c (v.pieces.getD m.toNat pcZ).kick.x (spb4 hkk.1 (by decide)) sh _ h8 hll 4 (by decide) w (hS.good hg))) rfl ?_)
  rintro _ _ ⟨rfl, rfl⟩
  refine ⟨(.cons rfl (.plain rfl) (rlA (vs := [_, _]) ag23 sz23 rfl rfl rfl) (.cons rfl (.plain rfl) (rlA (vs := [_, _]) ag23 sz23 rfl rfl rfl) (.cons rfl (.plain rfl) (rlA (vs := [_, _]) ag23 sz23 rfl rfl rfl) (.cons rfl (.plain rfl) (rlA (vs := [_, _]) ag23 sz23 rfl rfl rfl) .nil)))), ?_⟩
  refine Dp rfl rfl (p_add' rfl rfl rfl (a3.1)) ?_
  refine D_wr (.go (E' := [(38, _), (33, _), (28, _)]) rfl (.plain rfl) (w_callP rfl rfl rfl (fun w hg => lpick_c (Fl.stT v d l (v.pieces.getD m.toNat pcZ).at_.toNat).v.y (spb4 hSf.2.2.1 (by decide)) sh _ h8 hll 5 (by decide) w (hS.good hg))) rfl ?_)
  rintro _ _ ⟨rfl, rfl⟩
  refine ⟨(.cons rfl (.plain rfl) (rlA (vs := [_, _]) ag23 sz23 rfl rfl rfl) (.cons rfl (.plain rfl) (rlA (vs := [_, _]) ag23 sz23 rfl rfl rfl) (.cons rfl (.plain rfl) (rlA (vs := [_, _]) ag23 sz23 rfl rfl rfl) .nil))), ?_⟩
  refine D_wr (.go (E' := [(38, _), (33, _)]) rfl (.plain rfl) (w_callP rfl rfl rfl (fun w hg => lpick_c (v.pieces.getD m.toNat pcZ).kick.y (spb4 hkk.2.1 (by decide)) sh _ h8 hll 6 (by decide) w (hS.good hg))) rfl ?_)
  rintro _ _ ⟨rfl, rfl⟩
  refine ⟨(.cons rfl (.plain rfl) (rlA (vs := [_, _]) ag23 sz23 rfl rfl rfl) (.cons rfl (.plain rfl) (rlA (vs := [_, _]) ag23 sz23 rfl rfl rfl) .nil)), ?_⟩
  refine Dp rfl rfl (p_add' rfl rfl rfl (a3.2.1)) ?_
  refine D_wr (.go (E' := [(38, _)]) rfl (.plain rfl) (w_callP rfl rfl rfl (fun w hg => lpick_c (Fl.stT v d l (v.pieces.getD m.toNat pcZ).at_.toNat).v.z (spb4 hSf.2.2.2 (by decide)) sh _ h8 hll 7 (by decide) w (hS.good hg))) rfl ?_)
  rintro _ _ ⟨rfl, rfl⟩
  refine ⟨(.cons rfl (.plain rfl) (rlA (vs := [_, _]) ag23 sz23 rfl rfl rfl) .nil), ?_⟩
  refine D_wr (.go (E' := []) rfl (.plain rfl) (w_callP rfl rfl rfl (fun w hg => lpick_c (v.pieces.getD m.toNat pcZ).kick.z (spb4 hkk.2.2 (by decide)) sh _ h8 hll 8 (by decide) w (hS.good hg))) rfl ?_)
  rintro _ _ ⟨rfl, rfl⟩
  refine ⟨.nil, ?_⟩
  refine Dp rfl rfl (p_add' rfl rfl rfl (a3.2.2)) ?_
  refine Dp rfl rfl (p_build (r := [_, _, _, _, _, _]) pl88 zr88 rfl rfl rfl) ?_
  refine D_wr (.go (E' := []) rfl (.plain rfl) (ws (cs' := [_, _, _, _, _, _]) sz88 rfl rfl rfl rfl rfl rfl rfl) rfl ?_)
  rintro _ _ ⟨rfl, rfl⟩
  refine ⟨.nil, ?_⟩
  refine D_then (kp [2, 3, 4, 7, 10, 12, 14] rfl) ?_
  refine ⟨b8, trivial, (.cons rfl (.cons rfl (.cons rfl (.cons rfl (.cons rfl (.cons rfl (.cons rfl (.nil _)))))))), (by (try dsimp only); repeat (first | exact HSub.refl _ | exact HSub.nil _ | refine HSub.take (by repeat first | exact Take.head | apply Take.tail) ?_ | exact HSub.refl _ | refine HSub.drop ?_ | refine HSub.app ?_)), rfl⟩
 rintro x14 _
 refine Vs rfl ?_
 refine Lr rfl (rlA (vs := [_, _, _, _, _, _]) ag88 sz88 rfl rfl rfl) ?_
 refine Lw rfl (w_slice (r := [_, _, _, _, _, _]) un89 sz88 zr88 rfl (by decide) rfl (by decide) rfl rfl) ?_
 rintro _ _ ⟨b8, hb8, rfl, rfl⟩
 refine La rfl rfl rfl ?_
 refine L_then (kp [2, 3, 4, 7, 10, 12, 14, 15] rfl) ?_
 refine V_seq ?_
 refine Vs rfl ?_
 refine La rfl rfl rfl ?_
 refine L_then (kp [2, 3, 4, 7, 10, 12, 14, 15, 16] rfl) ?_
 refine V_block ?_
 refine V_hs (H' := (fun (j, sq, GP) => (x14, .cells #[.int .i64 (partQ v d l (v.pieces.getD m.toNat pcZ) sh j).x, .int .i64 (partQ v d l (v.pieces.getD m.toNat pcZ) sh j).y, .int .i64 (partQ v d l (v.pieces.getD m.toNat pcZ) sh j).z, .int .i64 (partQ v d l (v.pieces.getD m.toNat pcZ) sh j).vx, .int .i64 (partQ v d l (v.pieces.getD m.toNat pcZ) sh j).vy, .int .i64 (partQ v d l (v.pieces.getD m.toNat pcZ) sh j).vz] 88) :: (b6, .cells #[.string v.name, .int .i64 v.gravity.lo, .int .i64 v.gravity.hi, .slice aa v.air.length ac, .slice (some ⟨x5, 0, none⟩) 1 1, .slice none 0 0] 28) :: (x5, .cells (Phase.cells ⟨1, Fl.spZ, (v.pieces.getD m.toNat pcZ).mass, (v.pieces.getD m.toNat pcZ).drag, axZ⟩).toArray 46) :: (b3, .cells (Piece.cells (v.pieces.getD m.toNat pcZ)).toArray 49) :: (b2, .cells #[.int .i64 d.x, .int .i64 d.y, .int .i64 d.z, .slice ba l.length bc, .int .i64 n, .int .i64 m] 39) :: (b1, .cells #[.string v.name, .int .i64 v.gravity.lo, .int .i64 v.gravity.hi, .slice aa v.air.length ac, .slice pa v.phases.length pc, .slice (some tb) v.pieces.length qc] 28) :: (GP ++ [(gb2, .cells cur2 54), (gb1, .cells cur1 54)]) : (Nat × Value × Heap) → Heap) (0, .slice (some ⟨b8, 0, none⟩) 1 1, [(b8, .cells #[.int .i64 (partQ v d l (v.pieces.getD m.toNat pcZ) sh 0).x, .int .i64 (partQ v d l (v.pieces.getD m.toNat pcZ) sh 0).y, .int .i64 (partQ v d l (v.pieces.getD m.toNat pcZ) sh 0).z, .int .i64 (partQ v d l (v.pieces.getD m.toNat pcZ) sh 0).vx, .int .i64 (partQ v d l (v.pieces.getD m.toNat pcZ) sh 0).vy, .int .i64 (partQ v d l (v.pieces.getD m.toNat pcZ) sh 0).vz] 88)])) (by (try dsimp only); repeat (first | exact HSub.refl _ | exact HSub.nil _ | refine HSub.take (by repeat first | exact Take.head | apply Take.tail) ?_ | exact HSub.refl _ | refine HSub.drop ?_ | refine HSub.app ?_)) ?_
 refine V_loop1 (γ := Nat × Value × Heap) (kp [2, 3, 4, 7, 10, 12, 14] rfl) (fun (j, sq, GP) => [(16, .int .i64 (j : Int)), (15, sq)]) (fun (j, sq, GP) => (x14, .cells #[.int .i64 (partQ v d l (v.pieces.getD m.toNat pcZ) sh j).x, .int .i64 (partQ v d l (v.pieces.getD m.toNat pcZ) sh j).y, .int .i64 (partQ v d l (v.pieces.getD m.toNat pcZ) sh j).z, .int .i64 (partQ v d l (v.pieces.getD m.toNat pcZ) sh j).vx, .int .i64 (partQ v d l (v.pieces.getD m.toNat pcZ) sh j).vy, .int .i64 (partQ v d l (v.pieces.getD m.toNat pcZ) sh j).vz] 88) :: (b6, .cells #[.string v.name, .int .i64 v.gravity.lo, .int .i64 v.gravity.hi, .slice aa v.air.length ac, .slice (some ⟨x5, 0, none⟩) 1 1, .slice none 0 0] 28) :: (x5, .cells (Phase.cells ⟨1, Fl.spZ, (v.pieces.getD m.toNat pcZ).mass, (v.pieces.getD m.toNat pcZ).drag, axZ⟩).toArray 46) :: (b3, .cells (Piece.cells (v.pieces.getD m.toNat pcZ)).toArray 49) :: (b2, .cells #[.int .i64 d.x, .int .i64 d.y, .int .i64 d.z, .slice ba l.length bc, .int .i64 n, .int .i64 m] 39) :: (b1, .cells #[.string v.name, .int .i64 v.gravity.lo, .int .i64 v.gravity.hi, .slice aa v.air.length ac, .slice pa v.phases.length pc, .slice (some tb) v.pieces.length qc] 28) :: (GP ++ [(gb2, .cells cur2 54), (gb1, .cells cur1 54)])) (fun (j, sq, GP) => j ≤ n.toNat ∧ Grow 88 6 sq (j + 1) (ptL (pathQ v d l (v.pieces.getD m.toNat pcZ) sh (j + 1))) GP) (fun (j, sq, GP) => n.toNat - j) ((0, .slice (some ⟨b8, 0, none⟩) 1 1, [(b8, .cells #[.int .i64 (partQ v d l (v.pieces.getD m.toNat pcZ) sh 0).x, .int .i64 (partQ v d l (v.pieces.getD m.toNat pcZ) sh 0).y, .int .i64 (partQ v d l (v.pieces.getD m.toNat pcZ) sh 0).z, .int .i64 (partQ v d l (v.pieces.getD m.toNat pcZ) sh 0).vx, .int .i64 (partQ v d l (v.pieces.getD m.toNat pcZ) sh 0).vy, .int .i64 (partQ v d l (v.pieces.getD m.toNat pcZ) sh 0).vz] 88)])) (.cons rfl (.cons rfl (.nil _))) (by repeat (first | exact List.nil_sublist _ | exact List.Sublist.refl _ | apply List.Sublist.cons_cons | apply List.Sublist.cons)) (⟨Nat.zero_le _, Grow.row (cur := #[.int .i64 (partQ v d l (v.pieces.getD m.toNat pcZ) sh 0).x, .int .i64 (partQ v d l (v.pieces.getD m.toNat pcZ) sh 0).y, .int .i64 (partQ v d l (v.pieces.getD m.toNat pcZ) sh 0).z, .int .i64 (partQ v d l (v.pieces.getD m.toNat pcZ) sh 0).vx, .int .i64 (partQ v d l (v.pieces.getD m.toNat pcZ) sh 0).vy, .int .i64 (partQ v d l (v.pieces.getD m.toNat pcZ) sh 0).vz]) (by decide) (by decide) rfl rfl rfl⟩) ?_
 rintro ⟨j, sq, GP⟩ hi
 obtain ⟨hj, hgp⟩ := hi
 dsimp only at hj hgp ⊢
 obtain ⟨sap, scp, rfl⟩ := Grow.form hgp
 refine V_seq ?_
 refine Vs rfl ?_
 refine Lm rfl rfl rfl ?_
 refine Lp rfl (p_fieldo fo39_2 rfl rfl) ?_
 refine Lr rfl (rl ag3 rfl rfl rfl) ?_
 refine Lp rfl (p_lss rfl rfl rfl) ?_
 refine L_then (kp [2, 3, 4, 7, 10, 12, 14, 15, 16, 157] rfl) ?_
 refine V_cond rfl ?_ ?_
 ·intro c2; try simp only [td] at c2
  have hP := part_in hA hx h8 hS0 j (fun i hi => hfar2 i (by omega))
  have hN := pt_near hP (hfar2 j (by omega))
  have hF := force_bnd hGV hdd hGB hx.ph (pt_far hN).1
  obtain ⟨a4, a5⟩ := step_I h8 hN hF (j : Int)
  refine V_skip (then_n ?_)
  refine V_seq ?_
  refine V_block ?_
  refine V_mid (γ := Nat) (kp [2, 3, 4, 7, 10, 12, 14, 15, 16] rfl) (fun x17 => [(17, .pointer (some ⟨x17, 0, none⟩))]) (fun x17 => (x17, .cells #[.int .i64 (partQ v d l (v.pieces.getD m.toNat pcZ) sh j).x, .int .i64 (partQ v d l (v.pieces.getD m.toNat pcZ) sh j).x, .int .i64 (partQ v d l (v.pieces.getD m.toNat pcZ) sh j).y, .int .i64 (partQ v d l (v.pieces.getD m.toNat pcZ) sh j).y, .int .i64 (partQ v d l (v.pieces.getD m.toNat pcZ) sh j).z, .int .i64 (partQ v d l (v.pieces.getD m.toNat pcZ) sh j).z, .int .i64 (partQ v d l (v.pieces.getD m.toNat pcZ) sh j).vx, .int .i64 (partQ v d l (v.pieces.getD m.toNat pcZ) sh j).vx, .int .i64 (partQ v d l (v.pieces.getD m.toNat pcZ) sh j).vy, .int .i64 (partQ v d l (v.pieces.getD m.toNat pcZ) sh j).vy, .int .i64 (partQ v d l (v.pieces.getD m.toNat pcZ) sh j).vz, .int .i64 (partQ v d l (v.pieces.getD m.toNat pcZ) sh j).vz] 54) :: (x14, .cells #[.int .i64 (partQ v d l (v.pieces.getD m.toNat pcZ) sh j).x, .int .i64 (partQ v d l (v.pieces.getD m.toNat pcZ) sh j).y, .int .i64 (partQ v d l (v.pieces.getD m.toNat pcZ) sh j).z, .int .i64 (partQ v d l (v.pieces.getD m.toNat pcZ) sh j).vx, .int .i64 (partQ v d l (v.pieces.getD m.toNat pcZ) sh j).vy, .int .i64 (partQ v d l (v.pieces.getD m.toNat pcZ) sh j).vz] 88) :: (b6, .cells #[.string v.name, .int .i64 v.gravity.lo, .int .i64 v.gravity.hi, .slice aa v.air.length ac, .slice (some ⟨x5, 0, none⟩) 1 1, .slice none 0 0] 28) :: (x5, .cells (Phase.cells ⟨1, Fl.spZ, (v.pieces.getD m.toNat pcZ).mass, (v.pieces.getD m.toNat pcZ).drag, axZ⟩).toArray 46) :: (b3, .cells (Piece.cells (v.pieces.getD m.toNat pcZ)).toArray 49) :: (b2, .cells #[.int .i64 d.x, .int .i64 d.y, .int .i64 d.z, .slice ba l.length bc, .int .i64 n, .int .i64 m] 39) :: (b1, .cells #[.string v.name, .int .i64 v.gravity.lo, .int .i64 v.gravity.hi, .slice aa v.air.length ac, .slice pa v.phases.length pc, .slice (some tb) v.pieces.length qc] 28) :: (GP ++ [(gb2, .cells cur2 54), (gb1, .cells cur1 54)])) (fun x17 => True) ?_ ?_
  ·refine V_draw (.rd 0 (.rd 1 (.rd 2 (.rd 3 (.rd 5 (.rd 6 (.rd 7 (.rd 8 (.rd 10 (.rd 11 (.rd 12 (.rd 13 (.rd 15 (.rd 16 (.rd 17 (.rd 18 (.rd 20 (.rd 21 (.rd 22 (.rd 23 (.rd 25 (.rd 26 (.rd 27 (.rd 28 (.wr2 4 [28, 27, 26, 25, 23, 22, 21, 20, 18, 17, 16, 15, 13, 12, 11, 10, 8, 7, 6, 5, 2, 0] (.wr2 9 [28, 27, 26, 25, 23, 22, 21, 20, 18, 17, 16, 15, 13, 12, 11, 10, 7, 5, 3, 2, 1, 0] (.wr2 14 [28, 27, 26, 25, 23, 22, 21, 20, 18, 17, 16, 15, 12, 10, 8, 7, 6, 5, 3, 2, 1, 0] (.wr2 19 [28, 27, 26, 25, 23, 22, 21, 20, 17, 15, 13, 12, 11, 10, 8, 7, 6, 5, 3, 2, 1, 0] (.wr2 24 [28, 27, 26, 25, 22, 20, 18, 17, 16, 15, 13, 12, 11, 10, 8, 7, 6, 5, 3, 2, 1, 0] (.wr2 29 [27, 25, 23, 22, 21, 20, 18, 17, 16, 15, 13, 12, 11, 10, 8, 7, 6, 5, 3, 2, 1, 0] (.rd 30 (.wr 31 [30, 28, 27, 26, 25, 23, 22, 21, 20, 18, 17, 16, 15, 13, 12, 11, 10, 8, 7, 6, 5, 3, 2, 1, 0] (.wr 32 [] .done))) 31 [28, 27, 26, 25, 23, 22, 21, 20, 18, 17, 16, 15, 13, 12, 11, 10, 8, 7, 6, 5, 3, 2, 1, 0] (.wr 29 [27, 25, 23, 22, 21, 20, 18, 17, 16, 15, 13, 12, 11, 10, 8, 7, 6, 5, 3, 2, 1, 0] (.rd 30 (.wr 32 [] .done)))) 31 [28, 27, 26, 25, 23, 22, 21, 20, 18, 17, 16, 15, 13, 12, 11, 10, 8, 7, 6, 5, 3, 2, 1, 0] (.wr 24 [28, 27, 26, 25, 22, 20, 18, 17, 16, 15, 13, 12, 11, 10, 8, 7, 6, 5, 3, 2, 1, 0] (.wr 29 [27, 25, 23, 22, 21, 20, 18, 17, 16, 15, 13, 12, 11, 10, 8, 7, 6, 5, 3, 2, 1, 0] (.rd 30 (.wr 32 [] .done))))) 31 [28, 27, 26, 25, 23, 22, 21, 20, 18, 17, 16, 15, 13, 12, 11, 10, 8, 7, 6, 5, 3, 2, 1, 0] (.wr 19 [28, 27, 26, 25, 23, 22, 21, 20, 17, 15, 13, 12, 11, 10, 8, 7, 6, 5, 3, 2, 1, 0] (.wr 24 [28, 27, 26, 25, 22, 20, 18, 17, 16, 15, 13, 12, 11, 10, 8, 7, 6, 5, 3, 2, 1, 0] (.wr 29 [27, 25, 23, 22, 21, 20, 18, 17, 16, 15, 13, 12, 11, 10, 8, 7, 6, 5, 3, 2, 1, 0] (.rd 30 (.wr 32 [] .done)))))) 31 [28, 27, 26, 25, 23, 22, 21, 20, 18, 17, 16, 15, 13, 12, 11, 10, 8, 7, 6, 5, 3, 2, 1, 0] (.wr 14 [28, 27, 26, 25, 23, 22, 21, 20, 18, 17, 16, 15, 12, 10, 8, 7, 6, 5, 3, 2, 1, 0] (.wr 19 [28, 27, 26, 25, 23, 22, 21, 20, 17, 15, 13, 12, 11, 10, 8, 7, 6, 5, 3, 2, 1, 0] (.wr 24 [28, 27, 26, 25, 22, 20, 18, 17, 16, 15, 13, 12, 11, 10, 8, 7, 6, 5, 3, 2, 1, 0] (.wr 29 [27, 25, 23, 22, 21, 20, 18, 17, 16, 15, 13, 12, 11, 10, 8, 7, 6, 5, 3, 2, 1, 0] (.rd 30 (.wr 32 [] .done))))))) 31 [28, 27, 26, 25, 23, 22, 21, 20, 18, 17, 16, 15, 13, 12, 11, 10, 8, 7, 6, 5, 3, 2, 1, 0] (.wr 9 [28, 27, 26, 25, 23, 22, 21, 20, 18, 17, 16, 15, 13, 12, 11, 10, 7, 5, 3, 2, 1, 0] (.wr 14 [28, 27, 26, 25, 23, 22, 21, 20, 18, 17, 16, 15, 12, 10, 8, 7, 6, 5, 3, 2, 1, 0] (.wr 19 [28, 27, 26, 25, 23, 22, 21, 20, 17, 15, 13, 12, 11, 10, 8, 7, 6, 5, 3, 2, 1, 0] (.wr 24 [28, 27, 26, 25, 22, 20, 18, 17, 16, 15, 13, 12, 11, 10, 8, 7, 6, 5, 3, 2, 1, 0] (.wr 29 [27, 25, 23, 22, 21, 20, 18, 17, 16, 15, 13, 12, 11, 10, 8, 7, 6, 5, 3, 2, 1, 0] (.rd 30 (.wr 32 [] .done)))))))) 31 [28, 27, 26, 25, 23, 22, 21, 20, 18, 17, 16, 15, 13, 12, 11, 10, 8, 7, 6, 5, 3, 2, 1, 0] (.wr 4 [28, 27, 26, 25, 23, 22, 21, 20, 18, 17, 16, 15, 13, 12, 11, 10, 8, 7, 6, 5, 2, 0] (.wr 9 [28, 27, 26, 25, 23, 22, 21, 20, 18, 17, 16, 15, 13, 12, 11, 10, 7, 5, 3, 2, 1, 0] (.wr 14 [28, 27, 26, 25, 23, 22, 21, 20, 18, 17, 16, 15, 12, 10, 8, 7, 6, 5, 3, 2, 1, 0] (.wr 19 [28, 27, 26, 25, 23, 22, 21, 20, 17, 15, 13, 12, 11, 10, 8, 7, 6, 5, 3, 2, 1, 0] (.wr 24 [28, 27, 26, 25, 22, 20, 18, 17, 16, 15, 13, 12, 11, 10, 8, 7, 6, 5, 3, 2, 1, 0] (.wr 29 [27, 25, 23, 22, 21, 20, 18, 17, 16, 15, 13, 12, 11, 10, 8, 7, 6, 5, 3, 2, 1, 0] (.rd 30 (.wr 32 [] .done))))))))))))))))))))))))))))))))) mixed (by kernel_rfl) rfl ?_
   refine Dp rfl rfl (p_fieldo fo88_0 rfl rfl) ?_
   refine Dr rfl rfl (rl ag3 rfl rfl rfl) ?_
   refine Dp rfl rfl (p_fieldo fo88_0 rfl rfl) ?_
   refine Dr rfl rfl (rl ag3 rfl rfl rfl) ?_
   refine Dp rfl rfl (p_fieldo fo88_1 rfl rfl) ?_
   refine Dr rfl rfl (rl ag3 rfl rfl rfl) ?_
   refine Dp rfl rfl (p_fieldo fo88_1 rfl rfl) ?_
   refine Dr rfl rfl (rl ag3 rfl rfl rfl) ?_
   refine Dp rfl rfl (p_fieldo fo88_2 rfl rfl) ?_
   refine Dr rfl rfl (rl ag3 rfl rfl rfl) ?_
   refine Dp rfl rfl (p_fieldo fo88_2 rfl rfl) ?_
   refine Dr rfl rfl (rl ag3 rfl rfl rfl) ?_
   refine Dp rfl rfl (p_fieldo fo88_3 rfl rfl) ?_
   refine Dr rfl rfl (rl ag3 rfl rfl rfl) ?_
   refine Dp rfl rfl (p_fieldo fo88_3 rfl rfl) ?_
   refine Dr rfl rfl (rl ag3 rfl rfl rfl) ?_
   refine Dp rfl rfl (p_fieldo fo88_4 rfl rfl) ?_
   refine Dr rfl rfl (rl ag3 rfl rfl rfl) ?_
   refine Dp rfl rfl (p_fieldo fo88_4 rfl rfl) ?_
   refine Dr rfl rfl (rl ag3 rfl rfl rfl) ?_
   refine Dp rfl rfl (p_fieldo fo88_5 rfl rfl) ?_
   refine Dr rfl rfl (rl ag3 rfl rfl rfl) ?_
   refine Dp rfl rfl (p_fieldo fo88_5 rfl rfl) ?_
   refine Dr rfl rfl (rl ag3 rfl rfl rfl) ?_
   refine D_wr2 rfl ?_ ?_
   ·refine (.go (E' := [(28, _), (26, _), (23, _), (21, _), (18, _), (16, _), (13, _), (11, _), (8, _), (6, _)]) rfl (.plain rfl) (w_callP rfl rfl rfl (fun w hg => lspan_c _ _ w)) rfl ?_)
    rintro _ _ ⟨rfl, rfl⟩
    refine ⟨(.cons rfl (.plain rfl) (rl ag3 rfl rfl rfl) (.cons rfl (.plain rfl) (rl ag3 rfl rfl rfl) (.cons rfl (.plain rfl) (rl ag3 rfl rfl rfl) (.cons rfl (.plain rfl) (rl ag3 rfl rfl rfl) (.cons rfl (.plain rfl) (rl ag3 rfl rfl rfl) (.cons rfl (.plain rfl) (rl ag3 rfl rfl rfl) (.cons rfl (.plain rfl) (rl ag3 rfl rfl rfl) (.cons rfl (.plain rfl) (rl ag3 rfl rfl rfl) (.cons rfl (.plain rfl) (rl ag3 rfl rfl rfl) (.cons rfl (.plain rfl) (rl ag3 rfl rfl rfl) .nil)))))))))), ?_⟩
    refine D_wr2 rfl ?_ ?_
    ·refine (.go (E' := [(28, _), (26, _), (23, _), (21, _), (18, _), (16, _), (13, _), (11, _)]) rfl (.plain rfl) (w_callP rfl rfl rfl (fun w hg => lspan_c _ _ w)) rfl ?_)
     rintro _ _ ⟨rfl, rfl⟩
     refine ⟨(.cons rfl (.plain rfl) (rl ag3 rfl rfl rfl) (.cons rfl (.plain rfl) (rl ag3 rfl rfl rfl) (.cons rfl (.plain rfl) (rl ag3 rfl rfl rfl) (.cons rfl (.plain rfl) (rl ag3 rfl rfl rfl) (.cons rfl (.plain rfl) (rl ag3 rfl rfl rfl) (.cons rfl (.plain rfl) (rl ag3 rfl rfl rfl) (.cons rfl (.plain rfl) (rl ag3 rfl rfl rfl) (.cons rfl (.plain rfl) (rl ag3 rfl rfl rfl) .nil)))))))), ?_⟩
     refine D_wr2 rfl ?_ ?_
     ·refine (.go (E' := [(28, _), (26, _), (23, _), (21, _), (18, _), (16, _)]) rfl (.plain rfl) (w_callP rfl rfl rfl (fun w hg => lspan_c _ _ w)) rfl ?_)
      rintro _ _ ⟨rfl, rfl⟩
      refine ⟨(.cons rfl (.plain rfl) (rl ag3 rfl rfl rfl) (.cons rfl (.plain rfl) (rl ag3 rfl rfl rfl) (.cons rfl (.plain rfl) (rl ag3 rfl rfl rfl) (.cons rfl (.plain rfl) (rl ag3 rfl rfl rfl) (.cons rfl (.plain rfl) (rl ag3 rfl rfl rfl) (.cons rfl (.plain rfl) (rl ag3 rfl rfl rfl) .nil)))))), ?_⟩
      refine D_wr2 rfl ?_ ?_
      ·refine (.go (E' := [(28, _), (26, _), (23, _), (21, _)]) rfl (.plain rfl) (w_callP rfl rfl rfl (fun w hg => lspan_c _ _ w)) rfl ?_)
       rintro _ _ ⟨rfl, rfl⟩
       refine ⟨(.cons rfl (.plain rfl) (rl ag3 rfl rfl rfl) (.cons rfl (.plain rfl) (rl ag3 rfl rfl rfl) (.cons rfl (.plain rfl) (rl ag3 rfl rfl rfl) (.cons rfl (.plain rfl) (rl ag3 rfl rfl rfl) .nil)))), ?_⟩
       refine D_wr2 rfl ?_ ?_
       ·refine (.go (E' := [(28, _), (26, _)]) rfl (.plain rfl) (w_callP rfl rfl rfl (fun w hg => lspan_c _ _ w)) rfl ?_)
        rintro _ _ ⟨rfl, rfl⟩
        refine ⟨(.cons rfl (.plain rfl) (rl ag3 rfl rfl rfl) (.cons rfl (.plain rfl) (rl ag3 rfl rfl rfl) .nil)), ?_⟩
        refine D_wr2 rfl ?_ ?_
        ·refine (.go (E' := []) rfl (.plain rfl) (w_callP rfl rfl rfl (fun w hg => lspan_c _ _ w)) rfl ?_)
         rintro _ _ ⟨rfl, rfl⟩
         refine ⟨.nil, ?_⟩
         refine Dp rfl rfl (p_build (r := [_, _, _, _, _, _, _, _, _, _, _, _]) pl54 zr54 rfl rfl rfl) ?_
         refine D_wr (.go (E' := []) rfl (.plain rfl) (w_alloc zr54 rfl) rfl ?_)
         rintro _ _ ⟨b9, hb9, rfl, rfl⟩
         refine ⟨.nil, ?_⟩
         refine D_wr (.go (E' := []) rfl (.plain rfl) (ws (cs' := [_, _, _, _, _, _, _, _, _, _, _, _]) sz54 rfl rfl rfl rfl rfl rfl rfl) rfl ?_)
         rintro _ _ ⟨rfl, rfl⟩
         refine ⟨.nil, ?_⟩
         refine D_then (kp [2, 3, 4, 7, 10, 12, 14, 15, 16, 17] rfl) ?_
         refine ⟨b9, trivial, (.cons rfl (.cons rfl (.cons rfl (.cons rfl (.cons rfl (.cons rfl (.cons rfl (.cons rfl (.cons rfl (.cons rfl (.nil _))))))))))), (by (try dsimp only); repeat (first | exact HSub.refl _ | exact HSub.nil _ | refine HSub.take (by repeat first | exact Take.head | apply Take.tail) ?_ | exact HSub.refl _ | refine HSub.drop ?_ | refine HSub.app ?_)), rfl⟩
        refine (.go (E' := [(28, _), (26, _)]) rfl (.plain rfl) (w_alloc zr54 rfl) rfl ?_)
        rintro _ _ ⟨b9, hb9, rfl, rfl⟩
        refine ⟨(.cons rfl (.plain rfl) (rl ag3 rfl rfl rfl) (.cons rfl (.plain rfl) (rl ag3 rfl rfl rfl) .nil)), ?_⟩
        refine D_wr (.go (E' := []) rfl (.plain rfl) (w_callP rfl rfl rfl (fun w hg => lspan_c _ _ w)) rfl ?_)
        rintro _ _ ⟨rfl, rfl⟩
        refine ⟨.nil, ?_⟩
        refine Dp rfl rfl (p_build (r := [_, _, _, _, _, _, _, _, _, _, _, _]) pl54 zr54 rfl rfl rfl) ?_
        refine D_wr (.go (E' := []) rfl (.plain rfl) (ws (cs' := [_, _, _, _, _, _, _, _, _, _, _, _]) sz54 rfl rfl rfl rfl rfl rfl rfl) rfl ?_)
        rintro _ _ ⟨rfl, rfl⟩
        refine ⟨.nil, ?_⟩
        refine D_then (kp [2, 3, 4, 7, 10, 12, 14, 15, 16, 17] rfl) ?_
        refine ⟨b9, trivial, (.cons rfl (.cons rfl (.cons rfl (.cons rfl (.cons rfl (.cons rfl (.cons rfl (.cons rfl (.cons rfl (.cons rfl (.nil _))))))))))), (by (try dsimp only); repeat (first | exact HSub.refl _ | exact HSub.nil _ | refine HSub.take (by repeat first | exact Take.head | apply Take.tail) ?_ | exact HSub.refl _ | refine HSub.drop ?_ | refine HSub.app ?_)), rfl⟩
       refine (.go (E' := [(28, _), (26, _), (23, _), (21, _)]) rfl (.plain rfl) (w_alloc zr54 rfl) rfl ?_)
       rintro _ _ ⟨b9, hb9, rfl, rfl⟩
       refine ⟨(.cons rfl (.plain rfl) (rl ag3 rfl rfl rfl) (.cons rfl (.plain rfl) (rl ag3 rfl rfl rfl) (.cons rfl (.plain rfl) (rl ag3 rfl rfl rfl) (.cons rfl (.plain rfl) (rl ag3 rfl rfl rfl) .nil)))), ?_⟩
       refine D_wr (.go (E' := [(28, _), (26, _)]) rfl (.plain rfl) (w_callP rfl rfl rfl (fun w hg => lspan_c _ _ w)) rfl ?_)
       rintro _ _ ⟨rfl, rfl⟩
       refine ⟨(.cons rfl (.plain rfl) (rl ag3 rfl rfl rfl) (.cons rfl (.plain rfl) (rl ag3 rfl rfl rfl) .nil)), ?_⟩
       refine D_wr (.go (E' := []) rfl (.plain rfl) (w_callP rfl rfl rfl (fun w hg => lspan_c _ _ w)) rfl ?_)
       rintro _ _ ⟨rfl, rfl⟩
       refine ⟨.nil, ?_⟩
       refine Dp rfl rfl (p_build (r := [_, _, _, _, _, _, _, _, _, _, _, _]) pl54 zr54 rfl rfl rfl) ?_
       refine D_wr (.go (E' := []) rfl (.plain rfl) (ws (cs' := [_, _, _, _, _, _, _, _, _, _, _, _]) sz54 rfl rfl rfl rfl rfl rfl rfl) rfl ?_)
       rintro _ _ ⟨rfl, rfl⟩
       refine ⟨.nil, ?_⟩
       refine D_then (kp [2, 3, 4, 7, 10, 12, 14, 15, 16, 17] rfl) ?_
       refine ⟨b9, trivial, (.cons rfl (.cons rfl (.cons rfl (.cons rfl (.cons rfl (.cons rfl (.cons rfl (.cons rfl (.cons rfl (.cons rfl (.nil _))))))))))), (by (try dsimp only); repeat (first | exact HSub.refl _ | exact HSub.nil _ | refine HSub.take (by repeat first | exact Take.head | apply Take.tail) ?_ | exact HSub.refl _ | refine HSub.drop ?_ | refine HSub.app ?_)), rfl⟩
      refine (.go (E' := [(28, _), (26, _), (23, _), (21, _), (18, _), (16, _)]) rfl (.plain rfl) (w_alloc zr54 rfl) rfl ?_)
      rintro _ _ ⟨b9, hb9, rfl, rfl⟩
      refine ⟨(.cons rfl (.plain rfl) (rl ag3 rfl rfl rfl) (.cons rfl (.plain rfl) (rl ag3 rfl rfl rfl) (.cons rfl (.plain rfl) (rl ag3 rfl rfl rfl) (.cons rfl (.plain rfl) (rl ag3 rfl rfl rfl) (.cons rfl (.plain rfl) (rl ag3 rfl rfl rfl) (.cons rfl (.plain rfl) (rl ag3 rfl rfl rfl) .nil)))))), ?_⟩
      refine D_wr (.go (E' := [(28, _), (26, _), (23, _), (21, _)]) rfl (.plain rfl) (w_callP rfl rfl rfl (fun w hg => lspan_c _ _ w)) rfl ?_)
      rintro _ _ ⟨rfl, rfl⟩
      refine ⟨(.cons rfl (.plain rfl) (rl ag3 rfl rfl rfl) (.cons rfl (.plain rfl) (rl ag3 rfl rfl rfl) (.cons rfl (.plain rfl) (rl ag3 rfl rfl rfl) (.cons rfl (.plain rfl) (rl ag3 rfl rfl rfl) .nil)))), ?_⟩
      refine D_wr (.go (E' := [(28, _), (26, _)]) rfl (.plain rfl) (w_callP rfl rfl rfl (fun w hg => lspan_c _ _ w)) rfl ?_)
      rintro _ _ ⟨rfl, rfl⟩
      refine ⟨(.cons rfl (.plain rfl) (rl ag3 rfl rfl rfl) (.cons rfl (.plain rfl) (rl ag3 rfl rfl rfl) .nil)), ?_⟩
      refine D_wr (.go (E' := []) rfl (.plain rfl) (w_callP rfl rfl rfl (fun w hg => lspan_c _ _ w)) rfl ?_)
      rintro _ _ ⟨rfl, rfl⟩
      refine ⟨.nil, ?_⟩
      refine Dp rfl rfl (p_build (r := [_, _, _, _, _, _, _, _, _, _, _, _]) pl54 zr54 rfl rfl rfl) ?_
      refine D_wr (.go (E' := []) rfl (.plain rfl) (ws (cs' := [_, _, _, _, _, _, _, _, _, _, _, _]) sz54 rfl rfl rfl rfl rfl rfl rfl) rfl ?_)
      rintro _ _ ⟨rfl, rfl⟩
      refine ⟨.nil, ?_⟩
      refine D_then (kp [2, 3, 4, 7, 10, 12, 14, 15, 16, 17] rfl) ?_
      refine ⟨b9, trivial, (.cons rfl (.cons rfl (.cons rfl (.cons rfl (.cons rfl (.cons rfl (.cons rfl (.cons rfl (.cons rfl (.cons rfl (.nil _))))))))))), (by (try dsimp only); repeat (first | exact HSub.refl _ | exact HSub.nil _ | refine HSub.take (by repeat first | exact Take.head | apply Take.tail) ?_ | exact HSub.refl _ | refine HSub.drop ?_ | refine HSub.app ?_)), rfl⟩
     refine (.go (E' := [(28, _), (26, _), (23, _), (21, _), (18, _), (16, _), (13, _), (11, _)]) rfl (.plain rfl) (w_alloc zr54 rfl) rfl ?_)
     rintro _ _ ⟨b9, hb9, rfl, rfl⟩
     refine ⟨(.cons rfl (.plain rfl) (rl ag3 rfl rfl rfl) (.cons rfl (.plain rfl) (rl ag3 rfl rfl rfl) (.cons rfl (.plain rfl) (rl ag3 rfl rfl rfl) (.cons rfl (.plain rfl) (rl ag3 rfl rfl rfl) (.cons rfl (.plain rfl) (rl ag3 rfl rfl rfl) (.cons rfl (.plain rfl) (rl ag3 rfl rfl rfl) (.cons rfl (.plain rfl) (rl ag3 rfl rfl rfl) (.cons rfl (.plain rfl) (rl ag3 rfl rfl rfl) .nil)))))))), ?_⟩
     refine D_wr (.go (E' := [(28, _), (26, _), (23, _), (21, _), (18, _), (16, _)]) rfl (.plain rfl) (w_callP rfl rfl rfl (fun w hg => lspan_c _ _ w)) rfl ?_)
     rintro _ _ ⟨rfl, rfl⟩
     refine ⟨(.cons rfl (.plain rfl) (rl ag3 rfl rfl rfl) (.cons rfl (.plain rfl) (rl ag3 rfl rfl rfl) (.cons rfl (.plain rfl) (rl ag3 rfl rfl rfl) (.cons rfl (.plain rfl) (rl ag3 rfl rfl rfl) (.cons rfl (.plain rfl) (rl ag3 rfl rfl rfl) (.cons rfl (.plain rfl) (rl ag3 rfl rfl rfl) .nil)))))), ?_⟩
     refine D_wr (.go (E' := [(28, _), (26, _), (23, _), (21, _)]) rfl (.plain rfl) (w_callP rfl rfl rfl (fun w hg => lspan_c _ _ w)) rfl ?_)
     rintro _ _ ⟨rfl, rfl⟩
     refine ⟨(.cons rfl (.plain rfl) (rl ag3 rfl rfl rfl) (.cons rfl (.plain rfl) (rl ag3 rfl rfl rfl) (.cons rfl (.plain rfl) (rl ag3 rfl rfl rfl) (.cons rfl (.plain rfl) (rl ag3 rfl rfl rfl) .nil)))), ?_⟩
     refine D_wr (.go (E' := [(28, _), (26, _)]) rfl (.plain rfl) (w_callP rfl rfl rfl (fun w hg => lspan_c _ _ w)) rfl ?_)
     rintro _ _ ⟨rfl, rfl⟩
     refine ⟨(.cons rfl (.plain rfl) (rl ag3 rfl rfl rfl) (.cons rfl (.plain rfl) (rl ag3 rfl rfl rfl) .nil)), ?_⟩
     refine D_wr (.go (E' := []) rfl (.plain rfl) (w_callP rfl rfl rfl (fun w hg => lspan_c _ _ w)) rfl ?_)
     rintro _ _ ⟨rfl, rfl⟩
     refine ⟨.nil, ?_⟩
     refine Dp rfl rfl (p_build (r := [_, _, _, _, _, _, _, _, _, _, _, _]) pl54 zr54 rfl rfl rfl) ?_
     refine D_wr (.go (E' := []) rfl (.plain rfl) (ws (cs' := [_, _, _, _, _, _, _, _, _, _, _, _]) sz54 rfl rfl rfl rfl rfl rfl rfl) rfl ?_)
     rintro _ _ ⟨rfl, rfl⟩
     refine ⟨.nil, ?_⟩
     refine D_then (kp [2, 3, 4, 7, 10, 12, 14, 15, 16, 17] rfl) ?_
     refine ⟨b9, trivial, (.cons rfl (.cons rfl (.cons rfl (.cons rfl (.cons rfl (.cons rfl (.cons rfl (.cons rfl (.cons rfl (.cons rfl (.nil _))))))))))), (by (try dsimp only); repeat (first | exact HSub.refl _ | exact HSub.nil _ | refine HSub.take (by repeat first | exact Take.head | apply Take.tail) ?_ | exact HSub.refl _ | refine HSub.drop ?_ | refine HSub.app ?_)), rfl⟩
    refine (.go (E' := [(28, _), (26, _), (23, _), (21, _), (18, _), (16, _), (13, _), (11, _), (8, _), (6, _)]) rfl (.plain rfl) (w_alloc zr54 rfl) rfl ?_)
    rintro _ _ ⟨b9, hb9, rfl, rfl⟩
    refine ⟨(.cons rfl (.plain rfl) (rl ag3 rfl rfl rfl) (.cons rfl (.plain rfl) (rl ag3 rfl rfl rfl) (.cons rfl (.plain rfl) (rl ag3 rfl rfl rfl) (.cons rfl (.plain rfl) (rl ag3 rfl rfl rfl) (.cons rfl (.plain rfl) (rl ag3 rfl rfl rfl) (.cons rfl (.plain rfl) (rl ag3 rfl rfl rfl) (.cons rfl (.plain rfl) (rl ag3 rfl rfl rfl) (.cons rfl (.plain rfl) (rl ag3 rfl rfl rfl) (.cons rfl (.plain rfl) (rl ag3 rfl rfl rfl) (.cons rfl (.plain rfl) (rl ag3 rfl rfl rfl) .nil)))))))))), ?_⟩
    refine D_wr (.go (E' := [(28, _), (26, _), (23, _), (21, _), (18, _), (16, _), (13, _), (11, _)]) rfl (.plain rfl) (w_callP rfl rfl rfl (fun w hg => lspan_c _ _ w)) rfl ?_)
    rintro _ _ ⟨rfl, rfl⟩
    refine ⟨(.cons rfl (.plain rfl) (rl ag3 rfl rfl rfl) (.cons rfl (.plain rfl) (rl ag3 rfl rfl rfl) (.cons rfl (.plain rfl) (rl ag3 rfl rfl rfl) (.cons rfl (.plain rfl) (rl ag3 rfl rfl rfl) (.cons rfl (.plain rfl) (rl ag3 rfl rfl rfl) (.cons rfl (.plain rfl) (rl ag3 rfl rfl rfl) (.cons rfl (.plain rfl) (rl ag3 rfl rfl rfl) (.cons rfl (.plain rfl) (rl ag3 rfl rfl rfl) .nil)))))))), ?_⟩
    refine D_wr (.go (E' := [(28, _), (26, _), (23, _), (21, _), (18, _), (16, _)]) rfl (.plain rfl) (w_callP rfl rfl rfl (fun w hg => lspan_c _ _ w)) rfl ?_)
    rintro _ _ ⟨rfl, rfl⟩
    refine ⟨(.cons rfl (.plain rfl) (rl ag3 rfl rfl rfl) (.cons rfl (.plain rfl) (rl ag3 rfl rfl rfl) (.cons rfl (.plain rfl) (rl ag3 rfl rfl rfl) (.cons rfl (.plain rfl) (rl ag3 rfl rfl rfl) (.cons rfl (.plain rfl) (rl ag3 rfl rfl rfl) (.cons rfl (.plain rfl) (rl ag3 rfl rfl rfl) .nil)))))), ?_⟩
    refine D_wr (.go (E' := [(28, _), (26, _), (23, _), (21, _)]) rfl (.plain rfl) (w_callP rfl rfl rfl (fun w hg => lspan_c _ _ w)) rfl ?_)
    rintro _ _ ⟨rfl, rfl⟩
    refine ⟨(.cons rfl (.plain rfl) (rl ag3 rfl rfl rfl) (.cons rfl (.plain rfl) (rl ag3 rfl rfl rfl) (.cons rfl (.plain rfl) (rl ag3 rfl rfl rfl) (.cons rfl (.plain rfl) (rl ag3 rfl rfl rfl) .nil)))), ?_⟩
    refine D_wr (.go (E' := [(28, _), (26, _)]) rfl (.plain rfl) (w_callP rfl rfl rfl (fun w hg => lspan_c _ _ w)) rfl ?_)
    rintro _ _ ⟨rfl, rfl⟩
    refine ⟨(.cons rfl (.plain rfl) (rl ag3 rfl rfl rfl) (.cons rfl (.plain rfl) (rl ag3 rfl rfl rfl) .nil)), ?_⟩
    refine D_wr (.go (E' := []) rfl (.plain rfl) (w_callP rfl rfl rfl (fun w hg => lspan_c _ _ w)) rfl ?_)
    rintro _ _ ⟨rfl, rfl⟩
    refine ⟨.nil, ?_⟩
    refine Dp rfl rfl (p_build (r := [_, _, _, _, _, _, _, _, _, _, _, _]) pl54 zr54 rfl rfl rfl) ?_
    refine D_wr (.go (E' := []) rfl (.plain rfl) (ws (cs' := [_, _, _, _, _, _, _, _, _, _, _, _]) sz54 rfl rfl rfl rfl rfl rfl rfl) rfl ?_)
    rintro _ _ ⟨rfl, rfl⟩
    refine ⟨.nil, ?_⟩
    refine D_then (kp [2, 3, 4, 7, 10, 12, 14, 15, 16, 17] rfl) ?_
    refine ⟨b9, trivial, (.cons rfl (.cons rfl (.cons rfl (.cons rfl (.cons rfl (.cons rfl (.cons rfl (.cons rfl (.cons rfl (.cons rfl (.nil _))))))))))), (by (try dsimp only); repeat (first | exact HSub.refl _ | exact HSub.nil _ | refine HSub.take (by repeat first | exact Take.head | apply Take.tail) ?_ | exact HSub.refl _ | refine HSub.drop ?_ | refine HSub.app ?_)), rfl⟩
   refine (.go (E' := [(28, _), (26, _), (23, _), (21, _), (18, _), (16, _), (13, _), (11, _), (8, _), (6, _), (3, _), (1, _)]) rfl (.plain rfl) (w_alloc zr54 rfl) rfl ?_)
   rintro _ _ ⟨b9, hb9, rfl, rfl⟩
   refine ⟨(.cons rfl (.plain rfl) (rl ag3 rfl rfl rfl) (.cons rfl (.plain rfl) (rl ag3 rfl rfl rfl) (.cons rfl (.plain rfl) (rl ag3 rfl rfl rfl) (.cons rfl (.plain rfl) (rl ag3 rfl rfl rfl) (.cons rfl (.plain rfl) (rl ag3 rfl rfl rfl) (.cons rfl (.plain rfl) (rl ag3 rfl rfl rfl) (.cons rfl (.plain rfl) (rl ag3 rfl rfl rfl) (.cons rfl (.plain rfl) (rl ag3 rfl rfl rfl) (.cons rfl (.plain rfl) (rl ag3 rfl rfl rfl) (.cons rfl (.plain rfl) (rl ag3 rfl rfl rfl) (.cons rfl (.plain rfl) (rl ag3 rfl rfl rfl) (.cons rfl (.plain rfl) (rl ag3 rfl rfl rfl) .nil)))))))))))), ?_⟩
   refine D_wr (.go (E' := [(28, _), (26, _), (23, _), (21, _), (18, _), (16, _), (13, _), (11, _), (8, _), (6, _)]) rfl (.plain rfl) (w_callP rfl rfl rfl (fun w hg => lspan_c _ _ w)) rfl ?_)
   rintro _ _ ⟨rfl, rfl⟩
   refine ⟨(.cons rfl (.plain rfl) (rl ag3 rfl rfl rfl) (.cons rfl (.plain rfl) (rl ag3 rfl rfl rfl) (.cons rfl (.plain rfl) (rl ag3 rfl rfl rfl) (.cons rfl (.plain rfl) (rl ag3 rfl rfl rfl) (.cons rfl (.plain rfl) (rl ag3 rfl rfl rfl) (.cons rfl (.plain rfl) (rl ag3 rfl rfl rfl) (.cons rfl (.plain rfl) (rl ag3 rfl rfl rfl) (.cons rfl (.plain rfl) (rl ag3 rfl rfl rfl) (.cons rfl (.plain rfl) (rl ag3 rfl rfl rfl) (.cons rfl (.plain rfl) (rl ag3 rfl rfl rfl) .nil)))))))))), ?_⟩
   refine D_wr (.go (E' := [(28, _), (26, _), (23, _), (21, _), (18, _), (16, _), (13, _), (11, _)]) rfl (.plain rfl) (w_callP rfl rfl rfl (fun w hg => lspan_c _ _ w)) rfl ?_)
   rintro _ _ ⟨rfl, rfl⟩
   refine ⟨(.cons rfl (.plain rfl) (rl ag3 rfl rfl rfl) (.cons rfl (.plain rfl) (rl ag3 rfl rfl rfl) (.cons rfl (.plain rfl) (rl ag3 rfl rfl rfl) (.cons rfl (.plain rfl) (rl ag3 rfl rfl rfl) (.cons rfl (.plain rfl) (rl ag3 rfl rfl rfl) (.cons rfl (.plain rfl) (rl ag3 rfl rfl rfl) (.cons rfl (.plain rfl) (rl ag3 rfl rfl rfl) (.cons rfl (.plain rfl) (rl ag3 rfl rfl rfl) .nil)))))))), ?_⟩
   refine D_wr (.go (E' := [(28, _), (26, _), (23, _), (21, _), (18, _), (16, _)]) rfl (.plain rfl) (w_callP rfl rfl rfl (fun w hg => lspan_c _ _ w)) rfl ?_)
   rintro _ _ ⟨rfl, rfl⟩
   refine ⟨(.cons rfl (.plain rfl) (rl ag3 rfl rfl rfl) (.cons rfl (.plain rfl) (rl ag3 rfl rfl rfl) (.cons rfl (.plain rfl) (rl ag3 rfl rfl rfl) (.cons rfl (.plain rfl) (rl ag3 rfl rfl rfl) (.cons rfl (.plain rfl) (rl ag3 rfl rfl rfl) (.cons rfl (.plain rfl) (rl ag3 rfl rfl rfl) .nil)))))), ?_⟩
   refine D_wr (.go (E' := [(28, _), (26, _), (23, _), (21, _)]) rfl (.plain rfl) (w_callP rfl rfl rfl (fun w hg => lspan_c _ _ w)) rfl ?_)
   rintro _ _ ⟨rfl, rfl⟩
   refine ⟨(.cons rfl (.plain rfl) (rl ag3 rfl rfl rfl) (.cons rfl (.plain rfl) (rl ag3 rfl rfl rfl) (.cons rfl (.plain rfl) (rl ag3 rfl rfl rfl) (.cons rfl (.plain rfl) (rl ag3 rfl rfl rfl) .nil)))), ?_⟩
   refine D_wr (.go (E' := [(28, _), (26, _)]) rfl (.plain rfl) (w_callP rfl rfl rfl (fun w hg => lspan_c _ _ w)) rfl ?_)
   rintro _ _ ⟨rfl, rfl⟩
   refine ⟨(.cons rfl (.plain rfl) (rl ag3 rfl rfl rfl) (.cons rfl (.plain rfl) (rl ag3 rfl rfl rfl) .nil)), ?_⟩
   refine D_wr (.go (E' := []) rfl (.plain rfl) (w_callP rfl rfl rfl (fun w hg => lspan_c _ _ w)) rfl ?_)
   rintro _ _ ⟨rfl, rfl⟩
   refine ⟨.nil, ?_⟩
   refine Dp rfl rfl (p_build (r := [_, _, _, _, _, _, _, _, _, _, _, _]) pl54 zr54 rfl rfl rfl) ?_
   refine D_wr (.go (E' := []) rfl (.plain rfl) (ws (cs' := [_, _, _, _, _, _, _, _, _, _, _, _]) sz54 rfl rfl rfl rfl rfl rfl rfl) rfl ?_)
   rintro _ _ ⟨rfl, rfl⟩
   refine ⟨.nil, ?_⟩
   refine D_then (kp [2, 3, 4, 7, 10, 12, 14, 15, 16, 17] rfl) ?_
   refine ⟨b9, trivial, (.cons rfl (.cons rfl (.cons rfl (.cons rfl (.cons rfl (.cons rfl (.cons rfl (.cons rfl (.cons rfl (.cons rfl (.nil _))))))))))), (by (try dsimp only); repeat (first | exact HSub.refl _ | exact HSub.nil _ | refine HSub.take (by repeat first | exact Take.head | apply Take.tail) ?_ | exact HSub.refl _ | refine HSub.drop ?_ | refine HSub.app ?_)), rfl⟩
  rintro x17 _
  refine Vs rfl ?_
  refine Lr rfl (rlA (vs := [_, _, _, _, _, _]) ag28 sz28 rfl rfl rfl) ?_
  refine Lp rfl (p_fieldo fo39_0 rfl rfl) ?_
  refine Lr rfl (rlA (vs := [_, _, _]) ag30 sz30 rfl rfl rfl) ?_
  refine Lp rfl (p_fieldo fo39_1 rfl rfl) ?_
  refine Lr rfl (rl ag37 rfl rfl rfl) ?_
  refine Lr rfl (rlA (vs := [_, _, _, _, _, _, _, _, _, _, _, _]) ag54 sz54 rfl rfl rfl) ?_
  refine Lc rfl rfl rfl rfl (fun w hg => lforceP_c v d l (v.pieces.getD m.toNat pcZ) _ _ _ _ x5 _ _ (partQ v d l (v.pieces.getD m.toNat pcZ) sh j) hA hx hN w (hg.own (x5, _) (by repeat first | exact mH | apply mT | apply List.mem_append_right)) (hv.good hg) (hL.good hg)) ?_
  refine Lm rfl rfl rfl ?_
  iterate 2 refine Lp rfl (p_ext rfl rfl rfl) ?_
  refine Lw rfl (w_alloc zr90 rfl) ?_
  rintro _ _ ⟨b9, hb9, rfl, rfl⟩
  refine Ls (cs' := [_, _, _, _, _, _]) rfl sz90 rfl rfl rfl rfl rfl rfl rfl ?_
  refine La rfl rfl rfl ?_
  refine L_then (kp [2, 3, 4, 7, 10, 12, 14, 15, 16, 18, 19] rfl) ?_
  refine V_seq ?_
  refine Vs rfl ?_
  refine Lm rfl rfl rfl ?_
  refine Lp rfl (p_neq rfl rfl rfl) ?_
  refine L_then (kp [2, 3, 4, 7, 10, 12, 14, 15, 16, 18, 202] rfl) ?_
  refine V_cond_f rfl rfl ?_
  refine V_skip (then_n ?_)
  refine V_seq (V_draw (.rd 0 (.rd 1 (.rd 2 (.rd 3 (.rd 4 (.rd 5 (.rd 6 (.rd 9 (.rd 10 (.rd 11 (.rd 12 (.rd 13 (.rd 14 (.rd 15 (.rd 16 (.rd 19 (.rd 20 (.rd 21 (.rd 22 (.rd 23 (.rd 24 (.rd 25 (.rd 26 (.wr 7 [26, 25, 24, 23, 22, 21, 20, 19, 16, 15, 14, 13, 12, 11, 10, 9, 5, 2, 1, 0] (.rd 8 (.rd 29 (.wr 17 [29, 26, 25, 24, 23, 22, 21, 20, 19, 15, 14, 11, 10, 9, 8, 6, 5, 4, 3, 2, 1, 0] (.rd 18 (.wr 27 [29, 25, 24, 21, 20, 19, 18, 16, 15, 14, 13, 12, 11, 10, 9, 8, 6, 5, 4, 3, 2, 1, 0] (.rd 28 (.wr 30 [28, 26, 25, 24, 23, 22, 21, 18, 16, 15, 14, 13, 12, 11] (.rd 31 (.wr 32 [28, 26, 25, 24, 23, 22, 21] (.rd 33 (.wr 34 [] .done))))))))))))))))))))))))))))))))))) mixed (by kernel_rfl) rfl ?_)
  refine Dp rfl rfl (p_fieldo fo88_3 rfl rfl) ?_
  refine Dr rfl rfl (rl ag3 rfl rfl rfl) ?_
  refine Dp rfl rfl (p_fieldo fo90_0 rfl rfl) ?_
  refine Dr rfl rfl (rlA (vs := [_, _]) ag23 sz23 rfl rfl rfl) ?_
  iterate 2 refine Dm rfl rfl rfl rfl ?_
  first | refine Dp rfl rfl (p_mul' rfl rfl rfl (by unfold InI; omega)) ?_ | refine Dp rfl rfl (p_mul rfl rfl rfl) ?_
  refine Dp rfl rfl (p_fieldo fo88_4 rfl rfl) ?_
  refine Dr rfl rfl (rl ag3 rfl rfl rfl) ?_
  refine Dp rfl rfl (p_fieldo fo90_1 rfl rfl) ?_
  refine Dr rfl rfl (rlA (vs := [_, _]) ag23 sz23 rfl rfl rfl) ?_
  iterate 2 refine Dm rfl rfl rfl rfl ?_
  first | refine Dp rfl rfl (p_mul' rfl rfl rfl (by unfold InI; omega)) ?_ | refine Dp rfl rfl (p_mul rfl rfl rfl) ?_
  first | refine Dp rfl rfl (p_add' rfl rfl rfl (by unfold InI; omega)) ?_ | refine Dp rfl rfl (p_add rfl rfl rfl) ?_
  refine Dp rfl rfl (p_fieldo fo88_5 rfl rfl) ?_
  refine Dr rfl rfl (rl ag3 rfl rfl rfl) ?_
  refine Dp rfl rfl (p_fieldo fo90_2 rfl rfl) ?_
  refine Dr rfl rfl (rlA (vs := [_, _]) ag23 sz23 rfl rfl rfl) ?_
  iterate 2 refine Dm rfl rfl rfl rfl ?_
  first | refine Dp rfl rfl (p_mul' rfl rfl rfl (by unfold InI; omega)) ?_ | refine Dp rfl rfl (p_mul rfl rfl rfl) ?_
  first | refine Dp rfl rfl (p_add' rfl rfl rfl (by unfold InI; omega)) ?_ | refine Dp rfl rfl (p_add rfl rfl rfl) ?_
  refine D_wr (.go (E' := [(22, _), (20, _), (12, _), (10, _), (1, _)]) rfl (.plain rfl) (w_callP rfl rfl rfl (fun w hg => lpick_c (forceT v d l (pcPh (v.pieces.getD m.toNat pcZ)) (Fl.ptS (partQ v d l (v.pieces.getD m.toNat pcZ) sh j))).x (spb4 hF.1 (by decide)) sh _ h8 hll _ (by omega) w (hS.good hg))) rfl ?_)
  rintro _ _ ⟨rfl, rfl⟩
  refine ⟨(.cons rfl (.plain rfl) (rlA (vs := [_, _]) ag23 sz23 rfl rfl rfl) (.cons rfl (.plain rfl) (rl ag3 rfl rfl rfl) (.cons rfl (.plain rfl) (rlA (vs := [_, _]) ag23 sz23 rfl rfl rfl) (.cons rfl (.plain rfl) (rl ag3 rfl rfl rfl) (.cons rfl (.plain rfl) (rl ag3 rfl rfl rfl) .nil))))), ?_⟩
  refine Dp rfl rfl (p_add' rfl rfl rfl (a4.1)) ?_
  refine Dp rfl rfl (p_fieldo fo88_3 rfl rfl) ?_
  refine D_wr (.go (E' := [(22, _), (20, _), (10, _), (1, _)]) rfl (.plain rfl) (w_callP rfl rfl rfl (fun w hg => lpick_c (forceT v d l (pcPh (v.pieces.getD m.toNat pcZ)) (Fl.ptS (partQ v d l (v.pieces.getD m.toNat pcZ) sh j))).y (spb4 hF.2.1 (by decide)) sh _ h8 hll _ (by omega) w (hS.good hg))) rfl ?_)
  rintro _ _ ⟨rfl, rfl⟩
  refine ⟨(.cons rfl (.plain rfl) (rlA (vs := [_, _]) ag23 sz23 rfl rfl rfl) (.cons rfl (.plain rfl) (rl ag3 rfl rfl rfl) (.cons rfl (.plain rfl) (rl ag3 rfl rfl rfl) (.cons rfl (.plain rfl) (rl ag3 rfl rfl rfl) .nil)))), ?_⟩
  refine Dp rfl rfl (p_add' rfl rfl rfl (a4.2.1)) ?_
  refine D_wr (.go (E' := [(20, _), (10, _), (1, _)]) rfl (.plain rfl) (w_callP rfl rfl rfl (fun w hg => lpick_c (forceT v d l (pcPh (v.pieces.getD m.toNat pcZ)) (Fl.ptS (partQ v d l (v.pieces.getD m.toNat pcZ) sh j))).z (spb4 hF.2.2 (by decide)) sh _ h8 hll _ (by omega) w (hS.good hg))) rfl ?_)
  rintro _ _ ⟨rfl, rfl⟩
  refine ⟨(.cons rfl (.plain rfl) (rl ag3 rfl rfl rfl) (.cons rfl (.plain rfl) (rl ag3 rfl rfl rfl) (.cons rfl (.plain rfl) (rl ag3 rfl rfl rfl) .nil))), ?_⟩
  refine Dp rfl rfl (p_add' rfl rfl rfl (a4.2.2)) ?_
  refine D_wr (.go (E' := []) rfl (.plain rfl) (ws (cs' := [_, _, _, _, _, _]) sz3 rfl rfl rfl rfl rfl rfl rfl) rfl ?_)
  rintro _ _ ⟨rfl, rfl⟩
  refine ⟨.nil, ?_⟩
  refine Dp rfl rfl (p_fieldo fo88_4 rfl rfl) ?_
  refine D_wr (.go (E' := []) rfl (.plain rfl) (ws (cs' := [_, _, _, _, _, _]) sz3 rfl rfl rfl rfl rfl rfl rfl) rfl ?_)
  rintro _ _ ⟨rfl, rfl⟩
  refine ⟨.nil, ?_⟩
  refine Dp rfl rfl (p_fieldo fo88_5 rfl rfl) ?_
  refine D_wr (.go (E' := []) rfl (.plain rfl) (ws (cs' := [_, _, _, _, _, _]) sz3 rfl rfl rfl rfl rfl rfl rfl) rfl ?_)
  rintro _ _ ⟨rfl, rfl⟩
  refine ⟨.nil, ?_⟩
  refine D_then (kp [2, 3, 4, 7, 10, 12, 14, 15, 16] rfl) ?_
  refine Vs rfl ?_
  refine Lp rfl (p_fieldo fo88_0 rfl rfl) ?_
  refine Lr rfl (rl ag3 rfl rfl rfl) ?_
  refine Lp rfl (p_fieldo fo88_3 rfl rfl) ?_
  refine Lr rfl (rl ag3 rfl rfl rfl) ?_
  refine Lp rfl (p_add' rfl rfl rfl (a5.1)) ?_
  refine Lp rfl (p_fieldo fo88_1 rfl rfl) ?_
  refine Lr rfl (rl ag3 rfl rfl rfl) ?_
  refine Lp rfl (p_fieldo fo88_4 rfl rfl) ?_
  refine Lr rfl (rl ag3 rfl rfl rfl) ?_
  refine Lp rfl (p_add' rfl rfl rfl (a5.2.1)) ?_
  refine Lp rfl (p_fieldo fo88_2 rfl rfl) ?_
  refine Lr rfl (rl ag3 rfl rfl rfl) ?_
  refine Lp rfl (p_fieldo fo88_5 rfl rfl) ?_
  refine Lr rfl (rl ag3 rfl rfl rfl) ?_
  refine Lp rfl (p_add' rfl rfl rfl (a5.2.2)) ?_
  refine Lp rfl (p_fieldo fo88_0 rfl rfl) ?_
  refine Ls (cs' := [_, _, _, _, _, _]) rfl sz3 rfl rfl rfl rfl rfl rfl rfl ?_
  refine Lp rfl (p_fieldo fo88_1 rfl rfl) ?_
  refine Ls (cs' := [_, _, _, _, _, _]) rfl sz3 rfl rfl rfl rfl rfl rfl rfl ?_
  refine Lp rfl (p_fieldo fo88_2 rfl rfl) ?_
  refine Ls (cs' := [_, _, _, _, _, _]) rfl sz3 rfl rfl rfl rfl rfl rfl rfl ?_
  refine L_then (kp [2, 3, 4, 7, 10, 12, 14, 15, 16] rfl) ?_
  refine V_region rfl ?_
  refine Lm rfl rfl rfl ?_
  refine Lr rfl (rlA (vs := [_, _, _, _, _, _]) ag88 sz88 rfl rfl rfl) ?_
  refine Lw rfl (w_slice (r := [_, _, _, _, _, _]) un89 sz88 zr88 rfl (by decide) rfl (by decide) rfl rfl) ?_
  rintro _ _ ⟨b10, hb10, rfl, rfl⟩
  refine Lw rfl (w_app (pre := [_, _, _, _, _, _, _, _, _]) (G := GP) ap89 rfl rfl rfl hgp rfl rfl (news_own (by repeat first | exact mH | apply mT | apply List.mem_append_right)) (by intro u hu; simp only [List.mem_cons, List.not_mem_nil, or_false] at hu; rcases hu with rfl | rfl | rfl | rfl | rfl | rfl <;> rfl) (by omega) (by simp only [maxLen]; omega)) ?_
  rintro _ _ ⟨GP2a, GP2c, GP2, rfl, rfl, hgp2⟩
  try simp only [List.cons_append, List.nil_append, List.append_nil]
  refine La rfl rfl rfl ?_
  refine L_keep (kp [2, 3, 4, 7, 10, 12, 14, 15, 16] rfl) (blk_n (then_n ?_))
  refine V_region rfl ?_
  refine Lm rfl rfl rfl ?_
  first | refine Lp rfl (p_add' rfl rfl rfl (by unfold InI; omega)) ?_ | refine Lp rfl (p_add rfl rfl rfl) ?_
  refine La rfl rfl rfl ?_
  refine L_keep (kp [2, 3, 4, 7, 10, 12, 14, 15, 16] rfl) (then_n ?_)
  refine ⟨(j + 1, _, GP2), ?_, ?_, (.cons rfl (.cons rfl (.cons rfl (.cons rfl (.cons rfl (.cons rfl (.cons rfl (.cons rfl (.cons rfl (.nil _)))))))))), (by repeat (first | exact List.nil_sublist _ | exact List.Sublist.refl _ | apply List.Sublist.cons_cons | apply List.Sublist.cons | apply List.sublist_append_of_sublist_right)), rfl⟩
  ·refine ⟨by dsimp only; omega, ?_⟩
   dsimp only
   rw [pathQ_s]; exact hgp2
  dsimp only; omega
 intro c2; try simp only [td] at c2
 have ej : j = n.toNat := by omega
 have hstray : strayE (pathQ v d l (v.pieces.getD m.toNat pcZ) sh (j + 1)) = 0 := by rw [ej]; exact part_stray hA hx h8 hS0 (by omega) hfar2
 obtain ⟨gbp, curp, rfl, rfl, hcurp, _, _⟩ := Grow.form2 hgp (by omega)
 try simp only [List.cons_append, List.nil_append]
 refine V_exit (then_e (then_e (blk_e rfl (then_n ?_))))
 refine V_seq ?_
 refine Vs rfl ?_
 refine La rfl rfl rfl ?_
 refine L_then (kp [3, 4, 7, 10, 15, 20] rfl) ?_
 refine V_block ?_
 refine V_loop0 (γ := Int) (kp [3, 4, 7, 10, 15] rfl) (fun k => [(20, .int .i64 k)]) (fun k => 0 ≤ k ∧ k ≤ n + 1) (fun k => (n + 1 - k).toNat) (0) (.cons rfl (.nil _)) (⟨by omega, by omega⟩) ?_
 rintro k hi
 obtain ⟨hk0, hk1⟩ := hi
 refine V_seq ?_
 refine Vs rfl ?_
 iterate 2 refine Lm rfl rfl rfl ?_
 refine Lp rfl (p_len isl40 rfl rfl) ?_
 refine Lp rfl (p_lss rfl rfl rfl) ?_
 refine L_then (kp [3, 4, 7, 10, 15, 20, 260] rfl) ?_
 refine V_cond rfl ?_ ?_
 ·intro c3; try simp only [td] at c3
  refine V_skip (then_n ?_)
  refine V_seq ?_
  refine V_block ?_
  refine V_seq (V_draw (.rd 0 (.rd 1 (.rd 2 (.rd 3 (.rd 4 (.rd 5 (.rd 6 (.rd 7 (.wr 8 [6, 5, 4, 2, 1, 0] (.rd 9 .done)))))))))) mixed (by kernel_rfl) rfl ?_)
  iterate 2 refine Dm rfl rfl rfl rfl ?_
  refine Dp rfl rfl (p_idxo es40 rfl rfl rfl (by omega) (by omega)) ?_
  refine Dr rfl rfl (r_loadA (vs := St.cells ((Fl.pcT v d l (v.pieces.getD m.toNat pcZ)) k.toNat)) ag54 sz54 rfl rfl (by repeat first | exact mH | apply mT | apply List.mem_append_right) (row_st (f := (Fl.pcT v d l (v.pieces.getD m.toNat pcZ))) (k := k.toNat) hcur2 rfl (by omega))) ?_
  iterate 2 refine Dm rfl rfl rfl rfl ?_
  refine Dp rfl rfl (p_idxo es89 rfl rfl rfl (by omega) (by omega)) ?_
  refine Dr rfl rfl (r_loadA (vs := Pt.cells (partQ v d l (v.pieces.getD m.toNat pcZ) sh k.toNat)) ag88 sz88 rfl rfl (by repeat first | exact mH | apply mT | apply List.mem_append_right) (row_pt (k := k.toNat) hcurp rfl (by omega))) ?_
  refine D_wr (.go (E' := []) rfl (.plain rfl) (w_callP rfl rfl rfl (fun w hg => linside_c (Fl.pcT v d l (v.pieces.getD m.toNat pcZ) k.toNat) (partQ v d l (v.pieces.getD m.toNat pcZ) sh k.toNat) (part_in hA hx h8 hS0 k.toNat (fun i hi => hfar2 i (by omega))) w)) rfl ?_)
  rintro _ _ ⟨rfl, rfl⟩
  refine ⟨.nil, ?_⟩
  refine Dp rfl rfl (p_not rfl rfl) ?_
  refine D_then (kp [3, 4, 7, 10, 15, 20, 272] rfl) ?_
  refine V_cond_f rfl rfl ?_
  refine V_skip (blk_n (then_n ?_))
  refine V_region rfl ?_
  refine Lm rfl rfl rfl ?_
  first | refine Lp rfl (p_add' rfl rfl rfl (by unfold InI; omega)) ?_ | refine Lp rfl (p_add rfl rfl rfl) ?_
  refine La rfl rfl rfl ?_
  refine L_keep (kp [3, 4, 7, 10, 15, 20] rfl) (then_n ?_)
  refine ⟨k + 1, ?_, ?_, (.cons rfl (.cons rfl (.cons rfl (.cons rfl (.cons rfl (.cons rfl (.nil _))))))), (by repeat (first | exact List.nil_sublist _ | exact List.Sublist.refl _ | apply List.Sublist.cons_cons | apply List.Sublist.cons | apply List.sublist_append_of_sublist_right)), rfl⟩
  ·exact ⟨by omega, by omega⟩
  omega
 intro c3; try simp only [td] at c3
 refine V_exit (then_e (then_e (blk_e rfl (then_n ?_))))
 refine Vs rfl ?_
 refine Lr rfl (rlA (vs := [_, _, _, _, _, _]) ag28 sz28 rfl rfl rfl) ?_
 refine Lp rfl (p_fieldo fo39_0 rfl rfl) ?_
 refine Lr rfl (rlA (vs := [_, _, _]) ag30 sz30 rfl rfl rfl) ?_
 refine Lp rfl (p_fieldo fo39_1 rfl rfl) ?_
 refine Lr rfl (rl ag37 rfl rfl rfl) ?_
 refine Lw rfl (w_callG (pre := [_, _, _, _, _, _]) rfl rfl rfl rfl (fun w hg => fImpacts_c v d l _ _ _ _ w (hv.good hg) (hL.good hg))) ?_
 rintro _ _ ⟨_, G3, rfl, hfr3, rfl, sv3, rfl, hgr3⟩
 obtain ⟨sa3, sc3, rfl⟩ := Grow.form hgr3
 try simp only [List.cons_append, List.nil_append, List.append_nil]
 refine Lm rfl rfl rfl ?_
 iterate 2 refine Lp rfl (p_ext rfl rfl rfl) ?_
 iterate 2 refine La rfl rfl rfl ?_
 refine L_then (kp [4, 7, 9, 15, 21] rfl) ?_
 refine V_seq (V_draw (.rd 0 (.rd 1 (.rd 2 (.rd 3 (.rd 4 (.rd 5 (.rd 6 (.rd 7 (.rd 8 (.rd 9 (.rd 10 (.rd 11 (.rd 12 (.rd 13 (.rd 14 (.rd 15 (.rd 16 (.rd 17 (.rd 18 (.wr 19 [17, 15, 12, 11, 10, 9, 7, 6, 5, 4, 3, 2, 1, 0] (.rd 20 (.rd 21 (.rd 22 (.wr 23 [21, 20, 18, 17, 16, 15, 14, 13, 12, 11, 10, 9, 8, 7, 6, 5, 4, 3, 2, 1, 0] (.rd 24 (.rd 25 .done)))))))))))))))))))))))))) mixed (by kernel_rfl) rfl ?_)
 refine Dm rfl rfl rfl rfl ?_
 refine Dp rfl rfl (p_neq rfl rfl rfl) ?_
 refine Dm rfl rfl rfl rfl ?_
 refine D_cases (d := 284) rfl ?_ ?_
 ·intro g4; have g4' := g4; try simp only [td] at g4'
  iterate 6 refine D_no rfl (.mk' rfl rfl rfl g4) ?_
  iterate 10 refine D_no rfl (.und rfl rfl rfl) ?_
  refine D_wr (.pass (E' := []) rfl (.und rfl rfl rfl) rfl ⟨.nil, ?_⟩)
  refine D_no rfl (.mk' rfl rfl rfl g4) ?_
  refine Dp rfl rfl (p_pick_t rfl rfl g4 rfl) ?_
  refine Dm rfl rfl rfl rfl ?_
  refine D_wr (.go (E' := []) rfl (.yes rfl rfl rfl rfl) (w_callP rfl rfl rfl (fun w hg => lAwake_c w)) rfl ?_)
  rintro _ _ ⟨rfl, rfl⟩
  refine ⟨.nil, ?_⟩
  refine Dp rfl rfl (p_pick_t rfl rfl rfl rfl) ?_
  refine Dp rfl rfl (p_assign rfl rfl) ?_
  refine D_then (kp [6] rfl) ?_
  refine V_ret ?_
  refine Leave.nil (.tmp rfl .nil) ?_
  rfl
 intro g4; have g4' := g4; try simp only [td] at g4'
 have hi0 : impsE v d l = 0 := by omega
 have hilen := impsL_len hi0
 obtain ⟨gb3, cur3, rfl, rfl, hcur3, _, _⟩ := Grow.form2 hgr3 (by omega)
 refine D_p rfl (.yes rfl rfl rfl g4) (p_fieldo fo39_3 rfl rfl) ?_
 refine D_rd rfl (.yes rfl rfl rfl g4) (rl ag3 rfl rfl rfl) ?_
 refine D_p rfl (.yes rfl rfl rfl g4) (p_move rfl rfl) ?_
 refine D_p rfl (.yes rfl rfl rfl g4) (p_len isl56 rfl rfl) ?_
 refine D_p rfl (.yes rfl rfl rfl g4) (p_lss rfl rfl rfl) ?_
 refine D_p rfl (.yes rfl rfl rfl g4) (p_move rfl rfl) ?_
 refine D_p rfl (.yes rfl rfl rfl (decide_eq_true (by omega))) (p_move rfl rfl) ?_
 refine D_p rfl (.yes rfl rfl rfl (decide_eq_true (by omega))) (p_fieldo fo39_3 rfl rfl) ?_
 refine D_rd rfl (.yes rfl rfl rfl (decide_eq_true (by omega))) (rl ag3 rfl rfl rfl) ?_
 refine D_p rfl (.yes rfl rfl rfl (decide_eq_true (by omega))) (p_idxo es56 rfl rfl rfl (by omega) (by omega)) ?_
 refine D_rd rfl (.yes rfl rfl rfl (decide_eq_true (by omega))) (r_loadA (vs := Imp.cells (impT v d l m.toNat).1) ag62 sz62 rfl rfl (by repeat first | exact mH | apply mT | apply List.mem_append_right) (im_row (l := impsL v d l) (k := m.toNat) hcur3 rfl (by omega) (impsL_at hi0 (by omega)))) ?_
 refine D_p rfl (.yes rfl rfl rfl (decide_eq_true (by omega))) (p_move rfl rfl) ?_
 refine D_p rfl (.yes rfl rfl rfl (decide_eq_true (by omega))) (p_fieldo fo49_1 rfl rfl) ?_
 refine D_rd rfl (.yes rfl rfl rfl (decide_eq_true (by omega))) (rl ag3 rfl rfl rfl) ?_
 refine D_p rfl (.yes rfl rfl rfl (decide_eq_true (by omega))) (p_fieldo fo49_5 rfl rfl) ?_
 refine D_rd rfl (.yes rfl rfl rfl (decide_eq_true (by omega))) (rl ag3 rfl rfl rfl) ?_
 refine D_wr (.go (E' := [(11, _), (4, _)]) rfl (.yes rfl rfl rfl (decide_eq_true (by omega))) (w_callP rfl rfl rfl (fun w hg => llands_c (impT v d l m.toNat).1 (pathQ v d l (v.pieces.getD m.toNat pcZ) sh (j + 1)) (v.pieces.getD m.toNat pcZ).at_ (v.pieces.getD m.toNat pcZ).floor _ (fun hdn => part_lands (i := m.toNat) (by omega) h8 hS0 hi0 hdn) hstray (by omega) w (path_R hgp rfl (by omega) (fun p hp => by rw [List.mem_singleton.1 hp]; exact hg.own (gbp, _) (by repeat first | exact mH | apply mT | apply List.mem_append_right))))) rfl ?_)
 rintro _ _ ⟨rfl, rfl⟩
 refine ⟨(.cons rfl (.yes rfl rfl rfl (decide_eq_true (by omega))) (rl ag3 rfl rfl rfl) (.cons rfl (.yes rfl rfl rfl g4) (rl ag3 rfl rfl rfl) .nil)), ?_⟩
 refine D_p rfl (.yes rfl rfl rfl g4) (p_pick_t rfl rfl (decide_eq_true (by omega)) rfl) ?_
 refine Dp rfl rfl (p_pick_f rfl rfl g4 rfl) ?_
 refine Dm rfl rfl rfl rfl ?_
 refine D_wr (.go (E' := [(11, _), (4, _)]) rfl (.yes rfl rfl rfl rfl) (w_callP rfl rfl rfl (fun w hg => lAwake_c w)) rfl ?_)
 rintro _ _ ⟨rfl, rfl⟩
 refine ⟨(.cons rfl (.yes rfl rfl rfl (decide_eq_true (by omega))) (rl ag3 rfl rfl rfl) (.cons rfl (.yes rfl rfl rfl g4) (rl ag3 rfl rfl rfl) .nil)), ?_⟩
 refine Dp rfl rfl (p_pick_t rfl rfl rfl rfl) ?_
 refine Dp rfl rfl (p_assign rfl rfl) ?_
 refine D_then (kp [6] rfl) ?_
 refine V_ret ?_
 refine Leave.nil (.tmp rfl .nil) ?_
 rfl
theorem flightPart_c (v : Veh) (d : Dir) (l : List Fl.Band) (av pv qv bv : Value) (n m : Int) (w : World) (hv : VehR w (VehV v av pv qv) v) (hl : BdsR w bv l) (sh : List Int) (sv : Value) (h8 : ∀ n ∈ sh, 0 ≤ n ∧ n ≤ 255) (hll : (sh.length : Int) ≤ 9223372036854775807) (hS : SliceR w 1 sv (sh.map fun n => [Value.int .u8 n])) : FnP Try.prog 10 [VehV v av pv qv, .agg #[.int .i64 d.x, .int .i64 d.y, .int .i64 d.z, bv, .int .i64 n, .int .i64 m], sv] w (.bool true) := by
 by_cases hnm : (0 ≤ n ∧ n ≤ 300) ∧ 0 ≤ m ∧ m < v.pieces.length
 ·by_cases hf : flyE v d l (v.pieces.getD m.toNat pcZ).at_ = 0
  ·by_cases hp : pieceE v d l m n = 0
   ·exact flightPartO v d l av pv qv bv n m w hv hl sh sv h8 hll hS hnm hf hp
   exact flightPartC v d l av pv qv bv n m w hv hl sh sv h8 hll hS hnm hf hp
  exact flightPartB v d l av pv qv bv n m w hv hl sh sv h8 hll hS hnm hf
 exact flightPartA v d l av pv qv bv n m w hv hl sh sv h8 hll hS hnm

theorem own_ : ownKnob Try.prog.godebug = none := by kernel_rfl

theorem flightPart_lifted (os : Os) (started : os.Started) (H : Type) (enc : TypeId × Value → H) :
  ReturnsInHanded {} Try.checked os 10 .any (Rows.flightPartSpec.pre6 enc Try.prog Try.f10 Rows.flightPartRow.domain false) (Rows.flightPartSpec.post enc Try.prog Try.f10 false true false false) := by
 refine returnsInHanded_of_change (C := Try.checked) own_ started (by kernel_rfl) Try.func10
  (ChangeSpec.witness6 (enc := enc) (C := Try.checked) false ⟨#[], #[.agg #[.string ByteArray.empty, .int .i64 0, .int .i64 0, .slice none 0 0, .slice none 0 0, .slice none 0 0], .agg #[.int .i64 0, .int .i64 0, .int .i64 0, .slice none 0 0, .int .i64 0, .int .i64 0], .slice none 0 0], []⟩ 8 (by kernel_rfl) (by kernel_rfl) (by kernel_rfl) (by kernel_rfl)) ?_
 intro W base args ds gs before hval0 hW hcnd _
 have hval : ∀ (j : Nat) t v, Try.f10.params[j]? = some t → args[j]? = some v → Value.okWide Try.prog W .any base t v := hval0
 have hW' := hW
 obtain ⟨pA, pB, hA0, hV, rfl, _, _⟩ := hW
 have hA : DataW.TrodAll enc Try.prog W 0 (fun _ => true) true Try.f10.params.toList args.toList ds pA := hA0
 clear hA0 hval0
 rw [Try.params10] at hA hval
 obtain ⟨rfl, rfl⟩ := trodVars_none hV
 obtain ⟨v0, vs0, d0, ds0, p0, q0, ea0, rfl, rfl, h0, hA0⟩ := trodAll_cons hA
 obtain ⟨v1, vs1, d1, ds1, p1, q1, ea1, rfl, rfl, h1, hA1⟩ := trodAll_cons hA0
 obtain ⟨v2, vs2, d2, ds2, p2, q2, ea2, rfl, rfl, h2, hA2⟩ := trodAll_cons hA1
 obtain ⟨rfl, rfl, rfl⟩ := trodAll_nil hA2
 subst ea2
 subst ea1
 have ea : args = #[v0, v1, v2] := Array.toList_inj.1 ea0
 subst ea
 have k0 := hval 0 _ v0 rfl rfl
 have k1 := hval 1 _ v1 rfl rfl
 have k2 := hval 2 _ v2 rfl rfl
 obtain ⟨v, hv⟩ := open_veh (P := Try.prog) (by kernel_rfl) k0 h0
 obtain ⟨av, pv, qv, rfl, _⟩ := hv.ex
 obtain ⟨x0, x1, x2, l, lv, n, m, rfl, _, hl⟩ := open_shot (P := Try.prog) (by kernel_rfl) k1 h1
 obtain ⟨sh, hS, h8, hll⟩ := De.open_u8s (P := Try.prog) (by kernel_rfl) k2 h2
 refine (calls_of (flightPart_c v ⟨x0, x1, x2⟩ l av pv qv _ n m W hv hl sh _ h8 hll hS)).mono ?_
 rintro _ W' ⟨_, rfl, rfl, hE⟩
 exact ⟨_, rfl, post_true hW' rfl hE (by kernel_rfl) (by kernel_rfl) rfl rfl rfl (by kernel_rfl) Try.underlying4⟩

theorem flightPart_holds : Rows.FlightPartSaid :=
 OpenClaim.holds_of_wide 10 Try.f10 rfl rfl rfl rfl rfl rfl rfl ⟨rfl, rfl, rfl, rfl, rfl⟩ rfl rfl rfl rfl rfl (by kernel_rfl) Try.func10 (by kernel_rfl)
  (of_decide_eq_true (by kernel_rfl)) (by unfold Func.isWrapper; first | (rw [if_pos (by decide +kernel)]; kernel_rfl) | (rw [if_neg (by decide +kernel)]; exact ⟨rfl, rfl⟩))
  (fun os started H enc _ => flightPart_lifted os started H enc)
#print axioms flightPart_holds

end Go.Proofs.Ytbncegfgjbdheaa
