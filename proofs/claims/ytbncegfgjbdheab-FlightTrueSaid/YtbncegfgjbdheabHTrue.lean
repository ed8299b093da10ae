/- Ytbncegfgjbdheab: FlightTrue is proved: for any vehicle, shot and path (no condition) it returns true. -/
import Derived.Test.YtbncegfgjbdheabRows
import Derived.Test.YtbncegfgjbdheabZao
import Derived.Test.YtbncegfgjbdheabZaf
import Derived.Test.YtbncegfgjbdheabZam
import Derived.Test.YtbncegfgjbdheabZal
import Derived.Test.YtbncegfgjbdheabZan
import Derived.ProofKit
set_option linter.all false
namespace Go.Proofs.Ytbncegfgjbdheab
open Go.Vc Go.Tk Go.Fl Go.ChangeShapes Go.WideShapes Go.ChangeAt Go.RowKit
set_option maxRecDepth 100000
theorem lhas_c (s : Span) (n : Int) (h : Fl.hasS s n = true) (w : World) : FnP Try.prog 32 [.agg #[.int .i64 s.lo, .int .i64 s.hi], .int .i64 n] w (.bool true) := by
 refine fn_pure Try.func32 rfl (by kernel_rfl) Try.ntmps32 Try.results32 rfl ?_
 refine Vs rfl ?_
 refine Lw rfl (w_box rfl rfl) ?_
 rintro _ _ ⟨b1, hb1, rfl, rfl⟩
 refine La rfl rfl rfl ?_
 refine L_then (kp [1, 2] rfl) ?_
 refine Vs rfl ?_
 refine Lp rfl (p_fieldo fo23_0 rfl rfl) ?_
 refine Lr rfl (rl ag3 rfl rfl rfl) ?_
 refine Lm rfl rfl rfl ?_
 refine Lp rfl (p_leq rfl rfl rfl) ?_
 refine Lm rfl rfl rfl ?_
 refine L_yes rfl rfl rfl (decide_eq_true (hasS_iff.1 h).1) (X_p (p_move rfl rfl) ?_)
 refine L_yes rfl rfl rfl (decide_eq_true (hasS_iff.1 h).1) (X_p (p_fieldo fo23_1 rfl rfl) ?_)
 refine L_yes rfl rfl rfl (decide_eq_true (hasS_iff.1 h).1) (X_rd (rl ag3 rfl rfl rfl) ?_)
 refine L_yes rfl rfl rfl (decide_eq_true (hasS_iff.1 h).1) (X_p (p_leq rfl rfl rfl) ?_)
 refine Lp rfl (p_pick_t rfl rfl (decide_eq_true (hasS_iff.1 h).1) rfl) ?_
 refine La rfl rfl rfl ?_
 refine L_then (kp [4] rfl) ?_
 refine V_ret ?_
 refine Leave.nil (.tmp rfl .nil) ?_
 show Value.bool (decide _) = _
 rw [decide_eq_true (hasS_iff.1 h).2]
theorem linside_c (s : St) (p : Fl.Pt) (h : InT (Fl.ptS p) s) (w : World) : FnP Try.prog 8 [.agg #[.int .i64 s.p.x.lo, .int .i64 s.p.x.hi, .int .i64 s.p.y.lo, .int .i64 s.p.y.hi, .int .i64 s.p.z.lo, .int .i64 s.p.z.hi, .int .i64 s.v.x.lo, .int .i64 s.v.x.hi, .int .i64 s.v.y.lo, .int .i64 s.v.y.hi, .int .i64 s.v.z.lo, .int .i64 s.v.z.hi], .agg #[.int .i64 p.x, .int .i64 p.y, .int .i64 p.z, .int .i64 p.vx, .int .i64 p.vy, .int .i64 p.vz]] w (.bool true) := by
 refine fn_pure Try.func8 rfl (by kernel_rfl) Try.ntmps8 Try.results8 rfl ?_
 refine Vs rfl ?_
 refine Lw rfl (w_box rfl rfl) ?_
 rintro _ _ ⟨b1, hb1, rfl, rfl⟩
 refine Lw rfl (w_box rfl rfl) ?_
 rintro _ _ ⟨b2, hb2, rfl, rfl⟩
 refine La rfl rfl rfl ?_
 refine L_then (kp [2, 3] rfl) ?_
 refine Vs rfl ?_
 refine Lp rfl (p_fieldo fo44_0 rfl rfl) ?_
 refine Lr rfl (rlA (vs := [_, _]) ag23 sz23 rfl rfl rfl) ?_
 refine Lp rfl (p_fieldo fo46_0 rfl rfl) ?_
 refine Lr rfl (rl ag3 rfl rfl rfl) ?_
 refine Lc rfl rfl rfl rfl (fun w hg => lhas_c s.p.x p.x (hasS_iff.2 h.p.x) w) ?_
 refine Lm rfl rfl rfl ?_
 refine L_yes rfl rfl rfl rfl (X_p (p_fieldo fo44_1 rfl rfl) ?_)
 refine L_yes rfl rfl rfl rfl (X_rd (rlA (vs := [_, _]) ag23 sz23 rfl rfl rfl) ?_)
 refine L_yes rfl rfl rfl rfl (X_p (p_fieldo fo46_1 rfl rfl) ?_)
 refine L_yes rfl rfl rfl rfl (X_rd (rl ag3 rfl rfl rfl) ?_)
 refine L_yes rfl rfl rfl rfl (X_wr (w_callP rfl rfl rfl (fun w hg => lhas_c s.p.y p.y (hasS_iff.2 h.p.y) w)) ?_)
 rintro _ _ ⟨rfl, rfl⟩
 refine Lp rfl (p_pick_t rfl rfl rfl rfl) ?_
 refine Lm rfl rfl rfl ?_
 refine L_yes rfl rfl rfl rfl (X_p (p_fieldo fo44_2 rfl rfl) ?_)
 refine L_yes rfl rfl rfl rfl (X_rd (rlA (vs := [_, _]) ag23 sz23 rfl rfl rfl) ?_)
 refine L_yes rfl rfl rfl rfl (X_p (p_fieldo fo46_2 rfl rfl) ?_)
 refine L_yes rfl rfl rfl rfl (X_rd (rl ag3 rfl rfl rfl) ?_)
 refine L_yes rfl rfl rfl rfl (X_wr (w_callP rfl rfl rfl (fun w hg => lhas_c s.p.z p.z (hasS_iff.2 h.p.z) w)) ?_)
 rintro _ _ ⟨rfl, rfl⟩
 refine Lp rfl (p_pick_t rfl rfl rfl rfl) ?_
 refine Lm rfl rfl rfl ?_
 refine L_yes rfl rfl rfl rfl (X_p (p_fieldo fo44_3 rfl rfl) ?_)
 refine L_yes rfl rfl rfl rfl (X_rd (rlA (vs := [_, _]) ag23 sz23 rfl rfl rfl) ?_)
 refine L_yes rfl rfl rfl rfl (X_p (p_fieldo fo46_3 rfl rfl) ?_)
 refine L_yes rfl rfl rfl rfl (X_rd (rl ag3 rfl rfl rfl) ?_)
 refine L_yes rfl rfl rfl rfl (X_wr (w_callP rfl rfl rfl (fun w hg => lhas_c s.v.x p.vx (hasS_iff.2 h.v.x) w)) ?_)
 rintro _ _ ⟨rfl, rfl⟩
 refine Lp rfl (p_pick_t rfl rfl rfl rfl) ?_
 refine Lm rfl rfl rfl ?_
 refine L_yes rfl rfl rfl rfl (X_p (p_fieldo fo44_4 rfl rfl) ?_)
 refine L_yes rfl rfl rfl rfl (X_rd (rlA (vs := [_, _]) ag23 sz23 rfl rfl rfl) ?_)
 refine L_yes rfl rfl rfl rfl (X_p (p_fieldo fo46_4 rfl rfl) ?_)
 refine L_yes rfl rfl rfl rfl (X_rd (rl ag3 rfl rfl rfl) ?_)
 refine L_yes rfl rfl rfl rfl (X_wr (w_callP rfl rfl rfl (fun w hg => lhas_c s.v.y p.vy (hasS_iff.2 h.v.y) w)) ?_)
 rintro _ _ ⟨rfl, rfl⟩
 refine Lp rfl (p_pick_t rfl rfl rfl rfl) ?_
 refine Lm rfl rfl rfl ?_
 refine L_yes rfl rfl rfl rfl (X_p (p_fieldo fo44_5 rfl rfl) ?_)
 refine L_yes rfl rfl rfl rfl (X_rd (rlA (vs := [_, _]) ag23 sz23 rfl rfl rfl) ?_)
 refine L_yes rfl rfl rfl rfl (X_p (p_fieldo fo46_5 rfl rfl) ?_)
 refine L_yes rfl rfl rfl rfl (X_rd (rl ag3 rfl rfl rfl) ?_)
 refine L_yes rfl rfl rfl rfl (X_wr (w_callP rfl rfl rfl (fun w hg => lhas_c s.v.z p.vz (hasS_iff.2 h.v.z) w)) ?_)
 rintro _ _ ⟨rfl, rfl⟩
 refine Lp rfl (p_pick_t rfl rfl rfl rfl) ?_
 refine La rfl rfl rfl ?_
 refine L_then (kp [4] rfl) ?_
 refine V_ret ?_
 refine Leave.nil (.tmp rfl .nil) ?_
 rfl
theorem llandsE_c (x : Fl.Imp) (q : List Fl.Pt) (frm floor : Int) (qv : Value) (h : downE q floor ≠ 0) (w : World) (hq : PtsR w qv q) : FnP Try.prog 10 [.agg #[.int .i64 x.piece, .int .i64 x.x.lo, .int .i64 x.x.hi, .int .i64 x.y.lo, .int .i64 x.y.hi, .int .i64 x.at_.lo, .int .i64 x.at_.hi], qv, .int .i64 frm, .int .i64 floor] w (.bool true) := by
 refine fn_pure Try.func10 rfl (by kernel_rfl) Try.ntmps10 Try.results10 rfl ?_
 refine Vs rfl ?_
 refine Lw rfl (w_box rfl rfl) ?_
 rintro _ _ ⟨b1, hb1, rfl, rfl⟩
 refine La rfl rfl rfl ?_
 refine L_then (kp [1, 2, 3, 4] rfl) ?_
 refine Vs rfl ?_
 iterate 2 refine Lm rfl rfl rfl ?_
 refine Lc rfl rfl rfl rfl (fun w hg => fDown_c q floor _ w (hq.good hg)) ?_
 refine Lm rfl rfl rfl ?_
 iterate 3 refine Lp rfl (p_ext rfl rfl rfl) ?_
 refine Lw rfl (w_alloc zr96 rfl) ?_
 rintro _ _ ⟨b2, hb2, rfl, rfl⟩
 refine Ls (cs' := [_, _]) rfl sz96 rfl rfl rfl rfl rfl rfl rfl ?_
 iterate 2 refine La rfl rfl rfl ?_
 refine L_then (kp [2, 4, 9, 10, 11] rfl) ?_
 refine Vs rfl ?_
 refine Lm rfl rfl rfl ?_
 refine Lp rfl (p_neq rfl rfl rfl) ?_
 refine Lm rfl rfl rfl ?_
 iterate 7 refine L_no rfl rfl rfl (decide_eq_true h) ?_
 iterate 6 refine L_nou rfl rfl rfl ?_
 iterate 2 refine L_no rfl rfl rfl (decide_eq_true h) ?_
 iterate 6 refine L_nou rfl rfl rfl ?_
 refine L_no rfl rfl rfl (decide_eq_true h) ?_
 refine Lp rfl (p_pick_t rfl rfl (decide_eq_true h) rfl) ?_
 refine La rfl rfl rfl ?_
 refine L_then (kp [8] rfl) ?_
 refine V_ret ?_
 refine Leave.nil (.tmp rfl .nil) ?_
 rfl
theorem llandsO_c (x : Fl.Imp) (q : List Fl.Pt) (frm floor : Int) (qv : Value) (h : downE q floor = 0) (hb : (0 ≤ frm ∧ frm ≤ 3000) ∧ 0 ≤ (downP q floor).2.2 ∧ (downP q floor).2.2 ≤ 3001) (h2 : Fl.hasS x.at_ (frm + (downP q floor).2.2) = true ∧ Fl.hasS x.x (downP q floor).1 = true ∧ Fl.hasS x.y (downP q floor).2.1 = true) (w : World) (hq : PtsR w qv q) : FnP Try.prog 10 [.agg #[.int .i64 x.piece, .int .i64 x.x.lo, .int .i64 x.x.hi, .int .i64 x.y.lo, .int .i64 x.y.hi, .int .i64 x.at_.lo, .int .i64 x.at_.hi], qv, .int .i64 frm, .int .i64 floor] w (.bool true) := by
 refine fn_pure Try.func10 rfl (by kernel_rfl) Try.ntmps10 Try.results10 rfl ?_
 refine Vs rfl ?_
 refine Lw rfl (w_box rfl rfl) ?_
 rintro _ _ ⟨b1, hb1, rfl, rfl⟩
 refine La rfl rfl rfl ?_
 refine L_then (kp [1, 2, 3, 4] rfl) ?_
 refine Vs rfl ?_
 iterate 2 refine Lm rfl rfl rfl ?_
 refine Lc rfl rfl rfl rfl (fun w hg => fDown_c q floor _ w (hq.good hg)) ?_
 refine Lm rfl rfl rfl ?_
 iterate 3 refine Lp rfl (p_ext rfl rfl rfl) ?_
 refine Lw rfl (w_alloc zr96 rfl) ?_
 rintro _ _ ⟨b2, hb2, rfl, rfl⟩
 refine Ls (cs' := [_, _]) rfl sz96 rfl rfl rfl rfl rfl rfl rfl ?_
 iterate 2 refine La rfl rfl rfl ?_
 refine L_then (kp [2, 4, 9, 10, 11] rfl) ?_
 refine Vs rfl ?_
 refine Lm rfl rfl rfl ?_
 refine Lp rfl (p_neq rfl rfl rfl) ?_
 refine Lm rfl rfl rfl ?_
 refine L_yes rfl rfl rfl (decide_eq_false (fun k => k h)) (X_p (p_fieldo fo54_2 rfl rfl) ?_)
 refine L_yes rfl rfl rfl (decide_eq_false (fun k => k h)) (X_rd (rlA (vs := [_, _]) ag23 sz23 rfl rfl rfl) ?_)
 refine L_yes rfl rfl rfl (decide_eq_false (fun k => k h)) (X_p (p_move rfl rfl) ?_)
 refine L_yes rfl rfl rfl (decide_eq_false (fun k => k h)) (X_p (p_move rfl rfl) ?_)
 first | refine L_yes rfl rfl rfl (decide_eq_false (fun k => k h)) (X_p (p_add' rfl rfl rfl (by unfold InI; omega)) ?_) | refine L_yes rfl rfl rfl (decide_eq_false (fun k => k h)) (X_p (p_add rfl rfl rfl) ?_)
 refine L_yes rfl rfl rfl (decide_eq_false (fun k => k h)) (X_wr (w_callP rfl rfl rfl (fun w hg => lhas_c x.at_ (frm + (downP q floor).2.2) h2.1 w)) ?_)
 rintro _ _ ⟨rfl, rfl⟩
 refine L_yes rfl rfl rfl (decide_eq_false (fun k => k h)) (X_p (p_move rfl rfl) ?_)
 refine L_yes rfl rfl rfl rfl (X_p (p_fieldo fo54_1 rfl rfl) ?_)
 refine L_yes rfl rfl rfl rfl (X_p (p_fieldo fo52_0 rfl rfl) ?_)
 refine L_yes rfl rfl rfl rfl (X_rd (rlA (vs := [_, _]) ag23 sz23 rfl rfl rfl) ?_)
 refine L_yes rfl rfl rfl rfl (X_p (p_fieldo fo96_0 rfl rfl) ?_)
 refine L_yes rfl rfl rfl rfl (X_rd (rl ag3 rfl rfl rfl) ?_)
 refine L_yes rfl rfl rfl rfl (X_wr (w_callP rfl rfl rfl (fun w hg => lhas_c x.x (downP q floor).1 h2.2.1 w)) ?_)
 rintro _ _ ⟨rfl, rfl⟩
 refine L_yes rfl rfl rfl (decide_eq_false (fun k => k h)) (X_p (p_pick_t rfl rfl rfl rfl) ?_)
 refine L_yes rfl rfl rfl (decide_eq_false (fun k => k h)) (X_p (p_move rfl rfl) ?_)
 refine L_yes rfl rfl rfl rfl (X_p (p_fieldo fo54_1 rfl rfl) ?_)
 refine L_yes rfl rfl rfl rfl (X_p (p_fieldo fo52_1 rfl rfl) ?_)
 refine L_yes rfl rfl rfl rfl (X_rd (rlA (vs := [_, _]) ag23 sz23 rfl rfl rfl) ?_)
 refine L_yes rfl rfl rfl rfl (X_p (p_fieldo fo96_1 rfl rfl) ?_)
 refine L_yes rfl rfl rfl rfl (X_rd (rl ag3 rfl rfl rfl) ?_)
 refine L_yes rfl rfl rfl rfl (X_wr (w_callP rfl rfl rfl (fun w hg => lhas_c x.y (downP q floor).2.1 h2.2.2 w)) ?_)
 rintro _ _ ⟨rfl, rfl⟩
 refine L_yes rfl rfl rfl (decide_eq_false (fun k => k h)) (X_p (p_pick_t rfl rfl rfl rfl) ?_)
 refine Lp rfl (p_pick_f rfl rfl (decide_eq_false (fun k => k h)) rfl) ?_
 refine La rfl rfl rfl ?_
 refine L_then (kp [8] rfl) ?_
 refine V_ret ?_
 refine Leave.nil (.tmp rfl .nil) ?_
 rfl
theorem llands_c (x : Fl.Imp) (q : List Fl.Pt) (qv : Value) (h2 : downE q 0 = 0 → Fl.hasS x.at_ (0 + (downP q 0).2.2) = true ∧ Fl.hasS x.x (downP q 0).1 = true ∧ Fl.hasS x.y (downP q 0).2.1 = true) (hs : strayE q = 0) (w : World) (hq : PtsR w qv q) : FnP Try.prog 10 [.agg #[.int .i64 x.piece, .int .i64 x.x.lo, .int .i64 x.x.hi, .int .i64 x.y.lo, .int .i64 x.y.hi, .int .i64 x.at_.lo, .int .i64 x.at_.hi], qv, .int .i64 0, .int .i64 0] w (.bool true) := by
 by_cases h : downE q 0 = 0
 ·obtain ⟨e, h3, _⟩ := down_inv h
  have h4 := (stray_0 hs).1
  exact llandsO_c x q 0 0 qv h ⟨⟨by omega, by omega⟩, by rw [e]; dsimp only; omega, by rw [e]; dsimp only; omega⟩ (h2 h) w hq
 exact llandsE_c x q 0 0 qv h w hq
theorem flightTrueA (v : Veh) (d : Dir) (l : List Fl.Band) (av pv qv bv : Value) (n m : Int) (w : World) (hv : VehR w (VehV v av pv qv) v) (hl : BdsR w bv l) (q : List Fl.Pt) (x : Value) (hq : PtsR w x q) (h : ownE v d l q ≠ 0) : FnP Try.prog 3 [VehV v av pv qv, .agg #[.int .i64 d.x, .int .i64 d.y, .int .i64 d.z, bv, .int .i64 n, .int .i64 m], x] w (.bool true) := by
 have hL := hl
 obtain ⟨ba, bc, rfl, hbc, hbe⟩ := hl.sl.ex
 simp only [List.length_map] at hL ⊢
 have hv0 := hv
 obtain ⟨qa, qc, rfl, hqc, hqe⟩ := hv.sl.2.2.ex
 simp only [List.length_map] at hqc hv ⊢
 have hQ := hq
 obtain ⟨ya, yc, rfl, hyc, hye⟩ := hq.sl.ex
 simp only [List.length_map] at hQ hyc ⊢
 refine fn_pure Try.func3 rfl (by kernel_rfl) Try.ntmps3 Try.results3 rfl ?_
 refine Vs rfl ?_
 refine Lw rfl (w_box rfl rfl) ?_
 rintro _ _ ⟨b1, hb1, rfl, rfl⟩
 refine Lw rfl (w_box rfl rfl) ?_
 rintro _ _ ⟨b2, hb2, rfl, rfl⟩
 refine La rfl rfl rfl ?_
 refine L_then (kp [2, 3, 4] rfl) ?_
 refine Vs rfl ?_
 refine Lr rfl (rlA (vs := [_, _, _, _, _, _]) ag28 sz28 rfl rfl rfl) ?_
 refine Lp rfl (p_fieldo fo33_0 rfl rfl) ?_
 refine Lr rfl (rlA (vs := [_, _, _]) ag30 sz30 rfl rfl rfl) ?_
 refine Lp rfl (p_fieldo fo33_1 rfl rfl) ?_
 refine Lr rfl (rl ag31 rfl rfl rfl) ?_
 refine Lm rfl rfl rfl ?_
 refine Lc rfl rfl rfl rfl (fun w hg => fOwn_c v d l av pv _ _ w (hv.good hg) (hL.good hg) q _ (hQ.good hg)) ?_
 refine Lm rfl rfl rfl ?_
 iterate 2 refine Lp rfl (p_ext rfl rfl rfl) ?_
 iterate 2 refine La rfl rfl rfl ?_
 refine L_then (kp [2, 3, 4, 7, 8] rfl) ?_
 refine V_seq ?_
 refine Vs rfl ?_
 refine Lm rfl rfl rfl ?_
 refine Lp rfl (p_neq rfl rfl rfl) ?_
 refine Lm rfl rfl rfl ?_
 iterate 2 refine L_no rfl rfl rfl (decide_eq_true h) ?_
 refine Lp rfl (p_pick_t rfl rfl (decide_eq_true h) rfl) ?_
 refine Lm rfl rfl rfl ?_
 iterate 3 refine L_no rfl rfl rfl rfl ?_
 refine Lp rfl (p_pick_t rfl rfl rfl rfl) ?_
 refine L_then (kp [2, 3, 4, 32] rfl) ?_
 refine V_cond_t rfl rfl ?_
 refine Vs rfl ?_
 refine Lc rfl rfl rfl rfl (fun w hg => lAwake_c w) ?_
 refine La rfl rfl rfl ?_
 refine L_then (kp [6] rfl) ?_
 refine V_ret (then_r ?_)
 refine Leave.nil (.tmp rfl .nil) ?_
 rfl
theorem flightTrueB (v : Veh) (d : Dir) (l : List Fl.Band) (av pv qv bv : Value) (n m : Int) (w : World) (hv : VehR w (VehV v av pv qv) v) (hl : BdsR w bv l) (q : List Fl.Pt) (x : Value) (hq : PtsR w x q) (h0 : ownE v d l q = 0) (h : ownI v d l q ≠ -1) : FnP Try.prog 3 [VehV v av pv qv, .agg #[.int .i64 d.x, .int .i64 d.y, .int .i64 d.z, bv, .int .i64 n, .int .i64 m], x] w (.bool true) := by
 have hL := hl
 obtain ⟨ba, bc, rfl, hbc, hbe⟩ := hl.sl.ex
 simp only [List.length_map] at hL ⊢
 have hv0 := hv
 obtain ⟨qa, qc, rfl, hqc, hqe⟩ := hv.sl.2.2.ex
 simp only [List.length_map] at hqc hv ⊢
 have hQ := hq
 obtain ⟨ya, yc, rfl, hyc, hye⟩ := hq.sl.ex
 simp only [List.length_map] at hQ hyc ⊢
 refine fn_pure Try.func3 rfl (by kernel_rfl) Try.ntmps3 Try.results3 rfl ?_
 refine Vs rfl ?_
 refine Lw rfl (w_box rfl rfl) ?_
 rintro _ _ ⟨b1, hb1, rfl, rfl⟩
 refine Lw rfl (w_box rfl rfl) ?_
 rintro _ _ ⟨b2, hb2, rfl, rfl⟩
 refine La rfl rfl rfl ?_
 refine L_then (kp [2, 3, 4] rfl) ?_
 refine Vs rfl ?_
 refine Lr rfl (rlA (vs := [_, _, _, _, _, _]) ag28 sz28 rfl rfl rfl) ?_
 refine Lp rfl (p_fieldo fo33_0 rfl rfl) ?_
 refine Lr rfl (rlA (vs := [_, _, _]) ag30 sz30 rfl rfl rfl) ?_
 refine Lp rfl (p_fieldo fo33_1 rfl rfl) ?_
 refine Lr rfl (rl ag31 rfl rfl rfl) ?_
 refine Lm rfl rfl rfl ?_
 refine Lc rfl rfl rfl rfl (fun w hg => fOwn_c v d l av pv _ _ w (hv.good hg) (hL.good hg) q _ (hQ.good hg)) ?_
 refine Lm rfl rfl rfl ?_
 iterate 2 refine Lp rfl (p_ext rfl rfl rfl) ?_
 iterate 2 refine La rfl rfl rfl ?_
 refine L_then (kp [2, 3, 4, 7, 8] rfl) ?_
 refine V_seq ?_
 refine Vs rfl ?_
 refine Lm rfl rfl rfl ?_
 refine Lp rfl (p_neq rfl rfl rfl) ?_
 refine Lm rfl rfl rfl ?_
 refine L_yes rfl rfl rfl (decide_eq_false (fun k => k h0)) (X_p (p_move rfl rfl) ?_)
 refine L_yes rfl rfl rfl (decide_eq_false (fun k => k h0)) (X_p (p_neq rfl rfl rfl) ?_)
 refine Lp rfl (p_pick_f rfl rfl (decide_eq_false (fun k => k h0)) rfl) ?_
 refine Lm rfl rfl rfl ?_
 iterate 3 refine L_no rfl rfl rfl (decide_eq_true h) ?_
 refine Lp rfl (p_pick_t rfl rfl (decide_eq_true h) rfl) ?_
 refine L_then (kp [2, 3, 4, 32] rfl) ?_
 refine V_cond_t rfl rfl ?_
 refine Vs rfl ?_
 refine Lc rfl rfl rfl rfl (fun w hg => lAwake_c w) ?_
 refine La rfl rfl rfl ?_
 refine L_then (kp [6] rfl) ?_
 refine V_ret (then_r ?_)
 refine Leave.nil (.tmp rfl .nil) ?_
 rfl
set_option maxHeartbeats 8000000 in
theorem flightTrue11 (v : Veh) (d : Dir) (l : List Fl.Band) (av pv qv bv : Value) (n m : Int) (w : World) (hv : VehR w (VehV v av pv qv) v) (hl : BdsR w bv l) (q : List Fl.Pt) (x : Value) (hq : PtsR w x q) (h0 : ownE v d l q = 0) (h : ownI v d l q = -1) (hf : flyE v d l ((q.length : Int) - 1) = 0) (hi : impsE v d l = 0) : FnP Try.prog 3 [VehV v av pv qv, .agg #[.int .i64 d.x, .int .i64 d.y, .int .i64 d.z, bv, .int .i64 n, .int .i64 m], x] w (.bool true) := by
 have hL := hl
 obtain ⟨ba, bc, rfl, hbc, hbe⟩ := hl.sl.ex
 simp only [List.length_map] at hL ⊢
 have hv0 := hv
 obtain ⟨qa, qc, rfl, hqc, hqe⟩ := hv.sl.2.2.ex
 simp only [List.length_map] at hqc hv ⊢
 have hQ := hq
 obtain ⟨ya, yc, rfl, hyc, hye⟩ := hq.sl.ex
 simp only [List.length_map] at hQ hyc ⊢
 obtain ⟨hs, ha, hz, hst⟩ := own_inv h0 h
 obtain ⟨hl1, hl2⟩ := (stray_0 hs).1
 have hq6 := (Fl.asked_good ha).1.pc6
 have hfar := (fly_ok hf).2.2
 refine fn_pure Try.func3 rfl (by kernel_rfl) Try.ntmps3 Try.results3 rfl ?_
 refine Vs rfl ?_
 refine Lw rfl (w_box rfl rfl) ?_
 rintro _ _ ⟨b1, hb1, rfl, rfl⟩
 refine Lw rfl (w_box rfl rfl) ?_
 rintro _ _ ⟨b2, hb2, rfl, rfl⟩
 refine La rfl rfl rfl ?_
 refine L_then (kp [2, 3, 4] rfl) ?_
 refine Vs rfl ?_
 refine Lr rfl (rlA (vs := [_, _, _, _, _, _]) ag28 sz28 rfl rfl rfl) ?_
 refine Lp rfl (p_fieldo fo33_0 rfl rfl) ?_
 refine Lr rfl (rlA (vs := [_, _, _]) ag30 sz30 rfl rfl rfl) ?_
 refine Lp rfl (p_fieldo fo33_1 rfl rfl) ?_
 refine Lr rfl (rl ag31 rfl rfl rfl) ?_
 refine Lm rfl rfl rfl ?_
 refine Lc rfl rfl rfl rfl (fun w hg => fOwn_c v d l av pv _ _ w (hv.good hg) (hL.good hg) q _ (hQ.good hg)) ?_
 refine Lm rfl rfl rfl ?_
 iterate 2 refine Lp rfl (p_ext rfl rfl rfl) ?_
 iterate 2 refine La rfl rfl rfl ?_
 refine L_then (kp [2, 3, 4, 7, 8] rfl) ?_
 refine V_seq ?_
 refine Vs rfl ?_
 refine Lm rfl rfl rfl ?_
 refine Lp rfl (p_neq rfl rfl rfl) ?_
 refine Lm rfl rfl rfl ?_
 refine L_yes rfl rfl rfl (decide_eq_false (fun k => k h0)) (X_p (p_move rfl rfl) ?_)
 refine L_yes rfl rfl rfl (decide_eq_false (fun k => k h0)) (X_p (p_neq rfl rfl rfl) ?_)
 refine Lp rfl (p_pick_f rfl rfl (decide_eq_false (fun k => k h0)) rfl) ?_
 refine Lm rfl rfl rfl ?_
 refine L_yes rfl rfl rfl (decide_eq_false (fun k => k h)) (X_p (p_move rfl rfl) ?_)
 refine L_yes rfl rfl rfl (decide_eq_false (fun k => k h)) (X_p (p_len isl34 rfl rfl) ?_)
 refine L_yes rfl rfl rfl (decide_eq_false (fun k => k h)) (X_p (p_eql rfl rfl rfl) ?_)
 refine Lp rfl (p_pick_f rfl rfl (decide_eq_false (fun k => k h)) rfl) ?_
 refine L_then (kp [2, 3, 4, 32] rfl) ?_
 refine V_cond_f rfl (decide_eq_false (by omega)) ?_
 refine V_skip (then_n ?_)
 refine Vs rfl ?_
 refine Lr rfl (rlA (vs := [_, _, _, _, _, _]) ag28 sz28 rfl rfl rfl) ?_
 refine Lp rfl (p_fieldo fo33_0 rfl rfl) ?_
 refine Lr rfl (rlA (vs := [_, _, _]) ag30 sz30 rfl rfl rfl) ?_
 refine Lp rfl (p_fieldo fo33_1 rfl rfl) ?_
 refine Lr rfl (rl ag31 rfl rfl rfl) ?_
 refine Lm rfl rfl rfl ?_
 refine Lp rfl (p_len isl34 rfl rfl) ?_
 first | refine Lp rfl (p_sub' rfl rfl rfl (by unfold InI; omega)) ?_ | refine Lp rfl (p_sub rfl rfl rfl) ?_
 refine Lw rfl (w_callG (pre := [_, _]) rfl rfl rfl rfl (fun w hg => gFly_c v d l _ _ _ _ w (hv.good hg) (hL.good hg) ((q.length : Int) - 1) hf)) ?_
 rintro _ _ ⟨_, G1, rfl, hfr1, rfl, sv1, rfl, hgr1⟩
 obtain ⟨sa1, sc1, rfl⟩ := Grow.form hgr1
 obtain ⟨gb1, cur1, rfl, rfl, hcur1, _, _⟩ := Grow.form2 hgr1 (by omega)
 try simp only [List.cons_append, List.nil_append, List.append_nil]
 refine Lm rfl rfl rfl ?_
 iterate 2 refine Lp rfl (p_ext rfl rfl rfl) ?_
 iterate 2 refine La rfl rfl rfl ?_
 refine L_then (kp [2, 3, 4, 8, 9] rfl) ?_
 refine V_seq ?_
 refine Vs rfl ?_
 refine Lm rfl rfl rfl ?_
 refine Lp rfl (p_eql rfl rfl rfl) ?_
 refine L_then (kp [2, 3, 4, 8, 9, 47] rfl) ?_
 refine V_cond_t rfl rfl ?_
 refine V_seq ?_
 refine Vs rfl ?_
 refine Lm rfl rfl rfl ?_
 refine Lp rfl (p_len isl39 rfl rfl) ?_
 refine Lm rfl rfl rfl ?_
 refine Lp rfl (p_len isl34 rfl rfl) ?_
 refine Lp rfl (p_neq rfl rfl rfl) ?_
 refine L_then (kp [2, 3, 4, 9, 52] rfl) ?_
 refine V_cond_f rfl (decide_eq_false (by omega)) ?_
 refine V_skip (then_n ?_)
 refine Vs rfl ?_
 refine La rfl rfl rfl ?_
 refine L_then (kp [2, 3, 4, 9, 10] rfl) ?_
 refine V_block ?_
 refine V_loop0 (γ := Int) (kp [2, 3, 4, 9] rfl) (fun k => [(10, .int .i64 k)]) (fun k => 0 ≤ k ∧ k ≤ q.length) (fun k => (q.length - k).toNat) (0) (.cons rfl (.nil _)) (⟨by omega, by omega⟩) ?_
 rintro k hi
 obtain ⟨hk0, hk1⟩ := hi
 refine V_seq ?_
 refine Vs rfl ?_
 iterate 2 refine Lm rfl rfl rfl ?_
 refine Lp rfl (p_len isl39 rfl rfl) ?_
 refine Lp rfl (p_lss rfl rfl rfl) ?_
 refine L_then (kp [2, 3, 4, 9, 10, 56] rfl) ?_
 refine V_cond rfl ?_ ?_
 ·intro c1; try simp only [td] at c1
  obtain ⟨tb, etb, hc0⟩ := hye k.toNat _ (getD_cells (d := ptZ) (by omega))
  subst etb
  have hc : cellsAt w (tb.add (k.toNat * 6)) (Fl.Pt.cells (ptAt q k.toNat)) := hc0
  refine V_skip (then_n ?_)
  refine V_seq ?_
  refine V_block ?_
  refine V_seq (V_draw (.rd 0 (.rd 1 (.rd 2 (.rd 3 (.rd 4 (.rd 5 (.rd 6 (.rd 7 (.wr 8 [6, 5, 4, 2, 1, 0] (.rd 9 .done)))))))))) mixed (by kernel_rfl) rfl ?_)
  iterate 2 refine Dm rfl rfl rfl rfl ?_
  refine Dp rfl rfl (p_idxo es39 rfl rfl rfl (by omega) (by omega)) ?_
  refine Dr rfl rfl (r_loadA (vs := St.cells ((Fl.stT v d l) k.toNat)) ag44 sz44 rfl rfl (by repeat first | exact mH | apply mT | apply List.mem_append_right) (row_st (f := (Fl.stT v d l)) (k := k.toNat) hcur1 rfl (by omega))) ?_
  iterate 2 refine Dm rfl rfl rfl rfl ?_
  refine Dp rfl rfl (p_idx es34 rfl rfl rfl (by omega) (by omega)) ?_
  refine Dr rfl rfl (r_loadBA ag46 sz46 rfl rfl hc rfl List.not_mem_nil) ?_
  refine D_wr (.go (E' := []) rfl (.plain rfl) (w_callP rfl rfl rfl (fun w hg => linside_c (Fl.stT v d l k.toNat) (ptAt q k.toNat) (own_in h0 h k.toNat (by omega) (fun j hj => hfar j (by omega))) w)) rfl ?_)
  rintro _ _ ⟨rfl, rfl⟩
  refine ⟨.nil, ?_⟩
  refine Dp rfl rfl (p_not rfl rfl) ?_
  refine D_then (kp [2, 3, 4, 9, 10, 68] rfl) ?_
  refine V_cond_f rfl rfl ?_
  refine V_skip (blk_n (then_n ?_))
  refine V_region rfl ?_
  refine Lm rfl rfl rfl ?_
  first | refine Lp rfl (p_add' rfl rfl rfl (by unfold InI; omega)) ?_ | refine Lp rfl (p_add rfl rfl rfl) ?_
  refine La rfl rfl rfl ?_
  refine L_keep (kp [2, 3, 4, 9, 10] rfl) (then_n ?_)
  refine ⟨k + 1, ?_, ?_, (.cons rfl (.cons rfl (.cons rfl (.cons rfl (.cons rfl (.nil _)))))), (by repeat (first | exact List.nil_sublist _ | exact List.Sublist.refl _ | apply List.Sublist.cons_cons | apply List.Sublist.cons | apply List.sublist_append_of_sublist_right)), rfl⟩
  ·exact ⟨by omega, by omega⟩
  omega
 intro c1; try simp only [td] at c1
 refine V_exit (then_e (then_e (blk_e rfl (then_n ?_))))
 refine Vs rfl ?_
 refine Lr rfl (rlA (vs := [_, _, _, _, _, _]) ag28 sz28 rfl rfl rfl) ?_
 refine Lp rfl (p_fieldo fo33_0 rfl rfl) ?_
 refine Lr rfl (rlA (vs := [_, _, _]) ag30 sz30 rfl rfl rfl) ?_
 refine Lp rfl (p_fieldo fo33_1 rfl rfl) ?_
 refine Lr rfl (rl ag31 rfl rfl rfl) ?_
 refine Lw rfl (w_callG (pre := [_, _]) rfl rfl rfl rfl (fun w hg => gImpacts_c v d l _ _ _ _ w (hv.good hg) (hL.good hg) hi)) ?_
 rintro _ _ ⟨_, G2, rfl, hfr2, rfl, sv2, rfl, hgr2⟩
 obtain ⟨sa2, sc2, rfl⟩ := Grow.form hgr2
 obtain ⟨gb2, cur2, rfl, rfl, hcur2, _, _⟩ := Grow.form2 hgr2 (by omega)
 try simp only [List.cons_append, List.nil_append, List.append_nil]
 refine Lm rfl rfl rfl ?_
 iterate 2 refine Lp rfl (p_ext rfl rfl rfl) ?_
 iterate 2 refine La rfl rfl rfl ?_
 refine L_then (kp [2, 3, 8, 11] rfl) ?_
 refine Vs rfl ?_
 refine Lm rfl rfl rfl ?_
 refine Lp rfl (p_neq rfl rfl rfl) ?_
 refine Lm rfl rfl rfl ?_
 refine L_yes rfl rfl rfl rfl (X_p (p_move rfl rfl) ?_)
 refine L_yes rfl rfl rfl rfl (X_p (p_len isl47 rfl rfl) ?_)
 refine L_yes rfl rfl rfl rfl (X_p (p_fieldo fo28_4 rfl rfl) ?_)
 refine L_yes rfl rfl rfl rfl (X_rd (rl ag26 rfl rfl rfl) ?_)
 refine L_yes rfl rfl rfl rfl (X_p (p_len isl26 rfl rfl) ?_)
 first | refine L_yes rfl rfl rfl rfl (X_p (p_add' rfl rfl rfl (by unfold InI; omega)) ?_) | refine L_yes rfl rfl rfl rfl (X_p (p_add rfl rfl rfl) ?_)
 refine L_yes rfl rfl rfl rfl (X_p (p_eql rfl rfl rfl) ?_)
 refine L_yes rfl rfl rfl rfl (X_p (p_move rfl rfl) ?_)
 refine L_yes rfl rfl rfl (decide_eq_true (by omega)) (X_p (p_move rfl rfl) ?_)
 refine L_yes rfl rfl rfl (decide_eq_true (by omega)) (X_p (p_fieldo fo28_4 rfl rfl) ?_)
 refine L_yes rfl rfl rfl (decide_eq_true (by omega)) (X_rd (rl ag26 rfl rfl rfl) ?_)
 refine L_yes rfl rfl rfl (decide_eq_true (by omega)) (X_p (p_len isl26 rfl rfl) ?_)
 refine L_yes rfl rfl rfl (decide_eq_true (by omega)) (X_p (p_idxo es47 rfl rfl rfl (by omega) (by omega)) ?_)
 refine L_yes rfl rfl rfl (decide_eq_true (by omega)) (X_rd (r_loadA (vs := Imp.cells (impT v d l v.pieces.length).1) ag54 sz54 rfl rfl (by repeat first | exact mH | apply mT | apply List.mem_append_right) (im_row (l := impsL v d l) (k := v.pieces.length) hcur2 (impsL_len hi).symm (by rw [impsL_len hi]; omega) (impsL_at hi (Nat.le_refl _)))) ?_)
 refine L_yes rfl rfl rfl (decide_eq_true (by omega)) (X_p (p_move rfl rfl) ?_)
 refine L_yes rfl rfl rfl (decide_eq_true (by omega)) (X_wr (w_callP rfl rfl rfl (fun w hg => llands_c (impT v d l v.pieces.length).1 q _ (own_lands h0 h hi) hs w (hQ.good hg))) ?_)
 rintro _ _ ⟨rfl, rfl⟩
 refine L_yes rfl rfl rfl rfl (X_p (p_pick_t rfl rfl (decide_eq_true (by omega)) rfl) ?_)
 refine Lp rfl (p_pick_f rfl rfl rfl rfl) ?_
 refine Lm rfl rfl rfl ?_
 refine L_yes rfl rfl rfl rfl (X_wr (w_callP rfl rfl rfl (fun w hg => lAwake_c w)) ?_)
 rintro _ _ ⟨rfl, rfl⟩
 refine Lp rfl (p_pick_t rfl rfl rfl rfl) ?_
 refine La rfl rfl rfl ?_
 refine L_then (kp [6] rfl) ?_
 refine V_ret ?_
 refine Leave.nil (.tmp rfl .nil) ?_
 rfl
set_option maxHeartbeats 8000000 in
theorem flightTrue10 (v : Veh) (d : Dir) (l : List Fl.Band) (av pv qv bv : Value) (n m : Int) (w : World) (hv : VehR w (VehV v av pv qv) v) (hl : BdsR w bv l) (q : List Fl.Pt) (x : Value) (hq : PtsR w x q) (h0 : ownE v d l q = 0) (h : ownI v d l q = -1) (hf : flyE v d l ((q.length : Int) - 1) = 0) (hi : impsE v d l ≠ 0) : FnP Try.prog 3 [VehV v av pv qv, .agg #[.int .i64 d.x, .int .i64 d.y, .int .i64 d.z, bv, .int .i64 n, .int .i64 m], x] w (.bool true) := by
 have hL := hl
 obtain ⟨ba, bc, rfl, hbc, hbe⟩ := hl.sl.ex
 simp only [List.length_map] at hL ⊢
 have hv0 := hv
 obtain ⟨qa, qc, rfl, hqc, hqe⟩ := hv.sl.2.2.ex
 simp only [List.length_map] at hqc hv ⊢
 have hQ := hq
 obtain ⟨ya, yc, rfl, hyc, hye⟩ := hq.sl.ex
 simp only [List.length_map] at hQ hyc ⊢
 obtain ⟨hs, ha, hz, hst⟩ := own_inv h0 h
 obtain ⟨hl1, hl2⟩ := (stray_0 hs).1
 have hq6 := (Fl.asked_good ha).1.pc6
 have hfar := (fly_ok hf).2.2
 refine fn_pure Try.func3 rfl (by kernel_rfl) Try.ntmps3 Try.results3 rfl ?_
 refine Vs rfl ?_
 refine Lw rfl (w_box rfl rfl) ?_
 rintro _ _ ⟨b1, hb1, rfl, rfl⟩
 refine Lw rfl (w_box rfl rfl) ?_
 rintro _ _ ⟨b2, hb2, rfl, rfl⟩
 refine La rfl rfl rfl ?_
 refine L_then (kp [2, 3, 4] rfl) ?_
 refine Vs rfl ?_
 refine Lr rfl (rlA (vs := [_, _, _, _, _, _]) ag28 sz28 rfl rfl rfl) ?_
 refine Lp rfl (p_fieldo fo33_0 rfl rfl) ?_
 refine Lr rfl (rlA (vs := [_, _, _]) ag30 sz30 rfl rfl rfl) ?_
 refine Lp rfl (p_fieldo fo33_1 rfl rfl) ?_
 refine Lr rfl (rl ag31 rfl rfl rfl) ?_
 refine Lm rfl rfl rfl ?_
 refine Lc rfl rfl rfl rfl (fun w hg => fOwn_c v d l av pv _ _ w (hv.good hg) (hL.good hg) q _ (hQ.good hg)) ?_
 refine Lm rfl rfl rfl ?_
 iterate 2 refine Lp rfl (p_ext rfl rfl rfl) ?_
 iterate 2 refine La rfl rfl rfl ?_
 refine L_then (kp [2, 3, 4, 7, 8] rfl) ?_
 refine V_seq ?_
 refine Vs rfl ?_
 refine Lm rfl rfl rfl ?_
 refine Lp rfl (p_neq rfl rfl rfl) ?_
 refine Lm rfl rfl rfl ?_
 refine L_yes rfl rfl rfl (decide_eq_false (fun k => k h0)) (X_p (p_move rfl rfl) ?_)
 refine L_yes rfl rfl rfl (decide_eq_false (fun k => k h0)) (X_p (p_neq rfl rfl rfl) ?_)
 refine Lp rfl (p_pick_f rfl rfl (decide_eq_false (fun k => k h0)) rfl) ?_
 refine Lm rfl rfl rfl ?_
 refine L_yes rfl rfl rfl (decide_eq_false (fun k => k h)) (X_p (p_move rfl rfl) ?_)
 refine L_yes rfl rfl rfl (decide_eq_false (fun k => k h)) (X_p (p_len isl34 rfl rfl) ?_)
 refine L_yes rfl rfl rfl (decide_eq_false (fun k => k h)) (X_p (p_eql rfl rfl rfl) ?_)
 refine Lp rfl (p_pick_f rfl rfl (decide_eq_false (fun k => k h)) rfl) ?_
 refine L_then (kp [2, 3, 4, 32] rfl) ?_
 refine V_cond_f rfl (decide_eq_false (by omega)) ?_
 refine V_skip (then_n ?_)
 refine Vs rfl ?_
 refine Lr rfl (rlA (vs := [_, _, _, _, _, _]) ag28 sz28 rfl rfl rfl) ?_
 refine Lp rfl (p_fieldo fo33_0 rfl rfl) ?_
 refine Lr rfl (rlA (vs := [_, _, _]) ag30 sz30 rfl rfl rfl) ?_
 refine Lp rfl (p_fieldo fo33_1 rfl rfl) ?_
 refine Lr rfl (rl ag31 rfl rfl rfl) ?_
 refine Lm rfl rfl rfl ?_
 refine Lp rfl (p_len isl34 rfl rfl) ?_
 first | refine Lp rfl (p_sub' rfl rfl rfl (by unfold InI; omega)) ?_ | refine Lp rfl (p_sub rfl rfl rfl) ?_
 refine Lw rfl (w_callG (pre := [_, _]) rfl rfl rfl rfl (fun w hg => gFly_c v d l _ _ _ _ w (hv.good hg) (hL.good hg) ((q.length : Int) - 1) hf)) ?_
 rintro _ _ ⟨_, G1, rfl, hfr1, rfl, sv1, rfl, hgr1⟩
 obtain ⟨sa1, sc1, rfl⟩ := Grow.form hgr1
 obtain ⟨gb1, cur1, rfl, rfl, hcur1, _, _⟩ := Grow.form2 hgr1 (by omega)
 try simp only [List.cons_append, List.nil_append, List.append_nil]
 refine Lm rfl rfl rfl ?_
 iterate 2 refine Lp rfl (p_ext rfl rfl rfl) ?_
 iterate 2 refine La rfl rfl rfl ?_
 refine L_then (kp [2, 3, 4, 8, 9] rfl) ?_
 refine V_seq ?_
 refine Vs rfl ?_
 refine Lm rfl rfl rfl ?_
 refine Lp rfl (p_eql rfl rfl rfl) ?_
 refine L_then (kp [2, 3, 4, 8, 9, 47] rfl) ?_
 refine V_cond_t rfl rfl ?_
 refine V_seq ?_
 refine Vs rfl ?_
 refine Lm rfl rfl rfl ?_
 refine Lp rfl (p_len isl39 rfl rfl) ?_
 refine Lm rfl rfl rfl ?_
 refine Lp rfl (p_len isl34 rfl rfl) ?_
 refine Lp rfl (p_neq rfl rfl rfl) ?_
 refine L_then (kp [2, 3, 4, 9, 52] rfl) ?_
 refine V_cond_f rfl (decide_eq_false (by omega)) ?_
 refine V_skip (then_n ?_)
 refine Vs rfl ?_
 refine La rfl rfl rfl ?_
 refine L_then (kp [2, 3, 4, 9, 10] rfl) ?_
 refine V_block ?_
 refine V_loop0 (γ := Int) (kp [2, 3, 4, 9] rfl) (fun k => [(10, .int .i64 k)]) (fun k => 0 ≤ k ∧ k ≤ q.length) (fun k => (q.length - k).toNat) (0) (.cons rfl (.nil _)) (⟨by omega, by omega⟩) ?_
 rintro k hi
 obtain ⟨hk0, hk1⟩ := hi
 refine V_seq ?_
 refine Vs rfl ?_
 iterate 2 refine Lm rfl rfl rfl ?_
 refine Lp rfl (p_len isl39 rfl rfl) ?_
 refine Lp rfl (p_lss rfl rfl rfl) ?_
 refine L_then (kp [2, 3, 4, 9, 10, 56] rfl) ?_
 refine V_cond rfl ?_ ?_
 ·intro c1; try simp only [td] at c1
  obtain ⟨tb, etb, hc0⟩ := hye k.toNat _ (getD_cells (d := ptZ) (by omega))
  subst etb
  have hc : cellsAt w (tb.add (k.toNat * 6)) (Fl.Pt.cells (ptAt q k.toNat)) := hc0
  refine V_skip (then_n ?_)
  refine V_seq ?_
  refine V_block ?_
  refine V_seq (V_draw (.rd 0 (.rd 1 (.rd 2 (.rd 3 (.rd 4 (.rd 5 (.rd 6 (.rd 7 (.wr 8 [6, 5, 4, 2, 1, 0] (.rd 9 .done)))))))))) mixed (by kernel_rfl) rfl ?_)
  iterate 2 refine Dm rfl rfl rfl rfl ?_
  refine Dp rfl rfl (p_idxo es39 rfl rfl rfl (by omega) (by omega)) ?_
  refine Dr rfl rfl (r_loadA (vs := St.cells ((Fl.stT v d l) k.toNat)) ag44 sz44 rfl rfl (by repeat first | exact mH | apply mT | apply List.mem_append_right) (row_st (f := (Fl.stT v d l)) (k := k.toNat) hcur1 rfl (by omega))) ?_
  iterate 2 refine Dm rfl rfl rfl rfl ?_
  refine Dp rfl rfl (p_idx es34 rfl rfl rfl (by omega) (by omega)) ?_
  refine Dr rfl rfl (r_loadBA ag46 sz46 rfl rfl hc rfl List.not_mem_nil) ?_
  refine D_wr (.go (E' := []) rfl (.plain rfl) (w_callP rfl rfl rfl (fun w hg => linside_c (Fl.stT v d l k.toNat) (ptAt q k.toNat) (own_in h0 h k.toNat (by omega) (fun j hj => hfar j (by omega))) w)) rfl ?_)
  rintro _ _ ⟨rfl, rfl⟩
  refine ⟨.nil, ?_⟩
  refine Dp rfl rfl (p_not rfl rfl) ?_
  refine D_then (kp [2, 3, 4, 9, 10, 68] rfl) ?_
  refine V_cond_f rfl rfl ?_
  refine V_skip (blk_n (then_n ?_))
  refine V_region rfl ?_
  refine Lm rfl rfl rfl ?_
  first | refine Lp rfl (p_add' rfl rfl rfl (by unfold InI; omega)) ?_ | refine Lp rfl (p_add rfl rfl rfl) ?_
  refine La rfl rfl rfl ?_
  refine L_keep (kp [2, 3, 4, 9, 10] rfl) (then_n ?_)
  refine ⟨k + 1, ?_, ?_, (.cons rfl (.cons rfl (.cons rfl (.cons rfl (.cons rfl (.nil _)))))), (by repeat (first | exact List.nil_sublist _ | exact List.Sublist.refl _ | apply List.Sublist.cons_cons | apply List.Sublist.cons | apply List.sublist_append_of_sublist_right)), rfl⟩
  ·exact ⟨by omega, by omega⟩
  omega
 intro c1; try simp only [td] at c1
 refine V_exit (then_e (then_e (blk_e rfl (then_n ?_))))
 refine Vs rfl ?_
 refine Lr rfl (rlA (vs := [_, _, _, _, _, _]) ag28 sz28 rfl rfl rfl) ?_
 refine Lp rfl (p_fieldo fo33_0 rfl rfl) ?_
 refine Lr rfl (rlA (vs := [_, _, _]) ag30 sz30 rfl rfl rfl) ?_
 refine Lp rfl (p_fieldo fo33_1 rfl rfl) ?_
 refine Lr rfl (rl ag31 rfl rfl rfl) ?_
 refine Lw rfl (w_callG (pre := [_, _]) rfl rfl rfl rfl (fun w hg => eImpacts_c v d l _ _ _ _ w (hv.good hg) (hL.good hg) hi)) ?_
 rintro _ _ ⟨_, G2, rfl, hfr2, rfl, sv2, rfl, hgr2⟩
 obtain ⟨sa2, sc2, rfl⟩ := Grow.form hgr2
 try simp only [List.cons_append, List.nil_append, List.append_nil]
 refine Lm rfl rfl rfl ?_
 iterate 2 refine Lp rfl (p_ext rfl rfl rfl) ?_
 iterate 2 refine La rfl rfl rfl ?_
 refine L_then (kp [2, 3, 8, 11] rfl) ?_
 refine Vs rfl ?_
 refine Lm rfl rfl rfl ?_
 refine Lp rfl (p_neq rfl rfl rfl) ?_
 refine Lm rfl rfl rfl ?_
 iterate 8 refine L_no rfl rfl rfl (decide_eq_true hi) ?_
 iterate 8 refine L_nou rfl rfl rfl ?_
 refine L_no rfl rfl rfl (decide_eq_true hi) ?_
 refine Lp rfl (p_pick_t rfl rfl (decide_eq_true hi) rfl) ?_
 refine Lm rfl rfl rfl ?_
 refine L_yes rfl rfl rfl rfl (X_wr (w_callP rfl rfl rfl (fun w hg => lAwake_c w)) ?_)
 rintro _ _ ⟨rfl, rfl⟩
 refine Lp rfl (p_pick_t rfl rfl rfl rfl) ?_
 refine La rfl rfl rfl ?_
 refine L_then (kp [6] rfl) ?_
 refine V_ret ?_
 refine Leave.nil (.tmp rfl .nil) ?_
 rfl
set_option maxHeartbeats 8000000 in
theorem flightTrue01 (v : Veh) (d : Dir) (l : List Fl.Band) (av pv qv bv : Value) (n m : Int) (w : World) (hv : VehR w (VehV v av pv qv) v) (hl : BdsR w bv l) (q : List Fl.Pt) (x : Value) (hq : PtsR w x q) (h0 : ownE v d l q = 0) (h : ownI v d l q = -1) (hf : flyE v d l ((q.length : Int) - 1) ≠ 0) (hi : impsE v d l = 0) : FnP Try.prog 3 [VehV v av pv qv, .agg #[.int .i64 d.x, .int .i64 d.y, .int .i64 d.z, bv, .int .i64 n, .int .i64 m], x] w (.bool true) := by
 have hL := hl
 obtain ⟨ba, bc, rfl, hbc, hbe⟩ := hl.sl.ex
 simp only [List.length_map] at hL ⊢
 have hv0 := hv
 obtain ⟨qa, qc, rfl, hqc, hqe⟩ := hv.sl.2.2.ex
 simp only [List.length_map] at hqc hv ⊢
 have hQ := hq
 obtain ⟨ya, yc, rfl, hyc, hye⟩ := hq.sl.ex
 simp only [List.length_map] at hQ hyc ⊢
 obtain ⟨hs, ha, hz, hst⟩ := own_inv h0 h
 obtain ⟨hl1, hl2⟩ := (stray_0 hs).1
 have hq6 := (Fl.asked_good ha).1.pc6
 have hf3 := fly_3 ha (n := (q.length : Int) - 1) (by omega) hf
 refine fn_pure Try.func3 rfl (by kernel_rfl) Try.ntmps3 Try.results3 rfl ?_
 refine Vs rfl ?_
 refine Lw rfl (w_box rfl rfl) ?_
 rintro _ _ ⟨b1, hb1, rfl, rfl⟩
 refine Lw rfl (w_box rfl rfl) ?_
 rintro _ _ ⟨b2, hb2, rfl, rfl⟩
 refine La rfl rfl rfl ?_
 refine L_then (kp [2, 3, 4] rfl) ?_
 refine Vs rfl ?_
 refine Lr rfl (rlA (vs := [_, _, _, _, _, _]) ag28 sz28 rfl rfl rfl) ?_
 refine Lp rfl (p_fieldo fo33_0 rfl rfl) ?_
 refine Lr rfl (rlA (vs := [_, _, _]) ag30 sz30 rfl rfl rfl) ?_
 refine Lp rfl (p_fieldo fo33_1 rfl rfl) ?_
 refine Lr rfl (rl ag31 rfl rfl rfl) ?_
 refine Lm rfl rfl rfl ?_
 refine Lc rfl rfl rfl rfl (fun w hg => fOwn_c v d l av pv _ _ w (hv.good hg) (hL.good hg) q _ (hQ.good hg)) ?_
 refine Lm rfl rfl rfl ?_
 iterate 2 refine Lp rfl (p_ext rfl rfl rfl) ?_
 iterate 2 refine La rfl rfl rfl ?_
 refine L_then (kp [2, 3, 4, 7, 8] rfl) ?_
 refine V_seq ?_
 refine Vs rfl ?_
 refine Lm rfl rfl rfl ?_
 refine Lp rfl (p_neq rfl rfl rfl) ?_
 refine Lm rfl rfl rfl ?_
 refine L_yes rfl rfl rfl (decide_eq_false (fun k => k h0)) (X_p (p_move rfl rfl) ?_)
 refine L_yes rfl rfl rfl (decide_eq_false (fun k => k h0)) (X_p (p_neq rfl rfl rfl) ?_)
 refine Lp rfl (p_pick_f rfl rfl (decide_eq_false (fun k => k h0)) rfl) ?_
 refine Lm rfl rfl rfl ?_
 refine L_yes rfl rfl rfl (decide_eq_false (fun k => k h)) (X_p (p_move rfl rfl) ?_)
 refine L_yes rfl rfl rfl (decide_eq_false (fun k => k h)) (X_p (p_len isl34 rfl rfl) ?_)
 refine L_yes rfl rfl rfl (decide_eq_false (fun k => k h)) (X_p (p_eql rfl rfl rfl) ?_)
 refine Lp rfl (p_pick_f rfl rfl (decide_eq_false (fun k => k h)) rfl) ?_
 refine L_then (kp [2, 3, 4, 32] rfl) ?_
 refine V_cond_f rfl (decide_eq_false (by omega)) ?_
 refine V_skip (then_n ?_)
 refine Vs rfl ?_
 refine Lr rfl (rlA (vs := [_, _, _, _, _, _]) ag28 sz28 rfl rfl rfl) ?_
 refine Lp rfl (p_fieldo fo33_0 rfl rfl) ?_
 refine Lr rfl (rlA (vs := [_, _, _]) ag30 sz30 rfl rfl rfl) ?_
 refine Lp rfl (p_fieldo fo33_1 rfl rfl) ?_
 refine Lr rfl (rl ag31 rfl rfl rfl) ?_
 refine Lm rfl rfl rfl ?_
 refine Lp rfl (p_len isl34 rfl rfl) ?_
 first | refine Lp rfl (p_sub' rfl rfl rfl (by unfold InI; omega)) ?_ | refine Lp rfl (p_sub rfl rfl rfl) ?_
 refine Lw rfl (w_callG (pre := [_, _]) rfl rfl rfl rfl (fun w hg => eFly_c v d l _ _ _ _ w (hv.good hg) (hL.good hg) ((q.length : Int) - 1) hf)) ?_
 rintro _ _ ⟨_, G1, rfl, hfr1, rfl, sv1, rfl, hgr1⟩
 obtain ⟨sa1, sc1, rfl⟩ := Grow.form hgr1
 try simp only [List.cons_append, List.nil_append, List.append_nil]
 refine Lm rfl rfl rfl ?_
 iterate 2 refine Lp rfl (p_ext rfl rfl rfl) ?_
 iterate 2 refine La rfl rfl rfl ?_
 refine L_then (kp [2, 3, 4, 8, 9] rfl) ?_
 refine V_seq ?_
 refine Vs rfl ?_
 refine Lm rfl rfl rfl ?_
 refine Lp rfl (p_eql rfl rfl rfl) ?_
 refine L_then (kp [2, 3, 4, 8, 9, 47] rfl) ?_
 refine V_cond_f rfl (decide_eq_false hf) ?_
 refine Vs rfl ?_
 refine Lm rfl rfl rfl ?_
 refine Lp rfl (p_neq rfl rfl rfl) ?_
 refine L_then (kp [2, 3, 4, 70] rfl) ?_
 refine V_cond_f rfl (decide_eq_false (fun k => k hf3)) ?_
 refine V_skip (then_n ?_)
 refine Vs rfl ?_
 refine Lr rfl (rlA (vs := [_, _, _, _, _, _]) ag28 sz28 rfl rfl rfl) ?_
 refine Lp rfl (p_fieldo fo33_0 rfl rfl) ?_
 refine Lr rfl (rlA (vs := [_, _, _]) ag30 sz30 rfl rfl rfl) ?_
 refine Lp rfl (p_fieldo fo33_1 rfl rfl) ?_
 refine Lr rfl (rl ag31 rfl rfl rfl) ?_
 refine Lw rfl (w_callG (pre := [_, _]) rfl rfl rfl rfl (fun w hg => gImpacts_c v d l _ _ _ _ w (hv.good hg) (hL.good hg) hi)) ?_
 rintro _ _ ⟨_, G2, rfl, hfr2, rfl, sv2, rfl, hgr2⟩
 obtain ⟨sa2, sc2, rfl⟩ := Grow.form hgr2
 obtain ⟨gb2, cur2, rfl, rfl, hcur2, _, _⟩ := Grow.form2 hgr2 (by omega)
 try simp only [List.cons_append, List.nil_append, List.append_nil]
 refine Lm rfl rfl rfl ?_
 iterate 2 refine Lp rfl (p_ext rfl rfl rfl) ?_
 iterate 2 refine La rfl rfl rfl ?_
 refine L_then (kp [2, 3, 8, 11] rfl) ?_
 refine Vs rfl ?_
 refine Lm rfl rfl rfl ?_
 refine Lp rfl (p_neq rfl rfl rfl) ?_
 refine Lm rfl rfl rfl ?_
 refine L_yes rfl rfl rfl rfl (X_p (p_move rfl rfl) ?_)
 refine L_yes rfl rfl rfl rfl (X_p (p_len isl47 rfl rfl) ?_)
 refine L_yes rfl rfl rfl rfl (X_p (p_fieldo fo28_4 rfl rfl) ?_)
 refine L_yes rfl rfl rfl rfl (X_rd (rl ag26 rfl rfl rfl) ?_)
 refine L_yes rfl rfl rfl rfl (X_p (p_len isl26 rfl rfl) ?_)
 first | refine L_yes rfl rfl rfl rfl (X_p (p_add' rfl rfl rfl (by unfold InI; omega)) ?_) | refine L_yes rfl rfl rfl rfl (X_p (p_add rfl rfl rfl) ?_)
 refine L_yes rfl rfl rfl rfl (X_p (p_eql rfl rfl rfl) ?_)
 refine L_yes rfl rfl rfl rfl (X_p (p_move rfl rfl) ?_)
 refine L_yes rfl rfl rfl (decide_eq_true (by omega)) (X_p (p_move rfl rfl) ?_)
 refine L_yes rfl rfl rfl (decide_eq_true (by omega)) (X_p (p_fieldo fo28_4 rfl rfl) ?_)
 refine L_yes rfl rfl rfl (decide_eq_true (by omega)) (X_rd (rl ag26 rfl rfl rfl) ?_)
 refine L_yes rfl rfl rfl (decide_eq_true (by omega)) (X_p (p_len isl26 rfl rfl) ?_)
 refine L_yes rfl rfl rfl (decide_eq_true (by omega)) (X_p (p_idxo es47 rfl rfl rfl (by omega) (by omega)) ?_)
 refine L_yes rfl rfl rfl (decide_eq_true (by omega)) (X_rd (r_loadA (vs := Imp.cells (impT v d l v.pieces.length).1) ag54 sz54 rfl rfl (by repeat first | exact mH | apply mT | apply List.mem_append_right) (im_row (l := impsL v d l) (k := v.pieces.length) hcur2 (impsL_len hi).symm (by rw [impsL_len hi]; omega) (impsL_at hi (Nat.le_refl _)))) ?_)
 refine L_yes rfl rfl rfl (decide_eq_true (by omega)) (X_p (p_move rfl rfl) ?_)
 refine L_yes rfl rfl rfl (decide_eq_true (by omega)) (X_wr (w_callP rfl rfl rfl (fun w hg => llands_c (impT v d l v.pieces.length).1 q _ (own_lands h0 h hi) hs w (hQ.good hg))) ?_)
 rintro _ _ ⟨rfl, rfl⟩
 refine L_yes rfl rfl rfl rfl (X_p (p_pick_t rfl rfl (decide_eq_true (by omega)) rfl) ?_)
 refine Lp rfl (p_pick_f rfl rfl rfl rfl) ?_
 refine Lm rfl rfl rfl ?_
 refine L_yes rfl rfl rfl rfl (X_wr (w_callP rfl rfl rfl (fun w hg => lAwake_c w)) ?_)
 rintro _ _ ⟨rfl, rfl⟩
 refine Lp rfl (p_pick_t rfl rfl rfl rfl) ?_
 refine La rfl rfl rfl ?_
 refine L_then (kp [6] rfl) ?_
 refine V_ret ?_
 refine Leave.nil (.tmp rfl .nil) ?_
 rfl
set_option maxHeartbeats 8000000 in
theorem flightTrue00 (v : Veh) (d : Dir) (l : List Fl.Band) (av pv qv bv : Value) (n m : Int) (w : World) (hv : VehR w (VehV v av pv qv) v) (hl : BdsR w bv l) (q : List Fl.Pt) (x : Value) (hq : PtsR w x q) (h0 : ownE v d l q = 0) (h : ownI v d l q = -1) (hf : flyE v d l ((q.length : Int) - 1) ≠ 0) (hi : impsE v d l ≠ 0) : FnP Try.prog 3 [VehV v av pv qv, .agg #[.int .i64 d.x, .int .i64 d.y, .int .i64 d.z, bv, .int .i64 n, .int .i64 m], x] w (.bool true) := by
 have hL := hl
 obtain ⟨ba, bc, rfl, hbc, hbe⟩ := hl.sl.ex
 simp only [List.length_map] at hL ⊢
 have hv0 := hv
 obtain ⟨qa, qc, rfl, hqc, hqe⟩ := hv.sl.2.2.ex
 simp only [List.length_map] at hqc hv ⊢
 have hQ := hq
 obtain ⟨ya, yc, rfl, hyc, hye⟩ := hq.sl.ex
 simp only [List.length_map] at hQ hyc ⊢
 obtain ⟨hs, ha, hz, hst⟩ := own_inv h0 h
 obtain ⟨hl1, hl2⟩ := (stray_0 hs).1
 have hq6 := (Fl.asked_good ha).1.pc6
 have hf3 := fly_3 ha (n := (q.length : Int) - 1) (by omega) hf
 refine fn_pure Try.func3 rfl (by kernel_rfl) Try.ntmps3 Try.results3 rfl ?_
 refine Vs rfl ?_
 refine Lw rfl (w_box rfl rfl) ?_
 rintro _ _ ⟨b1, hb1, rfl, rfl⟩
 refine Lw rfl (w_box rfl rfl) ?_
 rintro _ _ ⟨b2, hb2, rfl, rfl⟩
 refine La rfl rfl rfl ?_
 refine L_then (kp [2, 3, 4] rfl) ?_
 refine Vs rfl ?_
 refine Lr rfl (rlA (vs := [_, _, _, _, _, _]) ag28 sz28 rfl rfl rfl) ?_
 refine Lp rfl (p_fieldo fo33_0 rfl rfl) ?_
 refine Lr rfl (rlA (vs := [_, _, _]) ag30 sz30 rfl rfl rfl) ?_
 refine Lp rfl (p_fieldo fo33_1 rfl rfl) ?_
 refine Lr rfl (rl ag31 rfl rfl rfl) ?_
 refine Lm rfl rfl rfl ?_
 refine Lc rfl rfl rfl rfl (fun w hg => fOwn_c v d l av pv _ _ w (hv.good hg) (hL.good hg) q _ (hQ.good hg)) ?_
 refine Lm rfl rfl rfl ?_
 iterate 2 refine Lp rfl (p_ext rfl rfl rfl) ?_
 iterate 2 refine La rfl rfl rfl ?_
 refine L_then (kp [2, 3, 4, 7, 8] rfl) ?_
 refine V_seq ?_
 refine Vs rfl ?_
 refine Lm rfl rfl rfl ?_
 refine Lp rfl (p_neq rfl rfl rfl) ?_
 refine Lm rfl rfl rfl ?_
 refine L_yes rfl rfl rfl (decide_eq_false (fun k => k h0)) (X_p (p_move rfl rfl) ?_)
 refine L_yes rfl rfl rfl (decide_eq_false (fun k => k h0)) (X_p (p_neq rfl rfl rfl) ?_)
 refine Lp rfl (p_pick_f rfl rfl (decide_eq_false (fun k => k h0)) rfl) ?_
 refine Lm rfl rfl rfl ?_
 refine L_yes rfl rfl rfl (decide_eq_false (fun k => k h)) (X_p (p_move rfl rfl) ?_)
 refine L_yes rfl rfl rfl (decide_eq_false (fun k => k h)) (X_p (p_len isl34 rfl rfl) ?_)
 refine L_yes rfl rfl rfl (decide_eq_false (fun k => k h)) (X_p (p_eql rfl rfl rfl) ?_)
 refine Lp rfl (p_pick_f rfl rfl (decide_eq_false (fun k => k h)) rfl) ?_
 refine L_then (kp [2, 3, 4, 32] rfl) ?_
 refine V_cond_f rfl (decide_eq_false (by omega)) ?_
 refine V_skip (then_n ?_)
 refine Vs rfl ?_
 refine Lr rfl (rlA (vs := [_, _, _, _, _, _]) ag28 sz28 rfl rfl rfl) ?_
 refine Lp rfl (p_fieldo fo33_0 rfl rfl) ?_
 refine Lr rfl (rlA (vs := [_, _, _]) ag30 sz30 rfl rfl rfl) ?_
 refine Lp rfl (p_fieldo fo33_1 rfl rfl) ?_
 refine Lr rfl (rl ag31 rfl rfl rfl) ?_
 refine Lm rfl rfl rfl ?_
 refine Lp rfl (p_len isl34 rfl rfl) ?_
 first | refine Lp rfl (p_sub' rfl rfl rfl (by unfold InI; omega)) ?_ | refine Lp rfl (p_sub rfl rfl rfl) ?_
 refine Lw rfl (w_callG (pre := [_, _]) rfl rfl rfl rfl (fun w hg => eFly_c v d l _ _ _ _ w (hv.good hg) (hL.good hg) ((q.length : Int) - 1) hf)) ?_
 rintro _ _ ⟨_, G1, rfl, hfr1, rfl, sv1, rfl, hgr1⟩
 obtain ⟨sa1, sc1, rfl⟩ := Grow.form hgr1
 try simp only [List.cons_append, List.nil_append, List.append_nil]
 refine Lm rfl rfl rfl ?_
 iterate 2 refine Lp rfl (p_ext rfl rfl rfl) ?_
 iterate 2 refine La rfl rfl rfl ?_
 refine L_then (kp [2, 3, 4, 8, 9] rfl) ?_
 refine V_seq ?_
 refine Vs rfl ?_
 refine Lm rfl rfl rfl ?_
 refine Lp rfl (p_eql rfl rfl rfl) ?_
 refine L_then (kp [2, 3, 4, 8, 9, 47] rfl) ?_
 refine V_cond_f rfl (decide_eq_false hf) ?_
 refine Vs rfl ?_
 refine Lm rfl rfl rfl ?_
 refine Lp rfl (p_neq rfl rfl rfl) ?_
 refine L_then (kp [2, 3, 4, 70] rfl) ?_
 refine V_cond_f rfl (decide_eq_false (fun k => k hf3)) ?_
 refine V_skip (then_n ?_)
 refine Vs rfl ?_
 refine Lr rfl (rlA (vs := [_, _, _, _, _, _]) ag28 sz28 rfl rfl rfl) ?_
 refine Lp rfl (p_fieldo fo33_0 rfl rfl) ?_
 refine Lr rfl (rlA (vs := [_, _, _]) ag30 sz30 rfl rfl rfl) ?_
 refine Lp rfl (p_fieldo fo33_1 rfl rfl) ?_
 refine Lr rfl (rl ag31 rfl rfl rfl) ?_
 refine Lw rfl (w_callG (pre := [_, _]) rfl rfl rfl rfl (fun w hg => eImpacts_c v d l _ _ _ _ w (hv.good hg) (hL.good hg) hi)) ?_
 rintro _ _ ⟨_, G2, rfl, hfr2, rfl, sv2, rfl, hgr2⟩
 obtain ⟨sa2, sc2, rfl⟩ := Grow.form hgr2
 try simp only [List.cons_append, List.nil_append, List.append_nil]
 refine Lm rfl rfl rfl ?_
 iterate 2 refine Lp rfl (p_ext rfl rfl rfl) ?_
 iterate 2 refine La rfl rfl rfl ?_
 refine L_then (kp [2, 3, 8, 11] rfl) ?_
 refine Vs rfl ?_
 refine Lm rfl rfl rfl ?_
 refine Lp rfl (p_neq rfl rfl rfl) ?_
 refine Lm rfl rfl rfl ?_
 iterate 8 refine L_no rfl rfl rfl (decide_eq_true hi) ?_
 iterate 8 refine L_nou rfl rfl rfl ?_
 refine L_no rfl rfl rfl (decide_eq_true hi) ?_
 refine Lp rfl (p_pick_t rfl rfl (decide_eq_true hi) rfl) ?_
 refine Lm rfl rfl rfl ?_
 refine L_yes rfl rfl rfl rfl (X_wr (w_callP rfl rfl rfl (fun w hg => lAwake_c w)) ?_)
 rintro _ _ ⟨rfl, rfl⟩
 refine Lp rfl (p_pick_t rfl rfl rfl rfl) ?_
 refine La rfl rfl rfl ?_
 refine L_then (kp [6] rfl) ?_
 refine V_ret ?_
 refine Leave.nil (.tmp rfl .nil) ?_
 rfl
theorem flightTrue_c (v : Veh) (d : Dir) (l : List Fl.Band) (av pv qv bv : Value) (n m : Int) (w : World) (hv : VehR w (VehV v av pv qv) v) (hl : BdsR w bv l) (q : List Fl.Pt) (x : Value) (hq : PtsR w x q) : FnP Try.prog 3 [VehV v av pv qv, .agg #[.int .i64 d.x, .int .i64 d.y, .int .i64 d.z, bv, .int .i64 n, .int .i64 m], x] w (.bool true) := by
 by_cases h0 : ownE v d l q = 0
 ·by_cases h : ownI v d l q = -1
  ·by_cases hf : flyE v d l ((q.length : Int) - 1) = 0
   ·by_cases hi : impsE v d l = 0
    ·exact flightTrue11 v d l av pv qv bv n m w hv hl q x hq h0 h hf hi
    exact flightTrue10 v d l av pv qv bv n m w hv hl q x hq h0 h hf hi
   by_cases hi : impsE v d l = 0
   ·exact flightTrue01 v d l av pv qv bv n m w hv hl q x hq h0 h hf hi
   exact flightTrue00 v d l av pv qv bv n m w hv hl q x hq h0 h hf hi
  exact flightTrueB v d l av pv qv bv n m w hv hl q x hq h0 h
 exact flightTrueA v d l av pv qv bv n m w hv hl q x hq h0

theorem own_ : ownKnob Try.prog.godebug = none := by kernel_rfl

theorem flightTrue_lifted (os : Os) (started : os.Started) (H : Type) (enc : TypeId × Value → H) :
  ReturnsInHanded {} Try.checked os 3 .any (Rows.flightTrueSpec.pre6 enc Try.prog Try.f3 Rows.flightTrueRow.domain false) (Rows.flightTrueSpec.post enc Try.prog Try.f3 false true false false) := by
 refine returnsInHanded_of_change (C := Try.checked) own_ started (by kernel_rfl) Try.func3
  (ChangeSpec.witness6 (enc := enc) (C := Try.checked) false ⟨#[], #[.agg #[.string ByteArray.empty, .int .i64 0, .int .i64 0, .slice none 0 0, .slice none 0 0, .slice none 0 0], .agg #[.int .i64 0, .int .i64 0, .int .i64 0, .slice none 0 0, .int .i64 0, .int .i64 0], .slice none 0 0], []⟩ 8 (by kernel_rfl) (by kernel_rfl) (by kernel_rfl) (by kernel_rfl)) ?_
 intro W base args ds gs before hval0 hW hcnd _
 have hval : ∀ (j : Nat) t v, Try.f3.params[j]? = some t → args[j]? = some v → Value.okWide Try.prog W .any base t v := hval0
 have hW' := hW
 obtain ⟨pA, pB, hA0, hV, rfl, _, _⟩ := hW
 have hA : DataW.TrodAll enc Try.prog W 0 (fun _ => true) true Try.f3.params.toList args.toList ds pA := hA0
 clear hA0 hval0
 rw [Try.params3] at hA hval
 obtain ⟨rfl, rfl⟩ := trodVars_none hV
 obtain ⟨v0, vs0, d0, ds0, p0, q0, ea0, rfl, rfl, h0, hA0⟩ := trodAll_cons hA
 obtain ⟨v1, vs1, d1, ds1, p1, q1, ea1, rfl, rfl, h1, hA1⟩ := trodAll_cons hA0
 obtain ⟨v2, vs2, d2, ds2, p2, q2, ea2, rfl, rfl, h2, hA2⟩ := trodAll_cons hA1
 obtain ⟨rfl, rfl, rfl⟩ := trodAll_nil hA2
 subst ea2
 subst ea1
 have ea : args = #[v0, v1, v2] := Array.toList_inj.1 ea0
 subst ea
 have k0 := hval 0 _ v0 rfl rfl
 have k1 := hval 1 _ v1 rfl rfl
 have k2 := hval 2 _ v2 rfl rfl
 obtain ⟨v, hv⟩ := open_veh (P := Try.prog) (by kernel_rfl) k0 h0
 obtain ⟨av, pv, qv, rfl, _⟩ := hv.ex
 obtain ⟨x0, x1, x2, l, lv, n, m, rfl, _, hl⟩ := open_shot (P := Try.prog) (by kernel_rfl) k1 h1
 obtain ⟨q, hq⟩ := open_pts (P := Try.prog) (by kernel_rfl) k2 h2
 refine (calls_of (flightTrue_c v ⟨x0, x1, x2⟩ l av pv qv _ n m W hv hl q _ hq)).mono ?_
 rintro _ W' ⟨_, rfl, rfl, hE⟩
 exact ⟨_, rfl, post_true hW' rfl hE (by kernel_rfl) (by kernel_rfl) rfl rfl rfl (by kernel_rfl) Try.underlying4⟩

theorem flightTrue_holds : Rows.FlightTrueSaid :=
 OpenClaim.holds_of_wide 3 Try.f3 rfl rfl rfl rfl rfl rfl rfl ⟨rfl, rfl, rfl, rfl, rfl⟩ rfl rfl rfl rfl rfl (by kernel_rfl) Try.func3 (by kernel_rfl)
  (of_decide_eq_true (by kernel_rfl)) (by unfold Func.isWrapper; first | (rw [if_pos (by decide +kernel)]; kernel_rfl) | (rw [if_neg (by decide +kernel)]; exact ⟨rfl, rfl⟩))
  (fun os started H enc _ => flightTrue_lifted os started H enc)
#print axioms flightTrue_holds

end Go.Proofs.Ytbncegfgjbdheab
