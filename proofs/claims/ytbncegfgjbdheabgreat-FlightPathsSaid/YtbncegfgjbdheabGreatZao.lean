/- Joined texts. -/
import Derived.Test.YtbncegfgjbdheabGreatZam
import Derived.Test.YtbncegfgjbdheabGreatZan

set_option linter.all false
namespace Go.Proofs.YtbncegfgjbdheabGreat
open Go.Vc Go.Tk Go.Fl
set_option maxRecDepth 100000
end Go.Proofs.YtbncegfgjbdheabGreat


set_option linter.all false
namespace Go.Proofs.YtbncegfgjbdheabGreat
open Go.Vc Go.Tk Go.Fl
set_option maxRecDepth 100000
theorem rone_c (n : Int) (w : World) : FnP Tryz.prog 84 [.int .i64 n] w (.agg #[.int .i64 (at1 n).lo, .int .i64 (at1 n).hi]) := by
 refine fn_pure Tryz.func84 rfl (by kernel_rfl) Tryz.ntmps84 Tryz.results84 rfl ?_
 refine Vs rfl ?_
 refine Lw rfl (w_alloc zr23 rfl) ?_
 rintro _ _ ⟨b1, hb1, rfl, rfl⟩
 refine L_then (kp [0, 2] rfl) ?_
 refine Vs rfl ?_
 iterate 2 refine Lm rfl rfl rfl ?_
 refine Lp rfl (p_build (r := [_, _]) pl23 zr23 rfl rfl rfl) ?_
 refine Ls (cs' := [_, _]) rfl sz23 rfl rfl rfl rfl rfl rfl rfl ?_
 refine L_then (kp [2] rfl) ?_
 refine V_ret ?_
 refine Leave.nil (.cellA (us := [_, _]) rfl ag23 sz23 (by repeat first | exact mH | apply mT) rfl .nil) ?_
 rfl
theorem radd_c (a b : Span) (h : (-4611686018427387904 ≤ a.lo ∧ a.lo ≤ 4611686018427387903) ∧ (-4611686018427387904 ≤ a.hi ∧ a.hi ≤ 4611686018427387903) ∧ (-4611686018427387904 ≤ b.lo ∧ b.lo ≤ 4611686018427387903) ∧ (-4611686018427387904 ≤ b.hi ∧ b.hi ≤ 4611686018427387903)) (w : World) : FnP Tryz.prog 89 [.agg #[.int .i64 a.lo, .int .i64 a.hi], .agg #[.int .i64 b.lo, .int .i64 b.hi]] w (.agg #[.int .i64 (Fl.addS a b).lo, .int .i64 (Fl.addS a b).hi]) := by
 refine fn_pure Tryz.func89 rfl (by kernel_rfl) Tryz.ntmps89 Tryz.results89 rfl ?_
 refine Vs rfl ?_
 refine Lw rfl (w_box rfl rfl) ?_
 rintro _ _ ⟨b1, hb1, rfl, rfl⟩
 refine Lw rfl (w_box rfl rfl) ?_
 rintro _ _ ⟨b2, hb2, rfl, rfl⟩
 refine Lw rfl (w_alloc zr23 rfl) ?_
 rintro _ _ ⟨b3, hb3, rfl, rfl⟩
 refine L_then (kp [2, 3, 4] rfl) ?_
 refine Vs rfl ?_
 refine Lp rfl (p_fieldo fo23_0 rfl rfl) ?_
 refine Lr rfl (rl ag3 rfl rfl rfl) ?_
 refine Lp rfl (p_fieldo fo23_0 rfl rfl) ?_
 refine Lr rfl (rl ag3 rfl rfl rfl) ?_
 first | refine Lp rfl (p_add' rfl rfl rfl (by unfold InI; omega)) ?_ | refine Lp rfl (p_add rfl rfl rfl) ?_
 refine Lp rfl (p_fieldo fo23_1 rfl rfl) ?_
 refine Lr rfl (rl ag3 rfl rfl rfl) ?_
 refine Lp rfl (p_fieldo fo23_1 rfl rfl) ?_
 refine Lr rfl (rl ag3 rfl rfl rfl) ?_
 first | refine Lp rfl (p_add' rfl rfl rfl (by unfold InI; omega)) ?_ | refine Lp rfl (p_add rfl rfl rfl) ?_
 refine Lp rfl (p_build (r := [_, _]) pl23 zr23 rfl rfl rfl) ?_
 refine Ls (cs' := [_, _]) rfl sz23 rfl rfl rfl rfl rfl rfl rfl ?_
 refine L_then (kp [4] rfl) ?_
 refine V_ret ?_
 refine Leave.nil (.cellA (us := [_, _]) rfl ag23 sz23 (by repeat first | exact mH | apply mT) rfl .nil) ?_
 rfl
theorem rsub_c (a b : Span) (h : (-4611686018427387904 ≤ a.lo ∧ a.lo ≤ 4611686018427387903) ∧ (-4611686018427387904 ≤ a.hi ∧ a.hi ≤ 4611686018427387903) ∧ (-4611686018427387904 ≤ b.lo ∧ b.lo ≤ 4611686018427387903) ∧ (-4611686018427387904 ≤ b.hi ∧ b.hi ≤ 4611686018427387903)) (w : World) : FnP Tryz.prog 87 [.agg #[.int .i64 a.lo, .int .i64 a.hi], .agg #[.int .i64 b.lo, .int .i64 b.hi]] w (.agg #[.int .i64 (Fl.subS a b).lo, .int .i64 (Fl.subS a b).hi]) := by
 refine fn_pure Tryz.func87 rfl (by kernel_rfl) Tryz.ntmps87 Tryz.results87 rfl ?_
 refine Vs rfl ?_
 refine Lw rfl (w_box rfl rfl) ?_
 rintro _ _ ⟨b1, hb1, rfl, rfl⟩
 refine Lw rfl (w_box rfl rfl) ?_
 rintro _ _ ⟨b2, hb2, rfl, rfl⟩
 refine Lw rfl (w_alloc zr23 rfl) ?_
 rintro _ _ ⟨b3, hb3, rfl, rfl⟩
 refine L_then (kp [2, 3, 4] rfl) ?_
 refine Vs rfl ?_
 refine Lp rfl (p_fieldo fo23_0 rfl rfl) ?_
 refine Lr rfl (rl ag3 rfl rfl rfl) ?_
 refine Lp rfl (p_fieldo fo23_1 rfl rfl) ?_
 refine Lr rfl (rl ag3 rfl rfl rfl) ?_
 first | refine Lp rfl (p_sub' rfl rfl rfl (by unfold InI; omega)) ?_ | refine Lp rfl (p_sub rfl rfl rfl) ?_
 refine Lp rfl (p_fieldo fo23_1 rfl rfl) ?_
 refine Lr rfl (rl ag3 rfl rfl rfl) ?_
 refine Lp rfl (p_fieldo fo23_0 rfl rfl) ?_
 refine Lr rfl (rl ag3 rfl rfl rfl) ?_
 first | refine Lp rfl (p_sub' rfl rfl rfl (by unfold InI; omega)) ?_ | refine Lp rfl (p_sub rfl rfl rfl) ?_
 refine Lp rfl (p_build (r := [_, _]) pl23 zr23 rfl rfl rfl) ?_
 refine Ls (cs' := [_, _]) rfl sz23 rfl rfl rfl rfl rfl rfl rfl ?_
 refine L_then (kp [4] rfl) ?_
 refine V_ret ?_
 refine Leave.nil (.cellA (us := [_, _]) rfl ag23 sz23 (by repeat first | exact mH | apply mT) rfl .nil) ?_
 rfl
theorem rmul_c (a b : Span) {A B : Int} (ha : SpB A a) (hb : SpB B b) (hAB : A * B ≤ 4611686018427387903) (w : World) : FnP Tryz.prog 85 [.agg #[.int .i64 a.lo, .int .i64 a.hi], .agg #[.int .i64 b.lo, .int .i64 b.hi]] w (.agg #[.int .i64 (Fl.mulS a b).lo, .int .i64 (Fl.mulS a b).hi]) := by
 obtain ⟨a1, a2, a3⟩ := ha
 obtain ⟨b1, b2, b3⟩ := hb
 have hA0 : 0 ≤ A := by omega
 have m0 := mul_abs (a := a.lo) (b := b.lo) (A := A) (B := B) hA0 (by omega) (by omega)
 have m1 := mul_abs (a := a.lo) (b := b.hi) (A := A) (B := B) hA0 (by omega) (by omega)
 have m2 := mul_abs (a := a.hi) (b := b.lo) (A := A) (B := B) hA0 (by omega) (by omega)
 have m3 := mul_abs (a := a.hi) (b := b.hi) (A := A) (B := B) hA0 (by omega) (by omega)
 refine fn_pure Tryz.func85 rfl (by kernel_rfl) Tryz.ntmps85 Tryz.results85 rfl ?_
 refine Vs rfl ?_
 refine Lw rfl (w_box rfl rfl) ?_
 rintro _ _ ⟨b1, hb1, rfl, rfl⟩
 refine Lw rfl (w_box rfl rfl) ?_
 rintro _ _ ⟨b2, hb2, rfl, rfl⟩
 refine Lw rfl (w_alloc zr23 rfl) ?_
 rintro _ _ ⟨b3, hb3, rfl, rfl⟩
 refine L_then (kp [2, 3, 4] rfl) ?_
 refine V_seq (V_draw (.rd 0 (.rd 1 (.rd 2 (.rd 3 (.rd 4 (.rd 5 (.rd 6 (.rd 7 (.rd 8 (.rd 9 (.rd 10 (.rd 11 (.rd 12 (.rd 13 (.rd 14 (.rd 15 (.rd 16 (.rd 17 (.rd 18 (.rd 19 (.rd 20 (.rd 21 (.rd 22 (.rd 23 .done)))))))))))))))))))))))) mixed (by kernel_rfl) rfl ?_)
 refine Dp rfl rfl (p_fieldo fo23_0 rfl rfl) ?_
 refine Dr rfl rfl (rl ag3 rfl rfl rfl) ?_
 refine Dp rfl rfl (p_fieldo fo23_0 rfl rfl) ?_
 refine Dr rfl rfl (rl ag3 rfl rfl rfl) ?_
 refine Dp rfl rfl (p_mul' rfl rfl rfl (by unfold InI; omega)) ?_
 refine Dp rfl rfl (p_fieldo fo23_0 rfl rfl) ?_
 refine Dr rfl rfl (rl ag3 rfl rfl rfl) ?_
 refine Dp rfl rfl (p_fieldo fo23_1 rfl rfl) ?_
 refine Dr rfl rfl (rl ag3 rfl rfl rfl) ?_
 refine Dp rfl rfl (p_mul' rfl rfl rfl (by unfold InI; omega)) ?_
 refine Dp rfl rfl (p_fieldo fo23_1 rfl rfl) ?_
 refine Dr rfl rfl (rl ag3 rfl rfl rfl) ?_
 refine Dp rfl rfl (p_fieldo fo23_0 rfl rfl) ?_
 refine Dr rfl rfl (rl ag3 rfl rfl rfl) ?_
 refine Dp rfl rfl (p_mul' rfl rfl rfl (by unfold InI; omega)) ?_
 refine Dp rfl rfl (p_fieldo fo23_1 rfl rfl) ?_
 refine Dr rfl rfl (rl ag3 rfl rfl rfl) ?_
 refine Dp rfl rfl (p_fieldo fo23_1 rfl rfl) ?_
 refine Dr rfl rfl (rl ag3 rfl rfl rfl) ?_
 refine Dp rfl rfl (p_mul' rfl rfl rfl (by unfold InI; omega)) ?_
 iterate 4 refine Dp rfl rfl (p_assign rfl rfl) ?_
 refine D_then (kp [4, 5, 6, 7, 8] rfl) ?_
 refine Vs rfl ?_
 iterate 4 refine Lm rfl rfl rfl ?_
 refine Lp rfl (p_min4 rfl rfl rfl rfl rfl) ?_
 iterate 4 refine Lm rfl rfl rfl ?_
 refine Lp rfl (p_max4 rfl rfl rfl rfl rfl) ?_
 refine Lp rfl (p_build (r := [_, _]) pl23 zr23 rfl rfl rfl) ?_
 refine Ls (cs' := [_, _]) rfl sz23 rfl rfl rfl rfl rfl rfl rfl ?_
 refine L_then (kp [4] rfl) ?_
 refine V_ret ?_
 refine Leave.nil (.cellA (us := [_, _]) rfl ag23 sz23 (by repeat first | exact mH | apply mT) rfl .nil) ?_
 rfl
theorem rsquare_c (s : Span) (h : SpB 1020000 s) (w : World) : FnP Tryz.prog 90 [.agg #[.int .i64 s.lo, .int .i64 s.hi]] w (.agg #[.int .i64 (sqS s).lo, .int .i64 (sqS s).hi]) := by
 obtain ⟨h1, h2, h3⟩ := h
 have h : SpB 1020000 s := ⟨h1, h2, h3⟩
 have q1 := mul_abs (a := s.lo) (b := s.lo) (A := 1020000) (B := 1020000) (by omega) (by omega) (by omega)
 have q2 := mul_abs (a := s.hi) (b := s.hi) (A := 1020000) (B := 1020000) (by omega) (by omega) (by omega)
 refine fn_pure Tryz.func90 rfl (by kernel_rfl) Tryz.ntmps90 Tryz.results90 rfl ?_
 refine Vs rfl ?_
 refine Lw rfl (w_box rfl rfl) ?_
 rintro _ _ ⟨b1, hb1, rfl, rfl⟩
 refine Lw rfl (w_alloc zr23 rfl) ?_
 rintro _ _ ⟨b2, hb2, rfl, rfl⟩
 refine L_then (kp [1, 2] rfl) ?_
 refine Vs rfl ?_
 refine Lp rfl (p_fieldo fo23_0 rfl rfl) ?_
 refine Lr rfl (rl ag3 rfl rfl rfl) ?_
 refine Lp rfl (p_fieldo fo23_0 rfl rfl) ?_
 refine Lr rfl (rl ag3 rfl rfl rfl) ?_
 refine Lp rfl (p_mul' rfl rfl rfl (by unfold InI; omega)) ?_
 refine Lp rfl (p_fieldo fo23_1 rfl rfl) ?_
 refine Lr rfl (rl ag3 rfl rfl rfl) ?_
 refine Lp rfl (p_fieldo fo23_1 rfl rfl) ?_
 refine Lr rfl (rl ag3 rfl rfl rfl) ?_
 refine Lp rfl (p_mul' rfl rfl rfl (by unfold InI; omega)) ?_
 refine Lp rfl (p_min rfl rfl rfl) ?_
 refine Lp rfl (p_fieldo fo23_0 rfl rfl) ?_
 refine Lr rfl (rl ag3 rfl rfl rfl) ?_
 refine Lp rfl (p_fieldo fo23_0 rfl rfl) ?_
 refine Lr rfl (rl ag3 rfl rfl rfl) ?_
 refine Lp rfl (p_mul' rfl rfl rfl (by unfold InI; omega)) ?_
 refine Lp rfl (p_fieldo fo23_1 rfl rfl) ?_
 refine Lr rfl (rl ag3 rfl rfl rfl) ?_
 refine Lp rfl (p_fieldo fo23_1 rfl rfl) ?_
 refine Lr rfl (rl ag3 rfl rfl rfl) ?_
 refine Lp rfl (p_mul' rfl rfl rfl (by unfold InI; omega)) ?_
 refine Lp rfl (p_max rfl rfl rfl) ?_
 refine Lp rfl (p_build (r := [_, _]) pl23 zr23 rfl rfl rfl) ?_
 refine Lw rfl (w_alloc zr23 rfl) ?_
 rintro _ _ ⟨b3, hb3, rfl, rfl⟩
 refine Ls (cs' := [_, _]) rfl sz23 rfl rfl rfl rfl rfl rfl rfl ?_
 refine L_then (kp [1, 2, 3] rfl) ?_
 refine V_seq ?_
 refine Vs rfl ?_
 refine Lp rfl (p_fieldo fo23_0 rfl rfl) ?_
 refine Lr rfl (rl ag3 rfl rfl rfl) ?_
 refine Lp rfl (p_leq rfl rfl rfl) ?_
 refine Lm rfl rfl rfl ?_
 refine L_cases (d := 30) rfl ?_ ?_
 ·intro g1; have g1' := g1; try simp only [td] at g1'
  refine L_yes rfl rfl rfl g1 (X_p (p_fieldo fo23_1 rfl rfl) ?_)
  refine L_yes rfl rfl rfl g1 (X_rd (rl ag3 rfl rfl rfl) ?_)
  refine L_yes rfl rfl rfl g1 (X_p (p_geq rfl rfl rfl) ?_)
  refine Lp rfl (p_pick_t rfl rfl g1 rfl) ?_
  refine L_then (kp [2, 3, 34] rfl) ?_
  refine V_cond rfl ?_ ?_
  ·intro c1; try simp only [td] at c1
   refine V_region rfl ?_
   refine Lp rfl (p_fieldo fo23_0 rfl rfl) ?_
   refine Ls (cs' := [_, _]) rfl sz3 rfl rfl rfl rfl rfl rfl rfl ?_
   refine L_then (kp [2, 3] rfl) ?_
   refine Vs rfl ?_
   refine Lr rfl (rlA (vs := [_, _]) ag23 sz23 rfl rfl rfl) ?_
   refine Ls (cs' := [_, _]) rfl sz23 rfl rfl rfl rfl rfl rfl rfl ?_
   refine L_then (kp [2] rfl) ?_
   refine V_ret ?_
   refine Leave.nil (.cellA (us := [_, _]) rfl ag23 sz23 (by repeat first | exact mH | apply mT) rfl .nil) ?_
   rw [sq_ref h.2.1]
   first | (rw [if_pos ⟨by omega, by omega⟩]; rfl) | (rw [if_neg (by omega)]; rfl)
  intro c1; try simp only [td] at c1
  refine V_skip (then_n ?_)
  refine Vs rfl ?_
  refine Lr rfl (rlA (vs := [_, _]) ag23 sz23 rfl rfl rfl) ?_
  refine Ls (cs' := [_, _]) rfl sz23 rfl rfl rfl rfl rfl rfl rfl ?_
  refine L_then (kp [2] rfl) ?_
  refine V_ret ?_
  refine Leave.nil (.cellA (us := [_, _]) rfl ag23 sz23 (by repeat first | exact mH | apply mT) rfl .nil) ?_
  rw [sq_ref h.2.1]
  first | (rw [if_pos ⟨by omega, by omega⟩]; rfl) | (rw [if_neg (by omega)]; rfl)
 intro g1; have g1' := g1; try simp only [td] at g1'
 iterate 3 refine L_no rfl rfl rfl g1 ?_
 refine Lp rfl (p_pick_f rfl rfl g1 rfl) ?_
 refine L_then (kp [2, 3, 34] rfl) ?_
 refine V_cond_f rfl rfl ?_
 refine V_skip (then_n ?_)
 refine Vs rfl ?_
 refine Lr rfl (rlA (vs := [_, _]) ag23 sz23 rfl rfl rfl) ?_
 refine Ls (cs' := [_, _]) rfl sz23 rfl rfl rfl rfl rfl rfl rfl ?_
 refine L_then (kp [2] rfl) ?_
 refine V_ret ?_
 refine Leave.nil (.cellA (us := [_, _]) rfl ag23 sz23 (by repeat first | exact mH | apply mT) rfl .nil) ?_
 rw [sq_ref h.2.1]
 first | (rw [if_pos ⟨by omega, by omega⟩]; rfl) | (rw [if_neg (by omega)]; rfl)
theorem rdown_c (a b : Int) (hb : 0 < b) (ha : -4611686018427387904 ≤ a ∧ a ≤ 4611686018427387903) (w : World) : FnP Tryz.prog 116 [.int .i64 a, .int .i64 b] w (.int .i64 (a / b)) := by
 have hf := floor_bnd (a := a) hb
 refine fn_pure Tryz.func116 rfl (by kernel_rfl) Tryz.ntmps116 Tryz.results116 rfl ?_
 refine Vs rfl ?_
 refine La rfl rfl rfl ?_
 refine L_then (kp [0, 1] rfl) ?_
 refine Vs rfl ?_
 iterate 2 refine Lm rfl rfl rfl ?_
 refine Lp rfl (p_quo' rfl rfl rfl (by first | decide | omega) (by unfold InI; omega)) ?_
 refine La rfl rfl rfl ?_
 refine L_then (kp [0, 1, 5] rfl) ?_
 refine V_seq ?_
 refine Vs rfl ?_
 iterate 2 refine Lm rfl rfl rfl ?_
 refine Lp rfl (p_rem rfl rfl rfl (by first | decide | omega)) ?_
 refine Lp rfl (p_lss rfl rfl rfl) ?_
 refine L_then (kp [5, 12] rfl) ?_
 refine V_cond rfl ?_ ?_
 ·intro c1; try simp only [td] at c1
  refine V_region rfl ?_
  refine Lm rfl rfl rfl ?_
  first | refine Lp rfl (p_sub' rfl rfl rfl (by unfold InI; omega)) ?_ | refine Lp rfl (p_sub rfl rfl rfl) ?_
  refine La rfl rfl rfl ?_
  refine L_then (kp [5] rfl) ?_
  refine Vs rfl ?_
  refine Lm rfl rfl rfl ?_
  refine La rfl rfl rfl ?_
  refine L_then (kp [4] rfl) ?_
  refine V_ret ?_
  refine Leave.nil (.tmp rfl .nil) ?_
  rw [← down_ref hb, if_pos (by omega)]; rfl
 intro c1; try simp only [td] at c1
 refine V_skip (then_n ?_)
 refine Vs rfl ?_
 refine Lm rfl rfl rfl ?_
 refine La rfl rfl rfl ?_
 refine L_then (kp [4] rfl) ?_
 refine V_ret ?_
 refine Leave.nil (.tmp rfl .nil) ?_
 rw [← down_ref hb, if_neg (by omega)]; rfl
theorem rdivide_c (s m : Span) (n : Int) {A : Int} (hs : SpB A s) (hA : A ≤ 4611686018427387903) (hm : 1 ≤ m.lo ∧ m.lo ≤ m.hi ∧ m.hi ≤ 100000) (hn : 1 ≤ n ∧ n ≤ 1000000000) (w : World) : FnP Tryz.prog 110 [.agg #[.int .i64 s.lo, .int .i64 s.hi], .agg #[.int .i64 m.lo, .int .i64 m.hi], .int .i64 n] w (.agg #[.int .i64 (divS s m n).lo, .int .i64 (divS s m n).hi]) := by
 obtain ⟨h1, h2, h3⟩ := hs
 have p1 := mul_bnd (show 0 ≤ m.lo ∧ m.lo ≤ 100000 by omega) (show 0 ≤ n ∧ n ≤ 1000000000 by omega)
 have p2 := mul_bnd (show 0 ≤ m.hi ∧ m.hi ≤ 100000 by omega) (show 0 ≤ n ∧ n ≤ 1000000000 by omega)
 have q1 : 0 < m.lo * n := Int.mul_pos (by omega) (by omega)
 have q2 : 0 < m.hi * n := Int.mul_pos (by omega) (by omega)
 have hdr := divS_ref (s := s) (m := m) (n := n) (by omega) ⟨by omega, by omega⟩
 have d1 := div_size (a := -s.hi) (b := m.lo * n) (by assumption)
 have d2 := div_size (a := -s.hi) (b := m.hi * n) (by assumption)
 refine fn_pure Tryz.func110 rfl (by kernel_rfl) Tryz.ntmps110 Tryz.results110 rfl ?_
 refine Vs rfl ?_
 refine Lw rfl (w_box rfl rfl) ?_
 rintro _ _ ⟨b1, hb1, rfl, rfl⟩
 refine Lw rfl (w_box rfl rfl) ?_
 rintro _ _ ⟨b2, hb2, rfl, rfl⟩
 refine Lw rfl (w_alloc zr23 rfl) ?_
 rintro _ _ ⟨b3, hb3, rfl, rfl⟩
 refine L_then (kp [2, 3, 4, 6] rfl) ?_
 refine V_seq (V_draw (.rd 0 (.rd 1 (.rd 2 (.rd 3 (.rd 4 (.rd 5 (.rd 6 (.rd 7 (.rd 8 (.rd 9 .done)))))))))) mixed (by kernel_rfl) rfl ?_)
 refine Dp rfl rfl (p_fieldo fo23_0 rfl rfl) ?_
 refine Dr rfl rfl (rl ag3 rfl rfl rfl) ?_
 refine Dm rfl rfl rfl rfl ?_
 refine Dp rfl rfl (p_mul' rfl rfl rfl (by unfold InI; omega)) ?_
 refine Dp rfl rfl (p_fieldo fo23_1 rfl rfl) ?_
 refine Dr rfl rfl (rl ag3 rfl rfl rfl) ?_
 refine Dm rfl rfl rfl rfl ?_
 refine Dp rfl rfl (p_mul' rfl rfl rfl (by unfold InI; omega)) ?_
 iterate 2 refine Dp rfl rfl (p_assign rfl rfl) ?_
 refine D_then (kp [3, 6, 7, 8] rfl) ?_
 refine V_seq (V_draw (.rd 0 (.rd 1 (.rd 2 (.rd 4 (.rd 5 (.rd 6 (.rd 9 (.rd 10 (.rd 11 (.rd 12 (.rd 15 (.rd 16 (.rd 17 (.rd 18 (.wr 3 [18, 17, 16, 15, 12, 11, 10, 9, 6, 5, 4, 0] (.wr 7 [18, 17, 16, 15, 12, 11, 10, 9, 4, 2, 1, 0] (.rd 8 (.wr 13 [18, 17, 16, 15, 10, 9, 8, 6, 5, 4, 2, 1, 0] (.rd 14 (.wr 19 [16, 15, 14, 12, 11, 10, 9, 8, 6, 5, 4, 2, 1, 0] (.rd 20 (.rd 21 (.rd 22 (.wr 23 [] .done)))))))))))))))))))))))) mixed (by kernel_rfl) rfl ?_)
 refine Dp rfl rfl (p_fieldo fo23_0 rfl rfl) ?_
 refine Dr rfl rfl (rl ag3 rfl rfl rfl) ?_
 refine Dm rfl rfl rfl rfl ?_
 refine Dp rfl rfl (p_fieldo fo23_0 rfl rfl) ?_
 refine Dr rfl rfl (rl ag3 rfl rfl rfl) ?_
 refine Dm rfl rfl rfl rfl ?_
 refine Dp rfl rfl (p_fieldo fo23_1 rfl rfl) ?_
 refine Dr rfl rfl (rl ag3 rfl rfl rfl) ?_
 first | refine Dp rfl rfl (p_neg' rfl rfl (by unfold InI; omega)) ?_ | refine Dp rfl rfl (p_neg rfl rfl) ?_
 refine Dm rfl rfl rfl rfl ?_
 refine Dp rfl rfl (p_fieldo fo23_1 rfl rfl) ?_
 refine Dr rfl rfl (rl ag3 rfl rfl rfl) ?_
 first | refine Dp rfl rfl (p_neg' rfl rfl (by unfold InI; omega)) ?_ | refine Dp rfl rfl (p_neg rfl rfl) ?_
 refine Dm rfl rfl rfl rfl ?_
 refine D_wr (.go (E' := [(16, _), (10, _), (5, _)]) rfl (.plain rfl) (w_callP rfl rfl rfl (fun w hg => rdown_c s.lo (m.lo * n) (by omega) (by omega) w)) rfl ?_)
 rintro _ _ ⟨rfl, rfl⟩
 refine ⟨(.cons rfl (.plain rfl) (rl ag3 rfl rfl rfl) (.cons rfl (.plain rfl) (rl ag3 rfl rfl rfl) (.cons rfl (.plain rfl) (rl ag3 rfl rfl rfl) .nil))), ?_⟩
 refine D_wr (.go (E' := [(16, _), (10, _)]) rfl (.plain rfl) (w_callP rfl rfl rfl (fun w hg => rdown_c s.lo (m.hi * n) (by omega) (by omega) w)) rfl ?_)
 rintro _ _ ⟨rfl, rfl⟩
 refine ⟨(.cons rfl (.plain rfl) (rl ag3 rfl rfl rfl) (.cons rfl (.plain rfl) (rl ag3 rfl rfl rfl) .nil)), ?_⟩
 refine Dp rfl rfl (p_min rfl rfl rfl) ?_
 refine D_wr (.go (E' := [(16, _), (10, _)]) rfl (.plain rfl) (w_callP rfl rfl rfl (fun w hg => rdown_c (-s.hi) (m.lo * n) (by omega) (by omega) w)) rfl ?_)
 rintro _ _ ⟨rfl, rfl⟩
 refine ⟨(.cons rfl (.plain rfl) (rl ag3 rfl rfl rfl) (.cons rfl (.plain rfl) (rl ag3 rfl rfl rfl) .nil)), ?_⟩
 first | refine Dp rfl rfl (p_neg' rfl rfl (by unfold InI; omega)) ?_ | refine Dp rfl rfl (p_neg rfl rfl) ?_
 refine D_wr (.go (E' := [(16, _), (10, _)]) rfl (.plain rfl) (w_callP rfl rfl rfl (fun w hg => rdown_c (-s.hi) (m.hi * n) (by omega) (by omega) w)) rfl ?_)
 rintro _ _ ⟨rfl, rfl⟩
 refine ⟨(.cons rfl (.plain rfl) (rl ag3 rfl rfl rfl) (.cons rfl (.plain rfl) (rl ag3 rfl rfl rfl) .nil)), ?_⟩
 first | refine Dp rfl rfl (p_neg' rfl rfl (by unfold InI; omega)) ?_ | refine Dp rfl rfl (p_neg rfl rfl) ?_
 refine Dp rfl rfl (p_max rfl rfl rfl) ?_
 refine Dp rfl rfl (p_build (r := [_, _]) pl23 zr23 rfl rfl rfl) ?_
 refine D_wr (.go (E' := []) rfl (.plain rfl) (ws (cs' := [_, _]) sz23 rfl rfl rfl rfl rfl rfl rfl) rfl ?_)
 rintro _ _ ⟨rfl, rfl⟩
 refine ⟨.nil, ?_⟩
 refine D_then (kp [6] rfl) ?_
 refine V_ret ?_
 refine Leave.nil (.cellA (us := [_, _]) rfl ag23 sz23 (by repeat first | exact mH | apply mT) rfl .nil) ?_
 rw [hdr]; rfl
theorem rroot_c (n : Int) (h0 : 0 ≤ n) (h1 : n ≤ 4611686018427387903) (w : World) : FnP Tryz.prog 108 [.int .i64 n] w (.int .i64 (rootI n)) := by
 refine fn_pure Tryz.func108 rfl (by kernel_rfl) Tryz.ntmps108 Tryz.results108 rfl ?_
 refine Vs rfl ?_
 refine La rfl rfl rfl ?_
 refine L_then (kp [0] rfl) ?_
 refine Vs rfl ?_
 iterate 2 refine La rfl rfl rfl ?_
 refine L_then (kp [0, 3, 4] rfl) ?_
 refine V_seq ?_
 refine V_block ?_
 refine V_loop0 (γ := Nat × Int × Int) (kp [0] rfl) (fun (k, lo, hi) => [(3, .int .i64 lo), (4, .int .i64 hi)]) (fun (k, lo, hi) => rootI n = rootB n k lo hi ∧ 0 ≤ lo ∧ lo < hi ∧ hi ≤ 4000000000 ∧ hi - lo ≤ 2 ^ k) (fun (k, lo, hi) => k) ((32, 0, 4000000000)) (.cons rfl (.cons rfl (.nil _))) (⟨rfl, by decide, by decide, by decide, by decide⟩) ?_
 rintro ⟨k, lo, hi⟩ hi
 obtain ⟨hr, hb1, hb2, hb3, hb4⟩ := hi
 dsimp only at hr hb1 hb2 hb3 hb4 ⊢
 refine V_seq ?_
 refine Vs rfl ?_
 iterate 2 refine Lm rfl rfl rfl ?_
 first | refine Lp rfl (p_sub' rfl rfl rfl (by unfold InI; omega)) ?_ | refine Lp rfl (p_sub rfl rfl rfl) ?_
 refine Lp rfl (p_gtr rfl rfl rfl) ?_
 refine L_then (kp [0, 3, 4, 9] rfl) ?_
 refine V_cond rfl ?_ ?_
 ·intro c1; try simp only [td] at c1
  have hm1 : (lo + hi).tdiv 2 = (lo + hi) / 2 := Int.tdiv_eq_ediv_of_nonneg (by omega)
  have hm0 : 0 < (lo + hi) / 2 := by omega
  have hq : n.tdiv ((lo + hi).tdiv 2) = n / ((lo + hi) / 2) := by rw [hm1]; exact Int.tdiv_eq_ediv_of_nonneg h0
  have hd1 := Int.ediv_nonneg h0 (show 0 ≤ (lo + hi) / 2 by omega)
  have hd2 := Int.ediv_le_self ((lo + hi) / 2) h0
  refine V_skip (then_n ?_)
  refine V_block ?_
  refine Vs rfl ?_
  iterate 2 refine Lm rfl rfl rfl ?_
  first | refine Lp rfl (p_add' rfl rfl rfl (by unfold InI; omega)) ?_ | refine Lp rfl (p_add rfl rfl rfl) ?_
  refine Lp rfl (p_quo' rfl rfl rfl (by first | decide | omega) (by unfold InI; omega)) ?_
  refine La rfl rfl rfl ?_
  refine L_then (kp [0, 3, 4, 5] rfl) ?_
  refine Vs rfl ?_
  iterate 3 refine Lm rfl rfl rfl ?_
  refine Lp rfl (p_quo' rfl rfl rfl (by first | decide | omega) (by rw [hq]; unfold InI; omega)) ?_
  refine Lp rfl (p_leq rfl rfl rfl) ?_
  refine L_then (kp [0, 3, 4, 5, 18] rfl) ?_
  refine V_cond rfl ?_ ?_
  ·intro c2; try simp only [td] at c2
   refine V_region rfl ?_
   refine Lm rfl rfl rfl ?_
   refine La rfl rfl rfl ?_
   refine L_keep (kp [0, 3, 4] rfl) (blk_n (then_n ?_))
   refine ⟨(k - 1, (lo + hi).tdiv 2, hi), ?_, ?_, (.cons rfl (.cons rfl (.cons rfl (.nil _)))), (by repeat (first | exact List.Sublist.refl _ | apply List.Sublist.cons_cons | apply List.Sublist.cons | apply List.sublist_append_of_sublist_right)), rfl⟩
   ·dsimp only
    rw [hm1]; exact rootB_up hr hb1 hb2 hb3 hb4 (by omega) (by rw [← hq, ← hm1]; omega)
   exact rootB_lt hb4 (by omega)
  intro c2; try simp only [td] at c2
  refine V_region rfl ?_
  refine Lm rfl rfl rfl ?_
  refine La rfl rfl rfl ?_
  refine L_keep (kp [0, 3, 4] rfl) (blk_n (then_n ?_))
  refine ⟨(k - 1, lo, (lo + hi).tdiv 2), ?_, ?_, (.cons rfl (.cons rfl (.cons rfl (.nil _)))), (by repeat (first | exact List.Sublist.refl _ | apply List.Sublist.cons_cons | apply List.Sublist.cons | apply List.sublist_append_of_sublist_right)), rfl⟩
  ·dsimp only
   rw [hm1]; exact rootB_dn hr hb1 hb2 hb3 hb4 (by omega) (by rw [← hq, ← hm1]; omega)
  exact rootB_lt hb4 (by omega)
 intro c1; try simp only [td] at c1
 refine V_exit (then_e (then_e (blk_e rfl (then_n ?_))))
 refine Vs rfl ?_
 refine Lm rfl rfl rfl ?_
 refine La rfl rfl rfl ?_
 refine L_then (kp [2] rfl) ?_
 refine V_ret ?_
 refine Leave.nil (.tmp rfl .nil) ?_
 rw [hr, rootB_end (by omega)]; rfl
theorem rroots_c (s : Span) (h : 0 ≤ s.lo ∧ s.lo ≤ s.hi ∧ s.hi ≤ 3121200000000) (w : World) : FnP Tryz.prog 88 [.agg #[.int .i64 s.lo, .int .i64 s.hi]] w (.agg #[.int .i64 (rootS s).lo, .int .i64 (rootS s).hi]) := by
 have r1 := root_bnd (n := s.hi) (B := 1766692) (by omega) (by omega) (by omega) (by omega)
 have r2 := mul_bnd r1 r1
 refine fn_pure Tryz.func88 rfl (by kernel_rfl) Tryz.ntmps88 Tryz.results88 rfl ?_
 refine Vs rfl ?_
 refine Lw rfl (w_box rfl rfl) ?_
 rintro _ _ ⟨b1, hb1, rfl, rfl⟩
 refine Lw rfl (w_alloc zr23 rfl) ?_
 rintro _ _ ⟨b2, hb2, rfl, rfl⟩
 refine L_then (kp [1, 2] rfl) ?_
 refine V_seq (V_draw (.rd 0 (.rd 1 (.rd 3 (.rd 4 (.wr 2 [4, 3, 0] (.wr 5 [3, 1, 0] (.rd 6 (.rd 7 .done)))))))) mixed (by kernel_rfl) rfl ?_)
 refine Dp rfl rfl (p_fieldo fo23_0 rfl rfl) ?_
 refine Dr rfl rfl (rl ag3 rfl rfl rfl) ?_
 refine Dp rfl rfl (p_fieldo fo23_1 rfl rfl) ?_
 refine Dr rfl rfl (rl ag3 rfl rfl rfl) ?_
 refine D_wr (.go (E' := [(4, _)]) rfl (.plain rfl) (w_callP rfl rfl rfl (fun w hg => rroot_c s.lo (by omega) (by omega) w)) rfl ?_)
 rintro _ _ ⟨rfl, rfl⟩
 refine ⟨(.cons rfl (.plain rfl) (rl ag3 rfl rfl rfl) .nil), ?_⟩
 refine D_wr (.go (E' := []) rfl (.plain rfl) (w_callP rfl rfl rfl (fun w hg => rroot_c s.hi (by omega) (by omega) w)) rfl ?_)
 rintro _ _ ⟨rfl, rfl⟩
 refine ⟨.nil, ?_⟩
 iterate 2 refine Dp rfl rfl (p_assign rfl rfl) ?_
 refine D_then (kp [1, 2, 3, 4] rfl) ?_
 refine V_seq ?_
 refine Vs rfl ?_
 iterate 2 refine Lm rfl rfl rfl ?_
 refine Lp rfl (p_mul' rfl rfl rfl (by unfold InI; omega)) ?_
 refine Lp rfl (p_fieldo fo23_1 rfl rfl) ?_
 refine Lr rfl (rl ag3 rfl rfl rfl) ?_
 refine Lp rfl (p_lss rfl rfl rfl) ?_
 refine L_then (kp [2, 3, 4, 16] rfl) ?_
 refine V_cond rfl ?_ ?_
 ·intro c1; try simp only [td] at c1
  refine V_region rfl ?_
  refine Lm rfl rfl rfl ?_
  first | refine Lp rfl (p_add' rfl rfl rfl (by unfold InI; omega)) ?_ | refine Lp rfl (p_add rfl rfl rfl) ?_
  refine La rfl rfl rfl ?_
  refine L_then (kp [2, 3, 4] rfl) ?_
  refine Vs rfl ?_
  iterate 2 refine Lm rfl rfl rfl ?_
  refine Lp rfl (p_build (r := [_, _]) pl23 zr23 rfl rfl rfl) ?_
  refine Ls (cs' := [_, _]) rfl sz23 rfl rfl rfl rfl rfl rfl rfl ?_
  refine L_then (kp [2] rfl) ?_
  refine V_ret ?_
  refine Leave.nil (.cellA (us := [_, _]) rfl ag23 sz23 (by repeat first | exact mH | apply mT) rfl .nil) ?_
  show Value.agg _ = _
  simp only [rootS, rootUp]
  first | rw [if_pos (by omega)] | rw [if_neg (by omega)]
 intro c1; try simp only [td] at c1
 refine V_skip (then_n ?_)
 refine Vs rfl ?_
 iterate 2 refine Lm rfl rfl rfl ?_
 refine Lp rfl (p_build (r := [_, _]) pl23 zr23 rfl rfl rfl) ?_
 refine Ls (cs' := [_, _]) rfl sz23 rfl rfl rfl rfl rfl rfl rfl ?_
 refine L_then (kp [2] rfl) ?_
 refine V_ret ?_
 refine Leave.nil (.cellA (us := [_, _]) rfl ag23 sz23 (by repeat first | exact mH | apply mT) rfl .nil) ?_
 show Value.agg _ = _
 simp only [rootS, rootUp]
 first | rw [if_pos (by omega)] | rw [if_neg (by omega)]
set_option maxHeartbeats 4000000 in
theorem rnow_c (tick : Int) (ht : 0 ≤ tick ∧ tick ≤ 1000000) (v : Veh) (x : Value) (hV0 : GoodV v) (w : World) (hv : VehR w x v) : FnP Tryz.prog 18 [x, .int .i64 tick] w (.agg (Phase.cells (nowT v tick)).toArray) := by
 have hV := hv
 obtain ⟨av, pv, qv, rfl, hsa, hsp, hsq⟩ := hv.ex
 obtain ⟨pa, pc, rfl, hpc, hpe⟩ := hsp.ex
 have h12 := oP_false.1 hV0.ph12
 obtain ⟨tb, rfl, hcl⟩ := hpe ((v.phases.length : Int) - 1).toNat _ (getD_cells (d := phZ) (by omega))
 simp only [List.length_map] at hpc hV ⊢
 refine fn_pure Tryz.func18 rfl (by kernel_rfl) Tryz.ntmps18 Tryz.results18 rfl ?_
 refine Vs rfl ?_
 refine Lw rfl (w_box rfl rfl) ?_
 rintro _ _ ⟨b1, hb1, rfl, rfl⟩
 refine Lw rfl (w_alloc zr66 rfl) ?_
 rintro _ _ ⟨b2, hb2, rfl, rfl⟩
 refine L_then (kp [1, 2, 4] rfl) ?_
 refine V_seq ?_
 refine Vs rfl ?_
 refine La rfl rfl rfl ?_
 refine L_then (kp [1, 2, 4, 5] rfl) ?_
 refine V_block ?_
 refine V_loop0 (γ := Int × Int) (kp [2, 4] rfl) (fun (k, t) => [(5, .int .i64 k), (1, .int .i64 t)]) (fun (k, t) => 0 ≤ k ∧ k ≤ v.phases.length ∧ (0 ≤ t ∧ t ≤ 1000000) ∧ phaseN v.phases tick = phaseN (v.phases.drop k.toNat) t) (fun (k, t) => (v.phases.length - k).toNat) ((0, tick)) (.cons rfl (.cons rfl (.nil _))) (⟨by omega, by omega, by omega, rfl⟩) ?_
 rintro ⟨k, t⟩ hi
 obtain ⟨hk0, hk1, htt, hph⟩ := hi
 dsimp only at hk0 hk1 htt hph ⊢
 refine V_seq ?_
 refine Vs rfl ?_
 refine Lm rfl rfl rfl ?_
 refine Lp rfl (p_fieldo fo28_3 rfl rfl) ?_
 refine Lr rfl (rl ag25 rfl rfl rfl) ?_
 refine Lp rfl (p_len isl25 rfl rfl) ?_
 refine Lp rfl (p_lss rfl rfl rfl) ?_
 refine L_then (kp [1, 2, 4, 5, 11] rfl) ?_
 refine V_cond rfl ?_ ?_
 ·intro c1; try simp only [td] at c1
  obtain ⟨tb9, etb, hc⟩ := hpe k.toNat _ (getD_cells (d := phZ) (by omega))
  injection etb with etb
  subst etb
  have hpk := (ph_zero (hV0.ph k.toNat (by omega))).1
  simp only [Veh.ph] at hpk
  refine V_skip (then_n ?_)
  refine V_seq ?_
  refine V_block ?_
  refine V_seq ?_
  refine Vs rfl ?_
  refine Lm rfl rfl rfl ?_
  refine Lp rfl (p_fieldo fo28_3 rfl rfl) ?_
  refine Lr rfl (rl ag25 rfl rfl rfl) ?_
  refine Lm rfl rfl rfl ?_
  refine Lp rfl (p_idx es25 rfl rfl rfl (by omega) (by omega)) ?_
  refine Lp rfl (p_field fo66_0 rfl rfl) ?_
  refine Lr rfl (r_loadB ag3 rfl rfl (hc 0 _ rfl) List.not_mem_nil) ?_
  refine Lp rfl (p_lss rfl rfl rfl) ?_
  refine L_then (kp [1, 2, 4, 5, 21] rfl) ?_
  refine V_cond rfl ?_ ?_
  ·intro c2; try simp only [td] at c2
   refine Vs rfl ?_
   refine Lp rfl (p_fieldo fo28_3 rfl rfl) ?_
   refine Lr rfl (rl ag25 rfl rfl rfl) ?_
   refine Lm rfl rfl rfl ?_
   refine Lp rfl (p_idx es25 rfl rfl rfl (by omega) (by omega)) ?_
   refine Lr rfl (r_loadBA ag66 sz66 rfl rfl hc rfl List.not_mem_nil) ?_
   refine Ls (cs' := [_, _, _, _, _, _, _, _, _, _, _, _, _]) rfl sz66 rfl rfl rfl rfl rfl rfl rfl ?_
   refine L_then (kp [4] rfl) ?_
   refine V_ret (then_r (blk_r (then_r (then_r (blk_r (then_r ?_))))))
   refine Leave.nil (.cellA (us := [_, _, _, _, _, _, _, _, _, _, _, _, _]) rfl ag66 sz66 (by repeat first | exact mH | apply mT) rfl .nil) ?_
   rw [now_hit (by omega) hph (by unfold Veh.ph; omega)]; rfl
  intro c2; try simp only [td] at c2
  refine V_skip (then_n ?_)
  refine V_region rfl ?_
  refine Lm rfl rfl rfl ?_
  refine Lp rfl (p_fieldo fo28_3 rfl rfl) ?_
  refine Lr rfl (rl ag25 rfl rfl rfl) ?_
  refine Lm rfl rfl rfl ?_
  refine Lp rfl (p_idx es25 rfl rfl rfl (by omega) (by omega)) ?_
  refine Lp rfl (p_field fo66_0 rfl rfl) ?_
  refine Lr rfl (r_loadB ag3 rfl rfl (hc 0 _ rfl) List.not_mem_nil) ?_
  first | refine Lp rfl (p_sub' rfl rfl rfl (by unfold InI; omega)) ?_ | refine Lp rfl (p_sub rfl rfl rfl) ?_
  refine La rfl rfl rfl ?_
  refine L_keep (kp [1, 2, 4, 5] rfl) (blk_n (then_n ?_))
  refine V_region rfl ?_
  refine Lm rfl rfl rfl ?_
  first | refine Lp rfl (p_add' rfl rfl rfl (by unfold InI; omega)) ?_ | refine Lp rfl (p_add rfl rfl rfl) ?_
  refine La rfl rfl rfl ?_
  refine L_keep (kp [1, 2, 4, 5] rfl) (then_n ?_)
  refine ⟨(k + 1, t - (v.phases.getD k.toNat phZ).ticks), ?_, ?_, (.cons rfl (.cons rfl (.cons rfl (.cons rfl (.nil _))))), (by repeat (first | exact List.nil_sublist _ | exact List.Sublist.refl _ | apply List.Sublist.cons_cons | apply List.Sublist.cons | apply List.sublist_append_of_sublist_right)), rfl⟩
  ·have ek : (k + 1).toNat = k.toNat + 1 := by omega
   refine ⟨by omega, by omega, by dsimp only; omega, ?_⟩
   rw [ek]; exact now_step (by omega) hph (by unfold Veh.ph; omega)
  dsimp only; omega
 intro c1; try simp only [td] at c1
 refine V_exit (then_e (then_e (blk_e rfl (then_n ?_))))
 refine Vs rfl ?_
 refine Lp rfl (p_fieldo fo28_3 rfl rfl) ?_
 refine Lr rfl (rl ag25 rfl rfl rfl) ?_
 refine Lp rfl (p_fieldo fo28_3 rfl rfl) ?_
 refine Lr rfl (rl ag25 rfl rfl rfl) ?_
 refine Lp rfl (p_len isl25 rfl rfl) ?_
 first | refine Lp rfl (p_sub' rfl rfl rfl (by unfold InI; omega)) ?_ | refine Lp rfl (p_sub rfl rfl rfl) ?_
 refine Lp rfl (p_idx es25 rfl rfl rfl (by omega) (by omega)) ?_
 refine Lr rfl (r_loadBA ag66 sz66 rfl rfl hcl rfl List.not_mem_nil) ?_
 refine Lw rfl (w_alloc zr66 rfl) ?_
 rintro _ _ ⟨b3, hb3, rfl, rfl⟩
 refine Ls (cs' := [_, _, _, _, _, _, _, _, _, _, _, _, _]) rfl sz66 rfl rfl rfl rfl rfl rfl rfl ?_
 refine L_then (kp [4, 6] rfl) ?_
 refine Vs rfl ?_
 refine Lp rfl (p_build (r := [_, _]) pl23 zr23 rfl rfl rfl) ?_
 refine Lp rfl (p_build (r := [_, _, _, _, _, _]) pl64 zr64 rfl rfl rfl) ?_
 refine Lp rfl (p_fieldo fo66_1 rfl rfl) ?_
 refine Ls (cs' := [_, _, _, _, _, _, _, _, _, _, _, _, _]) rfl sz23 rfl rfl rfl rfl rfl rfl rfl ?_
 refine Lp rfl (p_fieldo fo66_4 rfl rfl) ?_
 refine Ls (cs' := [_, _, _, _, _, _, _, _, _, _, _, _, _]) rfl sz64 rfl rfl rfl rfl rfl rfl rfl ?_
 refine L_then (kp [4, 6] rfl) ?_
 refine Vs rfl ?_
 refine Lr rfl (rlA (vs := [_, _, _, _, _, _, _, _, _, _, _, _, _]) ag66 sz66 rfl rfl rfl) ?_
 refine Ls (cs' := [_, _, _, _, _, _, _, _, _, _, _, _, _]) rfl sz66 rfl rfl rfl rfl rfl rfl rfl ?_
 refine L_then (kp [4] rfl) ?_
 refine V_ret ?_
 refine Leave.nil (.cellA (us := [_, _, _, _, _, _, _, _, _, _, _, _, _]) rfl ag66 sz66 (by repeat first | exact mH | apply mT) rfl .nil) ?_
 rw [now_end (by omega) hph, ← lastQ_eq]; rfl
theorem raxis_c (push drag mass : Span) (k : Int) (tilt u : Span) (hp : SpB 20000000 push) (hd : SpB 1766693000000 drag) (hm : 1 ≤ mass.lo ∧ mass.lo ≤ mass.hi ∧ mass.hi ≤ 100000) (hk : -10000 ≤ k ∧ k ≤ 10000) (ht : SpB 2000 tilt) (hu : SpB 1020000 u) (w : World) : FnP Tryz.prog 92 [.agg #[.int .i64 push.lo, .int .i64 push.hi], .agg #[.int .i64 drag.lo, .int .i64 drag.hi], .agg #[.int .i64 mass.lo, .int .i64 mass.hi], .int .i64 k, .agg #[.int .i64 tilt.lo, .int .i64 tilt.hi], .agg #[.int .i64 u.lo, .int .i64 u.hi]] w (.agg #[.int .i64 (axisS push drag mass k tilt u).lo, .int .i64 (axisS push drag mass k tilt u).hi]) := by
 have hq : SpB 12000 (Fl.addS (at1 k) tilt) := addS_bnd (A := 10000) (by unfold SpB at1; dsimp only; omega) ht
 have hq2 := mulS_bnd hp hq
 have hq3 := mulS_bnd hd hu
 obtain ⟨e1, e2, e3⟩ := divS_bnd (n := 10000) (m := mass) (by decide) ⟨hm.1, hm.2.1⟩ hq2
 obtain ⟨e4, e5, e6⟩ := divS_bnd2 (A := 1802026860) (n := 1000000000) (m := mass) (by decide) (by decide) ⟨hm.1, hm.2.1⟩ hq3
 refine fn_pure Tryz.func92 rfl (by kernel_rfl) Tryz.ntmps92 Tryz.results92 rfl ?_
 refine Vs rfl ?_
 refine Lw rfl (w_box rfl rfl) ?_
 rintro _ _ ⟨b1, hb1, rfl, rfl⟩
 refine Lw rfl (w_box rfl rfl) ?_
 rintro _ _ ⟨b2, hb2, rfl, rfl⟩
 refine Lw rfl (w_box rfl rfl) ?_
 rintro _ _ ⟨b3, hb3, rfl, rfl⟩
 refine Lw rfl (w_box rfl rfl) ?_
 rintro _ _ ⟨b4, hb4, rfl, rfl⟩
 refine Lw rfl (w_box rfl rfl) ?_
 rintro _ _ ⟨b5, hb5, rfl, rfl⟩
 refine Lw rfl (w_alloc zr23 rfl) ?_
 rintro _ _ ⟨b6, hb6, rfl, rfl⟩
 refine L_then (kp [3, 6, 7, 8, 10, 11, 12] rfl) ?_
 refine V_seq (V_draw (.rd 0 (.rd 1 (.rd 3 (.rd 6 (.rd 8 (.rd 9 (.rd 11 (.wr 2 [11, 9, 8, 6, 3, 0] (.wr 4 [11, 9, 8, 6, 1, 0] (.wr 5 [11, 9, 8, 6, 3, 1] (.wr 7 [11, 9, 8, 3, 1, 0] (.wr 10 [11, 6, 3, 1, 0] (.wr 12 [9, 8, 6, 3, 1, 0] (.wr 13 [11, 9, 8, 6, 3, 1, 0] (.wr 14 [] .done))))))))))))))) mixed (by kernel_rfl) rfl ?_)
 refine Dr rfl rfl (rlA (vs := [_, _]) ag23 sz23 rfl rfl rfl) ?_
 refine Dm rfl rfl rfl rfl ?_
 iterate 5 refine Dr rfl rfl (rlA (vs := [_, _]) ag23 sz23 rfl rfl rfl) ?_
 refine D_wr (.go (E' := [(11, _), (9, _), (8, _), (6, _), (3, _), (0, _)]) rfl (.plain rfl) (w_callP rfl rfl rfl (fun w hg => rone_c _ w)) rfl ?_)
 rintro _ _ ⟨rfl, rfl⟩
 refine ⟨(.cons rfl (.plain rfl) (rlA (vs := [_, _]) ag23 sz23 rfl rfl rfl) (.cons rfl (.plain rfl) (rlA (vs := [_, _]) ag23 sz23 rfl rfl rfl) (.cons rfl (.plain rfl) (rlA (vs := [_, _]) ag23 sz23 rfl rfl rfl) (.cons rfl (.plain rfl) (rlA (vs := [_, _]) ag23 sz23 rfl rfl rfl) (.cons rfl (.plain rfl) (rlA (vs := [_, _]) ag23 sz23 rfl rfl rfl) (.cons rfl (.plain rfl) (rlA (vs := [_, _]) ag23 sz23 rfl rfl rfl) .nil)))))), ?_⟩
 refine D_wr (.go (E' := [(11, _), (9, _), (8, _), (6, _), (0, _)]) rfl (.plain rfl) (w_callP rfl rfl rfl (fun w hg => radd_c (at1 k) tilt (by obtain ⟨t1, t2, t3⟩ := ht; dsimp only [at1]; omega) w)) rfl ?_)
 rintro _ _ ⟨rfl, rfl⟩
 refine ⟨(.cons rfl (.plain rfl) (rlA (vs := [_, _]) ag23 sz23 rfl rfl rfl) (.cons rfl (.plain rfl) (rlA (vs := [_, _]) ag23 sz23 rfl rfl rfl) (.cons rfl (.plain rfl) (rlA (vs := [_, _]) ag23 sz23 rfl rfl rfl) (.cons rfl (.plain rfl) (rlA (vs := [_, _]) ag23 sz23 rfl rfl rfl) (.cons rfl (.plain rfl) (rlA (vs := [_, _]) ag23 sz23 rfl rfl rfl) .nil))))), ?_⟩
 refine D_wr (.go (E' := [(11, _), (9, _), (8, _), (6, _)]) rfl (.plain rfl) (w_callP rfl rfl rfl (fun w hg => rmul_c push (Fl.addS (at1 k) tilt) hp hq (by decide) w)) rfl ?_)
 rintro _ _ ⟨rfl, rfl⟩
 refine ⟨(.cons rfl (.plain rfl) (rlA (vs := [_, _]) ag23 sz23 rfl rfl rfl) (.cons rfl (.plain rfl) (rlA (vs := [_, _]) ag23 sz23 rfl rfl rfl) (.cons rfl (.plain rfl) (rlA (vs := [_, _]) ag23 sz23 rfl rfl rfl) (.cons rfl (.plain rfl) (rlA (vs := [_, _]) ag23 sz23 rfl rfl rfl) .nil)))), ?_⟩
 refine D_wr (.go (E' := [(11, _), (9, _), (8, _)]) rfl (.plain rfl) (w_callP rfl rfl rfl (fun w hg => rdivide_c (Fl.mulS push (Fl.addS (at1 k) tilt)) mass 10000 hq2 (by decide) hm (by decide) w)) rfl ?_)
 rintro _ _ ⟨rfl, rfl⟩
 refine ⟨(.cons rfl (.plain rfl) (rlA (vs := [_, _]) ag23 sz23 rfl rfl rfl) (.cons rfl (.plain rfl) (rlA (vs := [_, _]) ag23 sz23 rfl rfl rfl) (.cons rfl (.plain rfl) (rlA (vs := [_, _]) ag23 sz23 rfl rfl rfl) .nil))), ?_⟩
 refine D_wr (.go (E' := [(11, _)]) rfl (.plain rfl) (w_callP rfl rfl rfl (fun w hg => rmul_c drag u hd hu (by decide) w)) rfl ?_)
 rintro _ _ ⟨rfl, rfl⟩
 refine ⟨(.cons rfl (.plain rfl) (rlA (vs := [_, _]) ag23 sz23 rfl rfl rfl) .nil), ?_⟩
 refine D_wr (.go (E' := []) rfl (.plain rfl) (w_callP rfl rfl rfl (fun w hg => rdivide_c (Fl.mulS drag u) mass 1000000000 hq3 (by decide) hm (by decide) w)) rfl ?_)
 rintro _ _ ⟨rfl, rfl⟩
 refine ⟨.nil, ?_⟩
 refine D_wr (.go (E' := []) rfl (.plain rfl) (w_callP rfl rfl rfl (fun w hg => rsub_c (divS (Fl.mulS push (Fl.addS (at1 k) tilt)) mass 10000) (divS (Fl.mulS drag u) mass 1000000000) (by omega) w)) rfl ?_)
 rintro _ _ ⟨rfl, rfl⟩
 refine ⟨.nil, ?_⟩
 refine D_wr (.go (E' := []) rfl (.plain rfl) (ws (cs' := [_, _]) sz23 rfl rfl rfl rfl rfl rfl rfl) rfl ?_)
 rintro _ _ ⟨rfl, rfl⟩
 refine ⟨.nil, ?_⟩
 refine D_then (kp [12] rfl) ?_
 refine V_ret ?_
 refine Leave.nil (.cellA (us := [_, _]) rfl ag23 sz23 (by repeat first | exact mH | apply mT) rfl .nil) ?_
 rfl
set_option maxHeartbeats 4000000 in
theorem rfar_c (s : St) (w : World) : FnP Tryz.prog 53 [.agg #[.int .i64 s.p.x.lo, .int .i64 s.p.x.hi, .int .i64 s.p.y.lo, .int .i64 s.p.y.hi, .int .i64 s.p.z.lo, .int .i64 s.p.z.hi, .int .i64 s.v.x.lo, .int .i64 s.v.x.hi, .int .i64 s.v.y.lo, .int .i64 s.v.y.hi, .int .i64 s.v.z.lo, .int .i64 s.v.z.hi]] w (.bool (farS s)) := by
 refine fn_pure Tryz.func53 rfl (by kernel_rfl) Tryz.ntmps53 Tryz.results53 rfl ?_
 refine Vs rfl ?_
 refine Lw rfl (w_box rfl rfl) ?_
 rintro _ _ ⟨b1, hb1, rfl, rfl⟩
 refine La rfl rfl rfl ?_
 refine L_then (kp [1] rfl) ?_
 refine Vs rfl ?_
 refine Lp rfl (p_fieldo fo82_0 rfl rfl) ?_
 refine Lr rfl (rlA (vs := [_, _]) ag23 sz23 rfl rfl rfl) ?_
 refine Lc rfl rfl rfl rfl (fun w hg => rwithin_c s.p.x _ _ w) ?_
 refine Lp rfl (p_not rfl rfl) ?_
 refine Lm rfl rfl rfl ?_
 refine L_cases (d := 7) rfl ?_ ?_
 ·intro g1; have g1' := g1; try simp only [td] at g1'
  iterate 4 refine L_no rfl rfl rfl g1 ?_
  refine Lp rfl (p_pick_t rfl rfl g1 rfl) ?_
  refine Lm rfl rfl rfl ?_
  iterate 4 refine L_no rfl rfl rfl rfl ?_
  refine Lp rfl (p_pick_t rfl rfl rfl rfl) ?_
  refine Lm rfl rfl rfl ?_
  iterate 4 refine L_no rfl rfl rfl rfl ?_
  refine Lp rfl (p_pick_t rfl rfl rfl rfl) ?_
  refine Lm rfl rfl rfl ?_
  iterate 4 refine L_no rfl rfl rfl rfl ?_
  refine Lp rfl (p_pick_t rfl rfl rfl rfl) ?_
  refine Lm rfl rfl rfl ?_
  iterate 4 refine L_no rfl rfl rfl rfl ?_
  refine Lp rfl (p_pick_t rfl rfl rfl rfl) ?_
  refine La rfl rfl rfl ?_
  refine L_then (kp [2] rfl) ?_
  refine V_ret ?_
  refine Leave.nil (.tmp rfl .nil) ?_
  show Value.bool _ = _
  unfold farS wideA
  simp_all
 intro g1; have g1' := g1; try simp only [td] at g1'
 refine L_yes rfl rfl rfl g1 (X_p (p_fieldo fo82_1 rfl rfl) ?_)
 refine L_yes rfl rfl rfl g1 (X_rd (rlA (vs := [_, _]) ag23 sz23 rfl rfl rfl) ?_)
 refine L_yes rfl rfl rfl g1 (X_wr (w_callP rfl rfl rfl (fun w hg => rwithin_c s.p.y _ _ w)) ?_)
 rintro _ _ ⟨rfl, rfl⟩
 refine L_yes rfl rfl rfl g1 (X_p (p_not rfl rfl) ?_)
 refine Lp rfl (p_pick_f rfl rfl g1 rfl) ?_
 refine Lm rfl rfl rfl ?_
 refine L_cases (d := 13) rfl ?_ ?_
 ·intro g2; have g2' := g2; try simp only [td] at g2'
  iterate 4 refine L_no rfl rfl rfl g2 ?_
  refine Lp rfl (p_pick_t rfl rfl g2 rfl) ?_
  refine Lm rfl rfl rfl ?_
  iterate 4 refine L_no rfl rfl rfl rfl ?_
  refine Lp rfl (p_pick_t rfl rfl rfl rfl) ?_
  refine Lm rfl rfl rfl ?_
  iterate 4 refine L_no rfl rfl rfl rfl ?_
  refine Lp rfl (p_pick_t rfl rfl rfl rfl) ?_
  refine Lm rfl rfl rfl ?_
  iterate 4 refine L_no rfl rfl rfl rfl ?_
  refine Lp rfl (p_pick_t rfl rfl rfl rfl) ?_
  refine La rfl rfl rfl ?_
  refine L_then (kp [2] rfl) ?_
  refine V_ret ?_
  refine Leave.nil (.tmp rfl .nil) ?_
  show Value.bool _ = _
  unfold farS wideA
  simp_all
 intro g2; have g2' := g2; try simp only [td] at g2'
 refine L_yes rfl rfl rfl g2 (X_p (p_fieldo fo82_2 rfl rfl) ?_)
 refine L_yes rfl rfl rfl g2 (X_rd (rlA (vs := [_, _]) ag23 sz23 rfl rfl rfl) ?_)
 refine L_yes rfl rfl rfl g2 (X_wr (w_callP rfl rfl rfl (fun w hg => rwithin_c s.p.z _ _ w)) ?_)
 rintro _ _ ⟨rfl, rfl⟩
 refine L_yes rfl rfl rfl g2 (X_p (p_not rfl rfl) ?_)
 refine Lp rfl (p_pick_f rfl rfl g2 rfl) ?_
 refine Lm rfl rfl rfl ?_
 refine L_cases (d := 19) rfl ?_ ?_
 ·intro g3; have g3' := g3; try simp only [td] at g3'
  iterate 4 refine L_no rfl rfl rfl g3 ?_
  refine Lp rfl (p_pick_t rfl rfl g3 rfl) ?_
  refine Lm rfl rfl rfl ?_
  iterate 4 refine L_no rfl rfl rfl rfl ?_
  refine Lp rfl (p_pick_t rfl rfl rfl rfl) ?_
  refine Lm rfl rfl rfl ?_
  iterate 4 refine L_no rfl rfl rfl rfl ?_
  refine Lp rfl (p_pick_t rfl rfl rfl rfl) ?_
  refine La rfl rfl rfl ?_
  refine L_then (kp [2] rfl) ?_
  refine V_ret ?_
  refine Leave.nil (.tmp rfl .nil) ?_
  show Value.bool _ = _
  unfold farS wideA
  simp_all
 intro g3; have g3' := g3; try simp only [td] at g3'
 refine L_yes rfl rfl rfl g3 (X_p (p_fieldo fo82_3 rfl rfl) ?_)
 refine L_yes rfl rfl rfl g3 (X_rd (rlA (vs := [_, _]) ag23 sz23 rfl rfl rfl) ?_)
 refine L_yes rfl rfl rfl g3 (X_wr (w_callP rfl rfl rfl (fun w hg => rwithin_c s.v.x _ _ w)) ?_)
 rintro _ _ ⟨rfl, rfl⟩
 refine L_yes rfl rfl rfl g3 (X_p (p_not rfl rfl) ?_)
 refine Lp rfl (p_pick_f rfl rfl g3 rfl) ?_
 refine Lm rfl rfl rfl ?_
 refine L_cases (d := 25) rfl ?_ ?_
 ·intro g4; have g4' := g4; try simp only [td] at g4'
  iterate 4 refine L_no rfl rfl rfl g4 ?_
  refine Lp rfl (p_pick_t rfl rfl g4 rfl) ?_
  refine Lm rfl rfl rfl ?_
  iterate 4 refine L_no rfl rfl rfl rfl ?_
  refine Lp rfl (p_pick_t rfl rfl rfl rfl) ?_
  refine La rfl rfl rfl ?_
  refine L_then (kp [2] rfl) ?_
  refine V_ret ?_
  refine Leave.nil (.tmp rfl .nil) ?_
  show Value.bool _ = _
  unfold farS wideA
  simp_all
 intro g4; have g4' := g4; try simp only [td] at g4'
 refine L_yes rfl rfl rfl g4 (X_p (p_fieldo fo82_4 rfl rfl) ?_)
 refine L_yes rfl rfl rfl g4 (X_rd (rlA (vs := [_, _]) ag23 sz23 rfl rfl rfl) ?_)
 refine L_yes rfl rfl rfl g4 (X_wr (w_callP rfl rfl rfl (fun w hg => rwithin_c s.v.y _ _ w)) ?_)
 rintro _ _ ⟨rfl, rfl⟩
 refine L_yes rfl rfl rfl g4 (X_p (p_not rfl rfl) ?_)
 refine Lp rfl (p_pick_f rfl rfl g4 rfl) ?_
 refine Lm rfl rfl rfl ?_
 refine L_cases (d := 31) rfl ?_ ?_
 ·intro g5; have g5' := g5; try simp only [td] at g5'
  iterate 4 refine L_no rfl rfl rfl g5 ?_
  refine Lp rfl (p_pick_t rfl rfl g5 rfl) ?_
  refine La rfl rfl rfl ?_
  refine L_then (kp [2] rfl) ?_
  refine V_ret ?_
  refine Leave.nil (.tmp rfl .nil) ?_
  show Value.bool _ = _
  unfold farS wideA
  simp_all
 intro g5; have g5' := g5; try simp only [td] at g5'
 refine L_yes rfl rfl rfl g5 (X_p (p_fieldo fo82_5 rfl rfl) ?_)
 refine L_yes rfl rfl rfl g5 (X_rd (rlA (vs := [_, _]) ag23 sz23 rfl rfl rfl) ?_)
 refine L_yes rfl rfl rfl g5 (X_wr (w_callP rfl rfl rfl (fun w hg => rwithin_c s.v.z _ _ w)) ?_)
 rintro _ _ ⟨rfl, rfl⟩
 refine L_yes rfl rfl rfl g5 (X_p (p_not rfl rfl) ?_)
 refine Lp rfl (p_pick_f rfl rfl g5 rfl) ?_
 refine La rfl rfl rfl ?_
 refine L_then (kp [2] rfl) ?_
 refine V_ret ?_
 refine Leave.nil (.tmp rfl .nil) ?_
 show Value.bool _ = _
 unfold farS wideA
 simp_all
end Go.Proofs.YtbncegfgjbdheabGreat


set_option linter.all false
namespace Go.Proofs.YtbncegfgjbdheabGreat
open Go.Vc Go.Tk Go.Fl
set_option maxRecDepth 100000
set_option maxHeartbeats 8000000 in
theorem rforce_c (d : Dir) (l : List Fl.Band) (bv : Value) (p : Phase) (s : St) (v : Veh) (x : Value) (w : World) (hv : VehR w x v) (hV0 : GoodV v) (hd : dirE d = 0) (hB : GoodB l) (hp : PhB p) (hs : farS s = false) (hl : BdsR w bv l) : FnP Tryz.prog 55 [x, .agg #[.int .i64 d.x, .int .i64 d.y, .int .i64 d.z], bv, .agg (Phase.cells p).toArray, .agg #[.int .i64 s.p.x.lo, .int .i64 s.p.x.hi, .int .i64 s.p.y.lo, .int .i64 s.p.y.hi, .int .i64 s.p.z.lo, .int .i64 s.p.z.hi, .int .i64 s.v.x.lo, .int .i64 s.v.x.hi, .int .i64 s.v.y.lo, .int .i64 s.v.y.hi, .int .i64 s.v.z.lo, .int .i64 s.v.z.hi]] w (.agg #[.int .i64 (forceT v d l p s).x.lo, .int .i64 (forceT v d l p s).x.hi, .int .i64 (forceT v d l p s).y.lo, .int .i64 (forceT v d l p s).y.hi, .int .i64 (forceT v d l p s).z.lo, .int .i64 (forceT v d l p s).z.hi]) := by
 have hV := hv
 obtain ⟨av, pv, qv, rfl, hsa, hsp, hsq⟩ := hv.ex
 obtain ⟨⟨⟨p1, p2, p3⟩, ⟨p4, p5, p6⟩, ⟨p7, p8, p9⟩⟩, hsv⟩ := far_false.1 hs
 have hrel := rel_bnd hB hsv
 obtain ⟨⟨v1, v2, v3⟩, ⟨v4, v5, v6⟩, ⟨v7, v8, v9⟩⟩ := hsv
 have hsz : SpB 1020000 s.v.z := by unfold SpB; omega
 obtain ⟨⟨w1, w2, w3⟩, ⟨w4, w5, w6⟩, hwz⟩ := winds_bnd hB s.p.z
 have hq1 := sqS_bnd hrel.1
 have hq2 := sqS_bnd hrel.2.1
 have hq3 := sqS_bnd hsz
 have hspd := speed_bnd hrel
 have hai0 := air_bnd hV0 s.p.z
 have hpd := hp.drag
 have hdg : SpB 1000 p.drag := by unfold SpB; omega
 have hai : SpB 1000 (airT v s.p.z) := by unfold SpB; omega
 have hsp2 : SpB 1766693 (speedS (relA l s)) := by unfold SpB; omega
 have hdr2 := (drag_bnd hV0 hp.drag (s := s) hrel).2
 have hpu := push_bnd hp
 obtain ⟨d1, d2, d3⟩ := dir_bnd hd
 have hmm := hp.mass
 have az := axis_bnd hpu hdr2 (show 1 ≤ p.mass.lo ∧ p.mass.lo ≤ p.mass.hi by omega) (show -10000 ≤ d.z ∧ d.z ≤ 10000 by omega) hp.tz hsz
 obtain ⟨z1, z2, z3⟩ := az.all
 have hgv := beyond_false.1 hV0.grav
 refine fn_pure Tryz.func55 rfl (by kernel_rfl) Tryz.ntmps55 Tryz.results55 rfl ?_
 refine Vs rfl ?_
 refine Lw rfl (w_box rfl rfl) ?_
 rintro _ _ ⟨b1, hb1, rfl, rfl⟩
 refine Lw rfl (w_box rfl rfl) ?_
 rintro _ _ ⟨b2, hb2, rfl, rfl⟩
 refine Lw rfl (w_box rfl rfl) ?_
 rintro _ _ ⟨b3, hb3, rfl, rfl⟩
 refine Lw rfl (w_box rfl rfl) ?_
 rintro _ _ ⟨b4, hb4, rfl, rfl⟩
 refine Lw rfl (w_alloc zr77 rfl) ?_
 rintro _ _ ⟨b5, hb5, rfl, rfl⟩
 refine L_then (kp [2, 5, 6, 8, 9, 10] rfl) ?_
 refine V_mid (γ := Nat) (kp [2, 5, 6, 8, 9, 10] rfl) (fun x11 => [(11, .pointer (some ⟨x11, 0, none⟩))]) (fun x11 => (x11, Obj.cells #[.int .i64 (pushS p).lo, .int .i64 (pushS p).hi] 23) :: (b5, Obj.cells #[.int .i64 0, .int .i64 0, .int .i64 0, .int .i64 0, .int .i64 0, .int .i64 0] 77) :: (b4, Obj.cells #[.int .i64 s.p.x.lo, .int .i64 s.p.x.hi, .int .i64 s.p.y.lo, .int .i64 s.p.y.hi, .int .i64 s.p.z.lo, .int .i64 s.p.z.hi, .int .i64 s.v.x.lo, .int .i64 s.v.x.hi, .int .i64 s.v.y.lo, .int .i64 s.v.y.hi, .int .i64 s.v.z.lo, .int .i64 s.v.z.hi] 82) :: (b3, Obj.cells (Phase.cells p).toArray 66) :: (b2, Obj.cells #[.int .i64 d.x, .int .i64 d.y, .int .i64 d.z] 30) :: [(b1, Obj.cells #[.string v.name, .int .i64 v.gravity.lo, .int .i64 v.gravity.hi, av, pv, qv] 28)]) (fun x11 => True) ?_ ?_
 ·refine V_draw (.rd 0 (.rd 1 (.wr2 2 [1, 0] (.wr2 3 [0] (.wr 4 [1, 0] (.wr 5 [] .done)) 4 [1, 0] (.wr 3 [0] (.wr 5 [] .done))) 4 [1, 0] (.wr 2 [1, 0] (.wr 3 [0] (.wr 5 [] .done)))))) mixed (by kernel_rfl) rfl ?_
  refine Dp rfl rfl (p_fieldo fo66_1 rfl rfl) ?_
  refine Dr rfl rfl (rlA (vs := [_, _]) ag23 sz23 rfl rfl rfl) ?_
  refine D_wr2 rfl ?_ ?_
  ·refine (.go (E' := [(1, _)]) rfl (.plain rfl) (w_callP rfl rfl rfl (fun w hg => rone_c _ w)) rfl ?_)
   rintro _ _ ⟨rfl, rfl⟩
   refine ⟨(.cons rfl (.plain rfl) (rlA (vs := [_, _]) ag23 sz23 rfl rfl rfl) .nil), ?_⟩
   refine D_wr2 rfl ?_ ?_
   ·refine (.go (E' := []) rfl (.plain rfl) (w_callP rfl rfl rfl (fun w hg => rmul_c p.thrust (at1 10) (A := 2000000) (B := 10) (by have := hp.thrust; unfold SpB; omega) (by unfold SpB at1; decide) (by decide) w)) rfl ?_)
    rintro _ _ ⟨rfl, rfl⟩
    refine ⟨.nil, ?_⟩
    refine D_wr (.go (E' := []) rfl (.plain rfl) (w_alloc zr23 rfl) rfl ?_)
    rintro _ _ ⟨b6, hb6, rfl, rfl⟩
    refine ⟨.nil, ?_⟩
    refine D_wr (.go (E' := []) rfl (.plain rfl) (ws (cs' := [_, _]) sz23 rfl rfl rfl rfl rfl rfl rfl) rfl ?_)
    rintro _ _ ⟨rfl, rfl⟩
    refine ⟨.nil, ?_⟩
    refine D_then (kp [2, 5, 6, 8, 9, 10, 11] rfl) ?_
    refine ⟨b6, trivial, (.cons rfl (.cons rfl (.cons rfl (.cons rfl (.cons rfl (.cons rfl (.cons rfl (.nil _)))))))), (by (try dsimp only); repeat (first | exact HSub.nil _ | refine HSub.take (by repeat first | exact Take.head | apply Take.tail) ?_ | exact HSub.refl _ | refine HSub.drop ?_ | refine HSub.app ?_)), rfl⟩
   refine (.go (E' := [(1, _)]) rfl (.plain rfl) (w_alloc zr23 rfl) rfl ?_)
   rintro _ _ ⟨b6, hb6, rfl, rfl⟩
   refine ⟨(.cons rfl (.plain rfl) (rlA (vs := [_, _]) ag23 sz23 rfl rfl rfl) .nil), ?_⟩
   refine D_wr (.go (E' := []) rfl (.plain rfl) (w_callP rfl rfl rfl (fun w hg => rmul_c p.thrust (at1 10) (A := 2000000) (B := 10) (by have := hp.thrust; unfold SpB; omega) (by unfold SpB at1; decide) (by decide) w)) rfl ?_)
   rintro _ _ ⟨rfl, rfl⟩
   refine ⟨.nil, ?_⟩
   refine D_wr (.go (E' := []) rfl (.plain rfl) (ws (cs' := [_, _]) sz23 rfl rfl rfl rfl rfl rfl rfl) rfl ?_)
   rintro _ _ ⟨rfl, rfl⟩
   refine ⟨.nil, ?_⟩
   refine D_then (kp [2, 5, 6, 8, 9, 10, 11] rfl) ?_
   refine ⟨b6, trivial, (.cons rfl (.cons rfl (.cons rfl (.cons rfl (.cons rfl (.cons rfl (.cons rfl (.nil _)))))))), (by (try dsimp only); repeat (first | exact HSub.nil _ | refine HSub.take (by repeat first | exact Take.head | apply Take.tail) ?_ | exact HSub.refl _ | refine HSub.drop ?_ | refine HSub.app ?_)), rfl⟩
  refine (.go (E' := [(1, _)]) rfl (.plain rfl) (w_alloc zr23 rfl) rfl ?_)
  rintro _ _ ⟨b6, hb6, rfl, rfl⟩
  refine ⟨(.cons rfl (.plain rfl) (rlA (vs := [_, _]) ag23 sz23 rfl rfl rfl) .nil), ?_⟩
  refine D_wr (.go (E' := [(1, _)]) rfl (.plain rfl) (w_callP rfl rfl rfl (fun w hg => rone_c _ w)) rfl ?_)
  rintro _ _ ⟨rfl, rfl⟩
  refine ⟨(.cons rfl (.plain rfl) (rlA (vs := [_, _]) ag23 sz23 rfl rfl rfl) .nil), ?_⟩
  refine D_wr (.go (E' := []) rfl (.plain rfl) (w_callP rfl rfl rfl (fun w hg => rmul_c p.thrust (at1 10) (A := 2000000) (B := 10) (by have := hp.thrust; unfold SpB; omega) (by unfold SpB at1; decide) (by decide) w)) rfl ?_)
  rintro _ _ ⟨rfl, rfl⟩
  refine ⟨.nil, ?_⟩
  refine D_wr (.go (E' := []) rfl (.plain rfl) (ws (cs' := [_, _]) sz23 rfl rfl rfl rfl rfl rfl rfl) rfl ?_)
  rintro _ _ ⟨rfl, rfl⟩
  refine ⟨.nil, ?_⟩
  refine D_then (kp [2, 5, 6, 8, 9, 10, 11] rfl) ?_
  refine ⟨b6, trivial, (.cons rfl (.cons rfl (.cons rfl (.cons rfl (.cons rfl (.cons rfl (.cons rfl (.nil _)))))))), (by (try dsimp only); repeat (first | exact HSub.nil _ | refine HSub.take (by repeat first | exact Take.head | apply Take.tail) ?_ | exact HSub.refl _ | refine HSub.drop ?_ | refine HSub.app ?_)), rfl⟩
 rintro x11 _
 refine Vs rfl ?_
 refine Lm rfl rfl rfl ?_
 refine Lp rfl (p_fieldo fo82_2 rfl rfl) ?_
 refine Lr rfl (rlA (vs := [_, _]) ag23 sz23 rfl rfl rfl) ?_
 refine Lc rfl rfl rfl rfl (fun w hg => rwinds_c s.p.z l _ w hB (hl.good hg)) ?_
 refine Lw rfl (w_alloc zr88 rfl) ?_
 rintro _ _ ⟨b6, hb6, rfl, rfl⟩
 refine Ls (cs' := [_, _, _, _]) rfl sz88 rfl rfl rfl rfl rfl rfl rfl ?_
 refine L_then (kp [5, 6, 8, 9, 10, 11, 12] rfl) ?_
 refine V_mid (γ := Nat × Nat × Nat) (kp [5, 6, 8, 9, 10, 11] rfl) (fun (x13, x14, x15) => [(13, .pointer (some ⟨x13, 0, none⟩)), (14, .pointer (some ⟨x14, 0, none⟩)), (15, .pointer (some ⟨x15, 0, none⟩))]) (fun (x13, x14, x15) => (x13, Obj.cells #[.int .i64 (relA l s).x.lo, .int .i64 (relA l s).x.hi] 23) :: (x14, Obj.cells #[.int .i64 (relA l s).y.lo, .int .i64 (relA l s).y.hi] 23) :: (x15, Obj.cells #[.int .i64 s.v.z.lo, .int .i64 s.v.z.hi] 23) :: (b6, Obj.cells #[.int .i64 (windsT l s.p.z).x.lo, .int .i64 (windsT l s.p.z).x.hi, .int .i64 (windsT l s.p.z).y.lo, .int .i64 (windsT l s.p.z).y.hi] 88) :: (x11, Obj.cells #[.int .i64 (pushS p).lo, .int .i64 (pushS p).hi] 23) :: (b5, Obj.cells #[.int .i64 0, .int .i64 0, .int .i64 0, .int .i64 0, .int .i64 0, .int .i64 0] 77) :: (b4, Obj.cells #[.int .i64 s.p.x.lo, .int .i64 s.p.x.hi, .int .i64 s.p.y.lo, .int .i64 s.p.y.hi, .int .i64 s.p.z.lo, .int .i64 s.p.z.hi, .int .i64 s.v.x.lo, .int .i64 s.v.x.hi, .int .i64 s.v.y.lo, .int .i64 s.v.y.hi, .int .i64 s.v.z.lo, .int .i64 s.v.z.hi] 82) :: (b3, Obj.cells (Phase.cells p).toArray 66) :: (b2, Obj.cells #[.int .i64 d.x, .int .i64 d.y, .int .i64 d.z] 30) :: [(b1, Obj.cells #[.string v.name, .int .i64 v.gravity.lo, .int .i64 v.gravity.hi, av, pv, qv] 28)]) (fun (x13, x14, x15) => True) ?_ ?_
 ·refine V_draw (.rd 0 (.rd 1 (.rd 2 (.rd 3 (.rd 5 (.rd 6 (.rd 7 (.rd 8 (.rd 10 (.rd 11 (.wr4 4 [11, 10, 8, 7, 6, 5, 2, 0] (.wr4 9 [11, 10, 7, 5, 3, 2, 1, 0] (.wr3 12 [11, 10, 8, 7, 6, 5, 3, 2, 1, 0] (.wr2 13 [11, 10, 8, 7, 6, 5, 3, 2, 1, 0] (.wr 14 [11, 10, 8, 7, 6, 5, 3, 2, 1, 0] (.wr 15 [11, 10, 8, 7, 6, 5] (.wr 16 [11, 10] (.wr 17 [] .done)))) 14 [11, 10, 8, 7, 6, 5, 3, 2, 1, 0] (.wr 13 [11, 10, 8, 7, 6, 5, 3, 2, 1, 0] (.wr 15 [11, 10, 8, 7, 6, 5] (.wr 16 [11, 10] (.wr 17 [] .done))))) 13 [11, 10, 8, 7, 6, 5, 3, 2, 1, 0] (.wr2 12 [11, 10, 8, 7, 6, 5, 3, 2, 1, 0] (.wr 14 [11, 10, 8, 7, 6, 5, 3, 2, 1, 0] (.wr 15 [11, 10, 8, 7, 6, 5] (.wr 16 [11, 10] (.wr 17 [] .done)))) 14 [11, 10, 8, 7, 6, 5, 3, 2, 1, 0] (.wr 12 [11, 10, 8, 7, 6, 5, 3, 2, 1, 0] (.wr 15 [11, 10, 8, 7, 6, 5] (.wr 16 [11, 10] (.wr 17 [] .done))))) 14 [11, 10, 8, 7, 6, 5, 3, 2, 1, 0] (.wr2 12 [11, 10, 8, 7, 6, 5, 3, 2, 1, 0] (.wr 13 [11, 10, 8, 7, 6, 5, 3, 2, 1, 0] (.wr 15 [11, 10, 8, 7, 6, 5] (.wr 16 [11, 10] (.wr 17 [] .done)))) 13 [11, 10, 8, 7, 6, 5, 3, 2, 1, 0] (.wr 12 [11, 10, 8, 7, 6, 5, 3, 2, 1, 0] (.wr 15 [11, 10, 8, 7, 6, 5] (.wr 16 [11, 10] (.wr 17 [] .done)))))) 12 [11, 10, 8, 7, 6, 5, 3, 2, 1, 0] (.wr3 9 [11, 10, 7, 5, 3, 2, 1, 0] (.wr2 13 [11, 10, 8, 7, 6, 5, 3, 2, 1, 0] (.wr 14 [11, 10, 8, 7, 6, 5, 3, 2, 1, 0] (.wr 15 [11, 10, 8, 7, 6, 5] (.wr 16 [11, 10] (.wr 17 [] .done)))) 14 [11, 10, 8, 7, 6, 5, 3, 2, 1, 0] (.wr 13 [11, 10, 8, 7, 6, 5, 3, 2, 1, 0] (.wr 15 [11, 10, 8, 7, 6, 5] (.wr 16 [11, 10] (.wr 17 [] .done))))) 13 [11, 10, 8, 7, 6, 5, 3, 2, 1, 0] (.wr2 9 [11, 10, 7, 5, 3, 2, 1, 0] (.wr 14 [11, 10, 8, 7, 6, 5, 3, 2, 1, 0] (.wr 15 [11, 10, 8, 7, 6, 5] (.wr 16 [11, 10] (.wr 17 [] .done)))) 14 [11, 10, 8, 7, 6, 5, 3, 2, 1, 0] (.wr 9 [11, 10, 7, 5, 3, 2, 1, 0] (.wr 15 [11, 10, 8, 7, 6, 5] (.wr 16 [11, 10] (.wr 17 [] .done))))) 14 [11, 10, 8, 7, 6, 5, 3, 2, 1, 0] (.wr2 9 [11, 10, 7, 5, 3, 2, 1, 0] (.wr 13 [11, 10, 8, 7, 6, 5, 3, 2, 1, 0] (.wr 15 [11, 10, 8, 7, 6, 5] (.wr 16 [11, 10] (.wr 17 [] .done)))) 13 [11, 10, 8, 7, 6, 5, 3, 2, 1, 0] (.wr 9 [11, 10, 7, 5, 3, 2, 1, 0] (.wr 15 [11, 10, 8, 7, 6, 5] (.wr 16 [11, 10] (.wr 17 [] .done)))))) 13 [11, 10, 8, 7, 6, 5, 3, 2, 1, 0] (.wr3 9 [11, 10, 7, 5, 3, 2, 1, 0] (.wr2 12 [11, 10, 8, 7, 6, 5, 3, 2, 1, 0] (.wr 14 [11, 10, 8, 7, 6, 5, 3, 2, 1, 0] (.wr 15 [11, 10, 8, 7, 6, 5] (.wr 16 [11, 10] (.wr 17 [] .done)))) 14 [11, 10, 8, 7, 6, 5, 3, 2, 1, 0] (.wr 12 [11, 10, 8, 7, 6, 5, 3, 2, 1, 0] (.wr 15 [11, 10, 8, 7, 6, 5] (.wr 16 [11, 10] (.wr 17 [] .done))))) 12 [11, 10, 8, 7, 6, 5, 3, 2, 1, 0] (.wr2 9 [11, 10, 7, 5, 3, 2, 1, 0] (.wr 14 [11, 10, 8, 7, 6, 5, 3, 2, 1, 0] (.wr 15 [11, 10, 8, 7, 6, 5] (.wr 16 [11, 10] (.wr 17 [] .done)))) 14 [11, 10, 8, 7, 6, 5, 3, 2, 1, 0] (.wr 9 [11, 10, 7, 5, 3, 2, 1, 0] (.wr 15 [11, 10, 8, 7, 6, 5] (.wr 16 [11, 10] (.wr 17 [] .done))))) 14 [11, 10, 8, 7, 6, 5, 3, 2, 1, 0] (.wr2 9 [11, 10, 7, 5, 3, 2, 1, 0] (.wr 12 [11, 10, 8, 7, 6, 5, 3, 2, 1, 0] (.wr 15 [11, 10, 8, 7, 6, 5] (.wr 16 [11, 10] (.wr 17 [] .done)))) 12 [11, 10, 8, 7, 6, 5, 3, 2, 1, 0] (.wr 9 [11, 10, 7, 5, 3, 2, 1, 0] (.wr 15 [11, 10, 8, 7, 6, 5] (.wr 16 [11, 10] (.wr 17 [] .done)))))) 14 [11, 10, 8, 7, 6, 5, 3, 2, 1, 0] (.wr3 9 [11, 10, 7, 5, 3, 2, 1, 0] (.wr2 12 [11, 10, 8, 7, 6, 5, 3, 2, 1, 0] (.wr 13 [11, 10, 8, 7, 6, 5, 3, 2, 1, 0] (.wr 15 [11, 10, 8, 7, 6, 5] (.wr 16 [11, 10] (.wr 17 [] .done)))) 13 [11, 10, 8, 7, 6, 5, 3, 2, 1, 0] (.wr 12 [11, 10, 8, 7, 6, 5, 3, 2, 1, 0] (.wr 15 [11, 10, 8, 7, 6, 5] (.wr 16 [11, 10] (.wr 17 [] .done))))) 12 [11, 10, 8, 7, 6, 5, 3, 2, 1, 0] (.wr2 9 [11, 10, 7, 5, 3, 2, 1, 0] (.wr 13 [11, 10, 8, 7, 6, 5, 3, 2, 1, 0] (.wr 15 [11, 10, 8, 7, 6, 5] (.wr 16 [11, 10] (.wr 17 [] .done)))) 13 [11, 10, 8, 7, 6, 5, 3, 2, 1, 0] (.wr 9 [11, 10, 7, 5, 3, 2, 1, 0] (.wr 15 [11, 10, 8, 7, 6, 5] (.wr 16 [11, 10] (.wr 17 [] .done))))) 13 [11, 10, 8, 7, 6, 5, 3, 2, 1, 0] (.wr2 9 [11, 10, 7, 5, 3, 2, 1, 0] (.wr 12 [11, 10, 8, 7, 6, 5, 3, 2, 1, 0] (.wr 15 [11, 10, 8, 7, 6, 5] (.wr 16 [11, 10] (.wr 17 [] .done)))) 12 [11, 10, 8, 7, 6, 5, 3, 2, 1, 0] (.wr 9 [11, 10, 7, 5, 3, 2, 1, 0] (.wr 15 [11, 10, 8, 7, 6, 5] (.wr 16 [11, 10] (.wr 17 [] .done))))))) 12 [11, 10, 8, 7, 6, 5, 3, 2, 1, 0] (.wr3 4 [11, 10, 8, 7, 6, 5, 2, 0] (.wr3 9 [11, 10, 7, 5, 3, 2, 1, 0] (.wr2 13 [11, 10, 8, 7, 6, 5, 3, 2, 1, 0] (.wr 14 [11, 10, 8, 7, 6, 5, 3, 2, 1, 0] (.wr 15 [11, 10, 8, 7, 6, 5] (.wr 16 [11, 10] (.wr 17 [] .done)))) 14 [11, 10, 8, 7, 6, 5, 3, 2, 1, 0] (.wr 13 [11, 10, 8, 7, 6, 5, 3, 2, 1, 0] (.wr 15 [11, 10, 8, 7, 6, 5] (.wr 16 [11, 10] (.wr 17 [] .done))))) 13 [11, 10, 8, 7, 6, 5, 3, 2, 1, 0] (.wr2 9 [11, 10, 7, 5, 3, 2, 1, 0] (.wr 14 [11, 10, 8, 7, 6, 5, 3, 2, 1, 0] (.wr 15 [11, 10, 8, 7, 6, 5] (.wr 16 [11, 10] (.wr 17 [] .done)))) 14 [11, 10, 8, 7, 6, 5, 3, 2, 1, 0] (.wr 9 [11, 10, 7, 5, 3, 2, 1, 0] (.wr 15 [11, 10, 8, 7, 6, 5] (.wr 16 [11, 10] (.wr 17 [] .done))))) 14 [11, 10, 8, 7, 6, 5, 3, 2, 1, 0] (.wr2 9 [11, 10, 7, 5, 3, 2, 1, 0] (.wr 13 [11, 10, 8, 7, 6, 5, 3, 2, 1, 0] (.wr 15 [11, 10, 8, 7, 6, 5] (.wr 16 [11, 10] (.wr 17 [] .done)))) 13 [11, 10, 8, 7, 6, 5, 3, 2, 1, 0] (.wr 9 [11, 10, 7, 5, 3, 2, 1, 0] (.wr 15 [11, 10, 8, 7, 6, 5] (.wr 16 [11, 10] (.wr 17 [] .done)))))) 13 [11, 10, 8, 7, 6, 5, 3, 2, 1, 0] (.wr2 4 [11, 10, 8, 7, 6, 5, 2, 0] (.wr2 9 [11, 10, 7, 5, 3, 2, 1, 0] (.wr 14 [11, 10, 8, 7, 6, 5, 3, 2, 1, 0] (.wr 15 [11, 10, 8, 7, 6, 5] (.wr 16 [11, 10] (.wr 17 [] .done)))) 14 [11, 10, 8, 7, 6, 5, 3, 2, 1, 0] (.wr 9 [11, 10, 7, 5, 3, 2, 1, 0] (.wr 15 [11, 10, 8, 7, 6, 5] (.wr 16 [11, 10] (.wr 17 [] .done))))) 14 [11, 10, 8, 7, 6, 5, 3, 2, 1, 0] (.wr 4 [11, 10, 8, 7, 6, 5, 2, 0] (.wr 9 [11, 10, 7, 5, 3, 2, 1, 0] (.wr 15 [11, 10, 8, 7, 6, 5] (.wr 16 [11, 10] (.wr 17 [] .done)))))) 14 [11, 10, 8, 7, 6, 5, 3, 2, 1, 0] (.wr2 4 [11, 10, 8, 7, 6, 5, 2, 0] (.wr2 9 [11, 10, 7, 5, 3, 2, 1, 0] (.wr 13 [11, 10, 8, 7, 6, 5, 3, 2, 1, 0] (.wr 15 [11, 10, 8, 7, 6, 5] (.wr 16 [11, 10] (.wr 17 [] .done)))) 13 [11, 10, 8, 7, 6, 5, 3, 2, 1, 0] (.wr 9 [11, 10, 7, 5, 3, 2, 1, 0] (.wr 15 [11, 10, 8, 7, 6, 5] (.wr 16 [11, 10] (.wr 17 [] .done))))) 13 [11, 10, 8, 7, 6, 5, 3, 2, 1, 0] (.wr 4 [11, 10, 8, 7, 6, 5, 2, 0] (.wr 9 [11, 10, 7, 5, 3, 2, 1, 0] (.wr 15 [11, 10, 8, 7, 6, 5] (.wr 16 [11, 10] (.wr 17 [] .done))))))) 13 [11, 10, 8, 7, 6, 5, 3, 2, 1, 0] (.wr3 4 [11, 10, 8, 7, 6, 5, 2, 0] (.wr3 9 [11, 10, 7, 5, 3, 2, 1, 0] (.wr2 12 [11, 10, 8, 7, 6, 5, 3, 2, 1, 0] (.wr 14 [11, 10, 8, 7, 6, 5, 3, 2, 1, 0] (.wr 15 [11, 10, 8, 7, 6, 5] (.wr 16 [11, 10] (.wr 17 [] .done)))) 14 [11, 10, 8, 7, 6, 5, 3, 2, 1, 0] (.wr 12 [11, 10, 8, 7, 6, 5, 3, 2, 1, 0] (.wr 15 [11, 10, 8, 7, 6, 5] (.wr 16 [11, 10] (.wr 17 [] .done))))) 12 [11, 10, 8, 7, 6, 5, 3, 2, 1, 0] (.wr2 9 [11, 10, 7, 5, 3, 2, 1, 0] (.wr 14 [11, 10, 8, 7, 6, 5, 3, 2, 1, 0] (.wr 15 [11, 10, 8, 7, 6, 5] (.wr 16 [11, 10] (.wr 17 [] .done)))) 14 [11, 10, 8, 7, 6, 5, 3, 2, 1, 0] (.wr 9 [11, 10, 7, 5, 3, 2, 1, 0] (.wr 15 [11, 10, 8, 7, 6, 5] (.wr 16 [11, 10] (.wr 17 [] .done))))) 14 [11, 10, 8, 7, 6, 5, 3, 2, 1, 0] (.wr2 9 [11, 10, 7, 5, 3, 2, 1, 0] (.wr 12 [11, 10, 8, 7, 6, 5, 3, 2, 1, 0] (.wr 15 [11, 10, 8, 7, 6, 5] (.wr 16 [11, 10] (.wr 17 [] .done)))) 12 [11, 10, 8, 7, 6, 5, 3, 2, 1, 0] (.wr 9 [11, 10, 7, 5, 3, 2, 1, 0] (.wr 15 [11, 10, 8, 7, 6, 5] (.wr 16 [11, 10] (.wr 17 [] .done)))))) 12 [11, 10, 8, 7, 6, 5, 3, 2, 1, 0] (.wr2 4 [11, 10, 8, 7, 6, 5, 2, 0] (.wr2 9 [11, 10, 7, 5, 3, 2, 1, 0] (.wr 14 [11, 10, 8, 7, 6, 5, 3, 2, 1, 0] (.wr 15 [11, 10, 8, 7, 6, 5] (.wr 16 [11, 10] (.wr 17 [] .done)))) 14 [11, 10, 8, 7, 6, 5, 3, 2, 1, 0] (.wr 9 [11, 10, 7, 5, 3, 2, 1, 0] (.wr 15 [11, 10, 8, 7, 6, 5] (.wr 16 [11, 10] (.wr 17 [] .done))))) 14 [11, 10, 8, 7, 6, 5, 3, 2, 1, 0] (.wr 4 [11, 10, 8, 7, 6, 5, 2, 0] (.wr 9 [11, 10, 7, 5, 3, 2, 1, 0] (.wr 15 [11, 10, 8, 7, 6, 5] (.wr 16 [11, 10] (.wr 17 [] .done)))))) 14 [11, 10, 8, 7, 6, 5, 3, 2, 1, 0] (.wr2 4 [11, 10, 8, 7, 6, 5, 2, 0] (.wr2 9 [11, 10, 7, 5, 3, 2, 1, 0] (.wr 12 [11, 10, 8, 7, 6, 5, 3, 2, 1, 0] (.wr 15 [11, 10, 8, 7, 6, 5] (.wr 16 [11, 10] (.wr 17 [] .done)))) 12 [11, 10, 8, 7, 6, 5, 3, 2, 1, 0] (.wr 9 [11, 10, 7, 5, 3, 2, 1, 0] (.wr 15 [11, 10, 8, 7, 6, 5] (.wr 16 [11, 10] (.wr 17 [] .done))))) 12 [11, 10, 8, 7, 6, 5, 3, 2, 1, 0] (.wr 4 [11, 10, 8, 7, 6, 5, 2, 0] (.wr 9 [11, 10, 7, 5, 3, 2, 1, 0] (.wr 15 [11, 10, 8, 7, 6, 5] (.wr 16 [11, 10] (.wr 17 [] .done))))))) 14 [11, 10, 8, 7, 6, 5, 3, 2, 1, 0] (.wr3 4 [11, 10, 8, 7, 6, 5, 2, 0] (.wr3 9 [11, 10, 7, 5, 3, 2, 1, 0] (.wr2 12 [11, 10, 8, 7, 6, 5, 3, 2, 1, 0] (.wr 13 [11, 10, 8, 7, 6, 5, 3, 2, 1, 0] (.wr 15 [11, 10, 8, 7, 6, 5] (.wr 16 [11, 10] (.wr 17 [] .done)))) 13 [11, 10, 8, 7, 6, 5, 3, 2, 1, 0] (.wr 12 [11, 10, 8, 7, 6, 5, 3, 2, 1, 0] (.wr 15 [11, 10, 8, 7, 6, 5] (.wr 16 [11, 10] (.wr 17 [] .done))))) 12 [11, 10, 8, 7, 6, 5, 3, 2, 1, 0] (.wr2 9 [11, 10, 7, 5, 3, 2, 1, 0] (.wr 13 [11, 10, 8, 7, 6, 5, 3, 2, 1, 0] (.wr 15 [11, 10, 8, 7, 6, 5] (.wr 16 [11, 10] (.wr 17 [] .done)))) 13 [11, 10, 8, 7, 6, 5, 3, 2, 1, 0] (.wr 9 [11, 10, 7, 5, 3, 2, 1, 0] (.wr 15 [11, 10, 8, 7, 6, 5] (.wr 16 [11, 10] (.wr 17 [] .done))))) 13 [11, 10, 8, 7, 6, 5, 3, 2, 1, 0] (.wr2 9 [11, 10, 7, 5, 3, 2, 1, 0] (.wr 12 [11, 10, 8, 7, 6, 5, 3, 2, 1, 0] (.wr 15 [11, 10, 8, 7, 6, 5] (.wr 16 [11, 10] (.wr 17 [] .done)))) 12 [11, 10, 8, 7, 6, 5, 3, 2, 1, 0] (.wr 9 [11, 10, 7, 5, 3, 2, 1, 0] (.wr 15 [11, 10, 8, 7, 6, 5] (.wr 16 [11, 10] (.wr 17 [] .done)))))) 12 [11, 10, 8, 7, 6, 5, 3, 2, 1, 0] (.wr2 4 [11, 10, 8, 7, 6, 5, 2, 0] (.wr2 9 [11, 10, 7, 5, 3, 2, 1, 0] (.wr 13 [11, 10, 8, 7, 6, 5, 3, 2, 1, 0] (.wr 15 [11, 10, 8, 7, 6, 5] (.wr 16 [11, 10] (.wr 17 [] .done)))) 13 [11, 10, 8, 7, 6, 5, 3, 2, 1, 0] (.wr 9 [11, 10, 7, 5, 3, 2, 1, 0] (.wr 15 [11, 10, 8, 7, 6, 5] (.wr 16 [11, 10] (.wr 17 [] .done))))) 13 [11, 10, 8, 7, 6, 5, 3, 2, 1, 0] (.wr 4 [11, 10, 8, 7, 6, 5, 2, 0] (.wr 9 [11, 10, 7, 5, 3, 2, 1, 0] (.wr 15 [11, 10, 8, 7, 6, 5] (.wr 16 [11, 10] (.wr 17 [] .done)))))) 13 [11, 10, 8, 7, 6, 5, 3, 2, 1, 0] (.wr2 4 [11, 10, 8, 7, 6, 5, 2, 0] (.wr2 9 [11, 10, 7, 5, 3, 2, 1, 0] (.wr 12 [11, 10, 8, 7, 6, 5, 3, 2, 1, 0] (.wr 15 [11, 10, 8, 7, 6, 5] (.wr 16 [11, 10] (.wr 17 [] .done)))) 12 [11, 10, 8, 7, 6, 5, 3, 2, 1, 0] (.wr 9 [11, 10, 7, 5, 3, 2, 1, 0] (.wr 15 [11, 10, 8, 7, 6, 5] (.wr 16 [11, 10] (.wr 17 [] .done))))) 12 [11, 10, 8, 7, 6, 5, 3, 2, 1, 0] (.wr 4 [11, 10, 8, 7, 6, 5, 2, 0] (.wr 9 [11, 10, 7, 5, 3, 2, 1, 0] (.wr 15 [11, 10, 8, 7, 6, 5] (.wr 16 [11, 10] (.wr 17 [] .done)))))))))))))))))) mixed (by kernel_rfl) rfl ?_
  refine Dp rfl rfl (p_fieldo fo82_3 rfl rfl) ?_
  refine Dr rfl rfl (rlA (vs := [_, _]) ag23 sz23 rfl rfl rfl) ?_
  refine Dp rfl rfl (p_fieldo fo88_0 rfl rfl) ?_
  refine Dr rfl rfl (rlA (vs := [_, _]) ag23 sz23 rfl rfl rfl) ?_
  refine Dp rfl rfl (p_fieldo fo82_4 rfl rfl) ?_
  refine Dr rfl rfl (rlA (vs := [_, _]) ag23 sz23 rfl rfl rfl) ?_
  refine Dp rfl rfl (p_fieldo fo88_1 rfl rfl) ?_
  refine Dr rfl rfl (rlA (vs := [_, _]) ag23 sz23 rfl rfl rfl) ?_
  refine Dp rfl rfl (p_fieldo fo82_5 rfl rfl) ?_
  refine Dr rfl rfl (rlA (vs := [_, _]) ag23 sz23 rfl rfl rfl) ?_
  refine D_wr4 rfl rfl rfl rfl rfl rfl ?_ ?_ ?_ ?_
  ·refine (.go (E' := [(11, _), (8, _), (6, _)]) rfl (.plain rfl) (w_callP rfl rfl rfl (fun w hg => rsub_c s.v.x (windsT l s.p.z).x (by omega) w)) rfl ?_)
   rintro _ _ ⟨rfl, rfl⟩
   refine ⟨(.cons rfl (.plain rfl) (rlA (vs := [_, _]) ag23 sz23 rfl rfl rfl) (.cons rfl (.plain rfl) (rlA (vs := [_, _]) ag23 sz23 rfl rfl rfl) (.cons rfl (.plain rfl) (rlA (vs := [_, _]) ag23 sz23 rfl rfl rfl) .nil))), ?_⟩
   refine D_wr4 rfl rfl rfl rfl rfl rfl ?_ ?_ ?_ ?_
   ·refine (.go (E' := [(11, _)]) rfl (.plain rfl) (w_callP rfl rfl rfl (fun w hg => rsub_c s.v.y (windsT l s.p.z).y (by omega) w)) rfl ?_)
    rintro _ _ ⟨rfl, rfl⟩
    refine ⟨(.cons rfl (.plain rfl) (rlA (vs := [_, _]) ag23 sz23 rfl rfl rfl) .nil), ?_⟩
    refine D_wr3 rfl rfl rfl ?_ ?_ ?_
    ·refine (.go (E' := [(11, _)]) rfl (.plain rfl) (w_alloc zr23 rfl) rfl ?_)
     rintro _ _ ⟨b7, hb7, rfl, rfl⟩
     refine ⟨(.cons rfl (.plain rfl) (rlA (vs := [_, _]) ag23 sz23 rfl rfl rfl) .nil), ?_⟩
     refine D_wr2 rfl ?_ ?_
     ·refine (.go (E' := [(11, _)]) rfl (.plain rfl) (w_alloc zr23 rfl) rfl ?_)
      rintro _ _ ⟨b8, hb8, rfl, rfl⟩
      refine ⟨(.cons rfl (.plain rfl) (rlA (vs := [_, _]) ag23 sz23 rfl rfl rfl) .nil), ?_⟩
      refine D_wr (.go (E' := [(11, _)]) rfl (.plain rfl) (w_alloc zr23 rfl) rfl ?_)
      rintro _ _ ⟨b9, hb9, rfl, rfl⟩
      refine ⟨(.cons rfl (.plain rfl) (rlA (vs := [_, _]) ag23 sz23 rfl rfl rfl) .nil), ?_⟩
      refine D_wr (.go (E' := [(11, _)]) rfl (.plain rfl) (ws (cs' := [_, _]) sz23 rfl rfl rfl rfl rfl rfl rfl) rfl ?_)
      rintro _ _ ⟨rfl, rfl⟩
      refine ⟨(.cons rfl (.plain rfl) (rlA (vs := [_, _]) ag23 sz23 rfl rfl rfl) .nil), ?_⟩
      refine D_wr (.go (E' := [(11, _)]) rfl (.plain rfl) (ws (cs' := [_, _]) sz23 rfl rfl rfl rfl rfl rfl rfl) rfl ?_)
      rintro _ _ ⟨rfl, rfl⟩
      refine ⟨(.cons rfl (.plain rfl) (rlA (vs := [_, _]) ag23 sz23 rfl rfl rfl) .nil), ?_⟩
      refine D_wr (.go (E' := []) rfl (.plain rfl) (ws (cs' := [_, _]) sz23 rfl rfl rfl rfl rfl rfl rfl) rfl ?_)
      rintro _ _ ⟨rfl, rfl⟩
      refine ⟨.nil, ?_⟩
      refine D_then (kp [5, 6, 8, 9, 10, 11, 13, 14, 15] rfl) ?_
      refine ⟨(b7, b8, b9), trivial, (.cons rfl (.cons rfl (.cons rfl (.cons rfl (.cons rfl (.cons rfl (.cons rfl (.cons rfl (.cons rfl (.nil _)))))))))), (by (try dsimp only); repeat (first | exact HSub.nil _ | refine HSub.take (by repeat first | exact Take.head | apply Take.tail) ?_ | exact HSub.refl _ | refine HSub.drop ?_ | refine HSub.app ?_)), rfl⟩
     refine (.go (E' := [(11, _)]) rfl (.plain rfl) (w_alloc zr23 rfl) rfl ?_)
     rintro _ _ ⟨b8, hb8, rfl, rfl⟩
     refine ⟨(.cons rfl (.plain rfl) (rlA (vs := [_, _]) ag23 sz23 rfl rfl rfl) .nil), ?_⟩
     refine D_wr (.go (E' := [(11, _)]) rfl (.plain rfl) (w_alloc zr23 rfl) rfl ?_)
     rintro _ _ ⟨b9, hb9, rfl, rfl⟩
     refine ⟨(.cons rfl (.plain rfl) (rlA (vs := [_, _]) ag23 sz23 rfl rfl rfl) .nil), ?_⟩
     refine D_wr (.go (E' := [(11, _)]) rfl (.plain rfl) (ws (cs' := [_, _]) sz23 rfl rfl rfl rfl rfl rfl rfl) rfl ?_)
     rintro _ _ ⟨rfl, rfl⟩
     refine ⟨(.cons rfl (.plain rfl) (rlA (vs := [_, _]) ag23 sz23 rfl rfl rfl) .nil), ?_⟩
     refine D_wr (.go (E' := [(11, _)]) rfl (.plain rfl) (ws (cs' := [_, _]) sz23 rfl rfl rfl rfl rfl rfl rfl) rfl ?_)
     rintro _ _ ⟨rfl, rfl⟩
     refine ⟨(.cons rfl (.plain rfl) (rlA (vs := [_, _]) ag23 sz23 rfl rfl rfl) .nil), ?_⟩
     refine D_wr (.go (E' := []) rfl (.plain rfl) (ws (cs' := [_, _]) sz23 rfl rfl rfl rfl rfl rfl rfl) rfl ?_)
     rintro _ _ ⟨rfl, rfl⟩
     refine ⟨.nil, ?_⟩
     refine D_then (kp [5, 6, 8, 9, 10, 11, 13, 14, 15] rfl) ?_
     refine ⟨(b7, b9, b8), trivial, (.cons rfl (.cons rfl (.cons rfl (.cons rfl (.cons rfl (.cons rfl (.cons rfl (.cons rfl (.cons rfl (.nil _)))))))))), (by (try dsimp only); repeat (first | exact HSub.nil _ | refine HSub.take (by repeat first | exact Take.head | apply Take.tail) ?_ | exact HSub.refl _ | refine HSub.drop ?_ | refine HSub.app ?_)), rfl⟩
    ·refine (.go (E' := [(11, _)]) rfl (.plain rfl) (w_alloc zr23 rfl) rfl ?_)
     rintro _ _ ⟨b7, hb7, rfl, rfl⟩
     refine ⟨(.cons rfl (.plain rfl) (rlA (vs := [_, _]) ag23 sz23 rfl rfl rfl) .nil), ?_⟩
     refine D_wr2 rfl ?_ ?_
     ·refine (.go (E' := [(11, _)]) rfl (.plain rfl) (w_alloc zr23 rfl) rfl ?_)
      rintro _ _ ⟨b8, hb8, rfl, rfl⟩
      refine ⟨(.cons rfl (.plain rfl) (rlA (vs := [_, _]) ag23 sz23 rfl rfl rfl) .nil), ?_⟩
      refine D_wr (.go (E' := [(11, _)]) rfl (.plain rfl) (w_alloc zr23 rfl) rfl ?_)
      rintro _ _ ⟨b9, hb9, rfl, rfl⟩
      refine ⟨(.cons rfl (.plain rfl) (rlA (vs := [_, _]) ag23 sz23 rfl rfl rfl) .nil), ?_⟩
      refine D_wr (.go (E' := [(11, _)]) rfl (.plain rfl) (ws (cs' := [_, _]) sz23 rfl rfl rfl rfl rfl rfl rfl) rfl ?_)
      rintro _ _ ⟨rfl, rfl⟩
      refine ⟨(.cons rfl (.plain rfl) (rlA (vs := [_, _]) ag23 sz23 rfl rfl rfl) .nil), ?_⟩
      refine D_wr (.go (E' := [(11, _)]) rfl (.plain rfl) (ws (cs' := [_, _]) sz23 rfl rfl rfl rfl rfl rfl rfl) rfl ?_)
      rintro _ _ ⟨rfl, rfl⟩
      refine ⟨(.cons rfl (.plain rfl) (rlA (vs := [_, _]) ag23 sz23 rfl rfl rfl) .nil), ?_⟩
      refine D_wr (.go (E' := []) rfl (.plain rfl) (ws (cs' := [_, _]) sz23 rfl rfl rfl rfl rfl rfl rfl) rfl ?_)
      rintro _ _ ⟨rfl, rfl⟩
      refine ⟨.nil, ?_⟩
      refine D_then (kp [5, 6, 8, 9, 10, 11, 13, 14, 15] rfl) ?_
      refine ⟨(b8, b7, b9), trivial, (.cons rfl (.cons rfl (.cons rfl (.cons rfl (.cons rfl (.cons rfl (.cons rfl (.cons rfl (.cons rfl (.nil _)))))))))), (by (try dsimp only); repeat (first | exact HSub.nil _ | refine HSub.take (by repeat first | exact Take.head | apply Take.tail) ?_ | exact HSub.refl _ | refine HSub.drop ?_ | refine HSub.app ?_)), rfl⟩
     refine (.go (E' := [(11, _)]) rfl (.plain rfl) (w_alloc zr23 rfl) rfl ?_)
     rintro _ _ ⟨b8, hb8, rfl, rfl⟩
     refine ⟨(.cons rfl (.plain rfl) (rlA (vs := [_, _]) ag23 sz23 rfl rfl rfl) .nil), ?_⟩
     refine D_wr (.go (E' := [(11, _)]) rfl (.plain rfl) (w_alloc zr23 rfl) rfl ?_)
     rintro _ _ ⟨b9, hb9, rfl, rfl⟩
     refine ⟨(.cons rfl (.plain rfl) (rlA (vs := [_, _]) ag23 sz23 rfl rfl rfl) .nil), ?_⟩
     refine D_wr (.go (E' := [(11, _)]) rfl (.plain rfl) (ws (cs' := [_, _]) sz23 rfl rfl rfl rfl rfl rfl rfl) rfl ?_)
     rintro _ _ ⟨rfl, rfl⟩
     refine ⟨(.cons rfl (.plain rfl) (rlA (vs := [_, _]) ag23 sz23 rfl rfl rfl) .nil), ?_⟩
     refine D_wr (.go (E' := [(11, _)]) rfl (.plain rfl) (ws (cs' := [_, _]) sz23 rfl rfl rfl rfl rfl rfl rfl) rfl ?_)
     rintro _ _ ⟨rfl, rfl⟩
     refine ⟨(.cons rfl (.plain rfl) (rlA (vs := [_, _]) ag23 sz23 rfl rfl rfl) .nil), ?_⟩
     refine D_wr (.go (E' := []) rfl (.plain rfl) (ws (cs' := [_, _]) sz23 rfl rfl rfl rfl rfl rfl rfl) rfl ?_)
     rintro _ _ ⟨rfl, rfl⟩
     refine ⟨.nil, ?_⟩
     refine D_then (kp [5, 6, 8, 9, 10, 11, 13, 14, 15] rfl) ?_
     refine ⟨(b9, b7, b8), trivial, (.cons rfl (.cons rfl (.cons rfl (.cons rfl (.cons rfl (.cons rfl (.cons rfl (.cons rfl (.cons rfl (.nil _)))))))))), (by (try dsimp only); repeat (first | exact HSub.nil _ | refine HSub.take (by repeat first | exact Take.head | apply Take.tail) ?_ | exact HSub.refl _ | refine HSub.drop ?_ | refine HSub.app ?_)), rfl⟩
    refine (.go (E' := [(11, _)]) rfl (.plain rfl) (w_alloc zr23 rfl) rfl ?_)
    rintro _ _ ⟨b7, hb7, rfl, rfl⟩
    refine ⟨(.cons rfl (.plain rfl) (rlA (vs := [_, _]) ag23 sz23 rfl rfl rfl) .nil), ?_⟩
    refine D_wr2 rfl ?_ ?_
    ·refine (.go (E' := [(11, _)]) rfl (.plain rfl) (w_alloc zr23 rfl) rfl ?_)
     rintro _ _ ⟨b8, hb8, rfl, rfl⟩
     refine ⟨(.cons rfl (.plain rfl) (rlA (vs := [_, _]) ag23 sz23 rfl rfl rfl) .nil), ?_⟩
     refine D_wr (.go (E' := [(11, _)]) rfl (.plain rfl) (w_alloc zr23 rfl) rfl ?_)
     rintro _ _ ⟨b9, hb9, rfl, rfl⟩
     refine ⟨(.cons rfl (.plain rfl) (rlA (vs := [_, _]) ag23 sz23 rfl rfl rfl) .nil), ?_⟩
     refine D_wr (.go (E' := [(11, _)]) rfl (.plain rfl) (ws (cs' := [_, _]) sz23 rfl rfl rfl rfl rfl rfl rfl) rfl ?_)
     rintro _ _ ⟨rfl, rfl⟩
     refine ⟨(.cons rfl (.plain rfl) (rlA (vs := [_, _]) ag23 sz23 rfl rfl rfl) .nil), ?_⟩
     refine D_wr (.go (E' := [(11, _)]) rfl (.plain rfl) (ws (cs' := [_, _]) sz23 rfl rfl rfl rfl rfl rfl rfl) rfl ?_)
     rintro _ _ ⟨rfl, rfl⟩
     refine ⟨(.cons rfl (.plain rfl) (rlA (vs := [_, _]) ag23 sz23 rfl rfl rfl) .nil), ?_⟩
     refine D_wr (.go (E' := []) rfl (.plain rfl) (ws (cs' := [_, _]) sz23 rfl rfl rfl rfl rfl rfl rfl) rfl ?_)
     rintro _ _ ⟨rfl, rfl⟩
     refine ⟨.nil, ?_⟩
     refine D_then (kp [5, 6, 8, 9, 10, 11, 13, 14, 15] rfl) ?_
     refine ⟨(b8, b9, b7), trivial, (.cons rfl (.cons rfl (.cons rfl (.cons rfl (.cons rfl (.cons rfl (.cons rfl (.cons rfl (.cons rfl (.nil _)))))))))), (by (try dsimp only); repeat (first | exact HSub.nil _ | refine HSub.take (by repeat first | exact Take.head | apply Take.tail) ?_ | exact HSub.refl _ | refine HSub.drop ?_ | refine HSub.app ?_)), rfl⟩
    refine (.go (E' := [(11, _)]) rfl (.plain rfl) (w_alloc zr23 rfl) rfl ?_)
    rintro _ _ ⟨b8, hb8, rfl, rfl⟩
    refine ⟨(.cons rfl (.plain rfl) (rlA (vs := [_, _]) ag23 sz23 rfl rfl rfl) .nil), ?_⟩
    refine D_wr (.go (E' := [(11, _)]) rfl (.plain rfl) (w_alloc zr23 rfl) rfl ?_)
    rintro _ _ ⟨b9, hb9, rfl, rfl⟩
    refine ⟨(.cons rfl (.plain rfl) (rlA (vs := [_, _]) ag23 sz23 rfl rfl rfl) .nil), ?_⟩
    refine D_wr (.go (E' := [(11, _)]) rfl (.plain rfl) (ws (cs' := [_, _]) sz23 rfl rfl rfl rfl rfl rfl rfl) rfl ?_)
    rintro _ _ ⟨rfl, rfl⟩
    refine ⟨(.cons rfl (.plain rfl) (rlA (vs := [_, _]) ag23 sz23 rfl rfl rfl) .nil), ?_⟩
    refine D_wr (.go (E' := [(11, _)]) rfl (.plain rfl) (ws (cs' := [_, _]) sz23 rfl rfl rfl rfl rfl rfl rfl) rfl ?_)
    rintro _ _ ⟨rfl, rfl⟩
    refine ⟨(.cons rfl (.plain rfl) (rlA (vs := [_, _]) ag23 sz23 rfl rfl rfl) .nil), ?_⟩
    refine D_wr (.go (E' := []) rfl (.plain rfl) (ws (cs' := [_, _]) sz23 rfl rfl rfl rfl rfl rfl rfl) rfl ?_)
    rintro _ _ ⟨rfl, rfl⟩
    refine ⟨.nil, ?_⟩
    refine D_then (kp [5, 6, 8, 9, 10, 11, 13, 14, 15] rfl) ?_
    refine ⟨(b9, b8, b7), trivial, (.cons rfl (.cons rfl (.cons rfl (.cons rfl (.cons rfl (.cons rfl (.cons rfl (.cons rfl (.cons rfl (.nil _)))))))))), (by (try dsimp only); repeat (first | exact HSub.nil _ | refine HSub.take (by repeat first | exact Take.head | apply Take.tail) ?_ | exact HSub.refl _ | refine HSub.drop ?_ | refine HSub.app ?_)), rfl⟩
   ·refine (.go (E' := [(11, _), (8, _), (6, _)]) rfl (.plain rfl) (w_alloc zr23 rfl) rfl ?_)
    rintro _ _ ⟨b7, hb7, rfl, rfl⟩
    refine ⟨(.cons rfl (.plain rfl) (rlA (vs := [_, _]) ag23 sz23 rfl rfl rfl) (.cons rfl (.plain rfl) (rlA (vs := [_, _]) ag23 sz23 rfl rfl rfl) (.cons rfl (.plain rfl) (rlA (vs := [_, _]) ag23 sz23 rfl rfl rfl) .nil))), ?_⟩
    refine D_wr3 rfl rfl rfl ?_ ?_ ?_
    ·refine (.go (E' := [(11, _)]) rfl (.plain rfl) (w_callP rfl rfl rfl (fun w hg => rsub_c s.v.y (windsT l s.p.z).y (by omega) w)) rfl ?_)
     rintro _ _ ⟨rfl, rfl⟩
     refine ⟨(.cons rfl (.plain rfl) (rlA (vs := [_, _]) ag23 sz23 rfl rfl rfl) .nil), ?_⟩
     refine D_wr2 rfl ?_ ?_
     ·refine (.go (E' := [(11, _)]) rfl (.plain rfl) (w_alloc zr23 rfl) rfl ?_)
      rintro _ _ ⟨b8, hb8, rfl, rfl⟩
      refine ⟨(.cons rfl (.plain rfl) (rlA (vs := [_, _]) ag23 sz23 rfl rfl rfl) .nil), ?_⟩
      refine D_wr (.go (E' := [(11, _)]) rfl (.plain rfl) (w_alloc zr23 rfl) rfl ?_)
      rintro _ _ ⟨b9, hb9, rfl, rfl⟩
      refine ⟨(.cons rfl (.plain rfl) (rlA (vs := [_, _]) ag23 sz23 rfl rfl rfl) .nil), ?_⟩
      refine D_wr (.go (E' := [(11, _)]) rfl (.plain rfl) (ws (cs' := [_, _]) sz23 rfl rfl rfl rfl rfl rfl rfl) rfl ?_)
      rintro _ _ ⟨rfl, rfl⟩
      refine ⟨(.cons rfl (.plain rfl) (rlA (vs := [_, _]) ag23 sz23 rfl rfl rfl) .nil), ?_⟩
      refine D_wr (.go (E' := [(11, _)]) rfl (.plain rfl) (ws (cs' := [_, _]) sz23 rfl rfl rfl rfl rfl rfl rfl) rfl ?_)
      rintro _ _ ⟨rfl, rfl⟩
      refine ⟨(.cons rfl (.plain rfl) (rlA (vs := [_, _]) ag23 sz23 rfl rfl rfl) .nil), ?_⟩
      refine D_wr (.go (E' := []) rfl (.plain rfl) (ws (cs' := [_, _]) sz23 rfl rfl rfl rfl rfl rfl rfl) rfl ?_)
      rintro _ _ ⟨rfl, rfl⟩
      refine ⟨.nil, ?_⟩
      refine D_then (kp [5, 6, 8, 9, 10, 11, 13, 14, 15] rfl) ?_
      refine ⟨(b7, b8, b9), trivial, (.cons rfl (.cons rfl (.cons rfl (.cons rfl (.cons rfl (.cons rfl (.cons rfl (.cons rfl (.cons rfl (.nil _)))))))))), (by (try dsimp only); repeat (first | exact HSub.nil _ | refine HSub.take (by repeat first | exact Take.head | apply Take.tail) ?_ | exact HSub.refl _ | refine HSub.drop ?_ | refine HSub.app ?_)), rfl⟩
     refine (.go (E' := [(11, _)]) rfl (.plain rfl) (w_alloc zr23 rfl) rfl ?_)
     rintro _ _ ⟨b8, hb8, rfl, rfl⟩
     refine ⟨(.cons rfl (.plain rfl) (rlA (vs := [_, _]) ag23 sz23 rfl rfl rfl) .nil), ?_⟩
     refine D_wr (.go (E' := [(11, _)]) rfl (.plain rfl) (w_alloc zr23 rfl) rfl ?_)
     rintro _ _ ⟨b9, hb9, rfl, rfl⟩
     refine ⟨(.cons rfl (.plain rfl) (rlA (vs := [_, _]) ag23 sz23 rfl rfl rfl) .nil), ?_⟩
     refine D_wr (.go (E' := [(11, _)]) rfl (.plain rfl) (ws (cs' := [_, _]) sz23 rfl rfl rfl rfl rfl rfl rfl) rfl ?_)
     rintro _ _ ⟨rfl, rfl⟩
     refine ⟨(.cons rfl (.plain rfl) (rlA (vs := [_, _]) ag23 sz23 rfl rfl rfl) .nil), ?_⟩
     refine D_wr (.go (E' := [(11, _)]) rfl (.plain rfl) (ws (cs' := [_, _]) sz23 rfl rfl rfl rfl rfl rfl rfl) rfl ?_)
     rintro _ _ ⟨rfl, rfl⟩
     refine ⟨(.cons rfl (.plain rfl) (rlA (vs := [_, _]) ag23 sz23 rfl rfl rfl) .nil), ?_⟩
     refine D_wr (.go (E' := []) rfl (.plain rfl) (ws (cs' := [_, _]) sz23 rfl rfl rfl rfl rfl rfl rfl) rfl ?_)
     rintro _ _ ⟨rfl, rfl⟩
     refine ⟨.nil, ?_⟩
     refine D_then (kp [5, 6, 8, 9, 10, 11, 13, 14, 15] rfl) ?_
     refine ⟨(b7, b9, b8), trivial, (.cons rfl (.cons rfl (.cons rfl (.cons rfl (.cons rfl (.cons rfl (.cons rfl (.cons rfl (.cons rfl (.nil _)))))))))), (by (try dsimp only); repeat (first | exact HSub.nil _ | refine HSub.take (by repeat first | exact Take.head | apply Take.tail) ?_ | exact HSub.refl _ | refine HSub.drop ?_ | refine HSub.app ?_)), rfl⟩
    ·refine (.go (E' := [(11, _), (8, _), (6, _)]) rfl (.plain rfl) (w_alloc zr23 rfl) rfl ?_)
     rintro _ _ ⟨b8, hb8, rfl, rfl⟩
     refine ⟨(.cons rfl (.plain rfl) (rlA (vs := [_, _]) ag23 sz23 rfl rfl rfl) (.cons rfl (.plain rfl) (rlA (vs := [_, _]) ag23 sz23 rfl rfl rfl) (.cons rfl (.plain rfl) (rlA (vs := [_, _]) ag23 sz23 rfl rfl rfl) .nil))), ?_⟩
     refine D_wr2 rfl ?_ ?_
     ·refine (.go (E' := [(11, _)]) rfl (.plain rfl) (w_callP rfl rfl rfl (fun w hg => rsub_c s.v.y (windsT l s.p.z).y (by omega) w)) rfl ?_)
      rintro _ _ ⟨rfl, rfl⟩
      refine ⟨(.cons rfl (.plain rfl) (rlA (vs := [_, _]) ag23 sz23 rfl rfl rfl) .nil), ?_⟩
      refine D_wr (.go (E' := [(11, _)]) rfl (.plain rfl) (w_alloc zr23 rfl) rfl ?_)
      rintro _ _ ⟨b9, hb9, rfl, rfl⟩
      refine ⟨(.cons rfl (.plain rfl) (rlA (vs := [_, _]) ag23 sz23 rfl rfl rfl) .nil), ?_⟩
      refine D_wr (.go (E' := [(11, _)]) rfl (.plain rfl) (ws (cs' := [_, _]) sz23 rfl rfl rfl rfl rfl rfl rfl) rfl ?_)
      rintro _ _ ⟨rfl, rfl⟩
      refine ⟨(.cons rfl (.plain rfl) (rlA (vs := [_, _]) ag23 sz23 rfl rfl rfl) .nil), ?_⟩
      refine D_wr (.go (E' := [(11, _)]) rfl (.plain rfl) (ws (cs' := [_, _]) sz23 rfl rfl rfl rfl rfl rfl rfl) rfl ?_)
      rintro _ _ ⟨rfl, rfl⟩
      refine ⟨(.cons rfl (.plain rfl) (rlA (vs := [_, _]) ag23 sz23 rfl rfl rfl) .nil), ?_⟩
      refine D_wr (.go (E' := []) rfl (.plain rfl) (ws (cs' := [_, _]) sz23 rfl rfl rfl rfl rfl rfl rfl) rfl ?_)
      rintro _ _ ⟨rfl, rfl⟩
      refine ⟨.nil, ?_⟩
      refine D_then (kp [5, 6, 8, 9, 10, 11, 13, 14, 15] rfl) ?_
      refine ⟨(b7, b8, b9), trivial, (.cons rfl (.cons rfl (.cons rfl (.cons rfl (.cons rfl (.cons rfl (.cons rfl (.cons rfl (.cons rfl (.nil _)))))))))), (by (try dsimp only); repeat (first | exact HSub.nil _ | refine HSub.take (by repeat first | exact Take.head | apply Take.tail) ?_ | exact HSub.refl _ | refine HSub.drop ?_ | refine HSub.app ?_)), rfl⟩
     refine (.go (E' := [(11, _), (8, _), (6, _)]) rfl (.plain rfl) (w_alloc zr23 rfl) rfl ?_)
     rintro _ _ ⟨b9, hb9, rfl, rfl⟩
     refine ⟨(.cons rfl (.plain rfl) (rlA (vs := [_, _]) ag23 sz23 rfl rfl rfl) (.cons rfl (.plain rfl) (rlA (vs := [_, _]) ag23 sz23 rfl rfl rfl) (.cons rfl (.plain rfl) (rlA (vs := [_, _]) ag23 sz23 rfl rfl rfl) .nil))), ?_⟩
     refine D_wr (.go (E' := [(11, _)]) rfl (.plain rfl) (w_callP rfl rfl rfl (fun w hg => rsub_c s.v.y (windsT l s.p.z).y (by omega) w)) rfl ?_)
     rintro _ _ ⟨rfl, rfl⟩
     refine ⟨(.cons rfl (.plain rfl) (rlA (vs := [_, _]) ag23 sz23 rfl rfl rfl) .nil), ?_⟩
     refine D_wr (.go (E' := [(11, _)]) rfl (.plain rfl) (ws (cs' := [_, _]) sz23 rfl rfl rfl rfl rfl rfl rfl) rfl ?_)
     rintro _ _ ⟨rfl, rfl⟩
     refine ⟨(.cons rfl (.plain rfl) (rlA (vs := [_, _]) ag23 sz23 rfl rfl rfl) .nil), ?_⟩
     refine D_wr (.go (E' := [(11, _)]) rfl (.plain rfl) (ws (cs' := [_, _]) sz23 rfl rfl rfl rfl rfl rfl rfl) rfl ?_)
     rintro _ _ ⟨rfl, rfl⟩
     refine ⟨(.cons rfl (.plain rfl) (rlA (vs := [_, _]) ag23 sz23 rfl rfl rfl) .nil), ?_⟩
     refine D_wr (.go (E' := []) rfl (.plain rfl) (ws (cs' := [_, _]) sz23 rfl rfl rfl rfl rfl rfl rfl) rfl ?_)
     rintro _ _ ⟨rfl, rfl⟩
     refine ⟨.nil, ?_⟩
     refine D_then (kp [5, 6, 8, 9, 10, 11, 13, 14, 15] rfl) ?_
     refine ⟨(b7, b8, b9), trivial, (.cons rfl (.cons rfl (.cons rfl (.cons rfl (.cons rfl (.cons rfl (.cons rfl (.cons rfl (.cons rfl (.nil _)))))))))), (by (try dsimp only); repeat (first | exact HSub.nil _ | refine HSub.take (by repeat first | exact Take.head | apply Take.tail) ?_ | exact HSub.refl _ | refine HSub.drop ?_ | refine HSub.app ?_)), rfl⟩
    refine (.go (E' := [(11, _), (8, _), (6, _)]) rfl (.plain rfl) (w_alloc zr23 rfl) rfl ?_)
    rintro _ _ ⟨b8, hb8, rfl, rfl⟩
    refine ⟨(.cons rfl (.plain rfl) (rlA (vs := [_, _]) ag23 sz23 rfl rfl rfl) (.cons rfl (.plain rfl) (rlA (vs := [_, _]) ag23 sz23 rfl rfl rfl) (.cons rfl (.plain rfl) (rlA (vs := [_, _]) ag23 sz23 rfl rfl rfl) .nil))), ?_⟩
    refine D_wr2 rfl ?_ ?_
    ·refine (.go (E' := [(11, _)]) rfl (.plain rfl) (w_callP rfl rfl rfl (fun w hg => rsub_c s.v.y (windsT l s.p.z).y (by omega) w)) rfl ?_)
     rintro _ _ ⟨rfl, rfl⟩
     refine ⟨(.cons rfl (.plain rfl) (rlA (vs := [_, _]) ag23 sz23 rfl rfl rfl) .nil), ?_⟩
     refine D_wr (.go (E' := [(11, _)]) rfl (.plain rfl) (w_alloc zr23 rfl) rfl ?_)
     rintro _ _ ⟨b9, hb9, rfl, rfl⟩
     refine ⟨(.cons rfl (.plain rfl) (rlA (vs := [_, _]) ag23 sz23 rfl rfl rfl) .nil), ?_⟩
     refine D_wr (.go (E' := [(11, _)]) rfl (.plain rfl) (ws (cs' := [_, _]) sz23 rfl rfl rfl rfl rfl rfl rfl) rfl ?_)
     rintro _ _ ⟨rfl, rfl⟩
     refine ⟨(.cons rfl (.plain rfl) (rlA (vs := [_, _]) ag23 sz23 rfl rfl rfl) .nil), ?_⟩
     refine D_wr (.go (E' := [(11, _)]) rfl (.plain rfl) (ws (cs' := [_, _]) sz23 rfl rfl rfl rfl rfl rfl rfl) rfl ?_)
     rintro _ _ ⟨rfl, rfl⟩
     refine ⟨(.cons rfl (.plain rfl) (rlA (vs := [_, _]) ag23 sz23 rfl rfl rfl) .nil), ?_⟩
     refine D_wr (.go (E' := []) rfl (.plain rfl) (ws (cs' := [_, _]) sz23 rfl rfl rfl rfl rfl rfl rfl) rfl ?_)
     rintro _ _ ⟨rfl, rfl⟩
     refine ⟨.nil, ?_⟩
     refine D_then (kp [5, 6, 8, 9, 10, 11, 13, 14, 15] rfl) ?_
     refine ⟨(b7, b9, b8), trivial, (.cons rfl (.cons rfl (.cons rfl (.cons rfl (.cons rfl (.cons rfl (.cons rfl (.cons rfl (.cons rfl (.nil _)))))))))), (by (try dsimp only); repeat (first | exact HSub.nil _ | refine HSub.take (by repeat first | exact Take.head | apply Take.tail) ?_ | exact HSub.refl _ | refine HSub.drop ?_ | refine HSub.app ?_)), rfl⟩
    refine (.go (E' := [(11, _), (8, _), (6, _)]) rfl (.plain rfl) (w_alloc zr23 rfl) rfl ?_)
    rintro _ _ ⟨b9, hb9, rfl, rfl⟩
    refine ⟨(.cons rfl (.plain rfl) (rlA (vs := [_, _]) ag23 sz23 rfl rfl rfl) (.cons rfl (.plain rfl) (rlA (vs := [_, _]) ag23 sz23 rfl rfl rfl) (.cons rfl (.plain rfl) (rlA (vs := [_, _]) ag23 sz23 rfl rfl rfl) .nil))), ?_⟩
    refine D_wr (.go (E' := [(11, _)]) rfl (.plain rfl) (w_callP rfl rfl rfl (fun w hg => rsub_c s.v.y (windsT l s.p.z).y (by omega) w)) rfl ?_)
    rintro _ _ ⟨rfl, rfl⟩
    refine ⟨(.cons rfl (.plain rfl) (rlA (vs := [_, _]) ag23 sz23 rfl rfl rfl) .nil), ?_⟩
    refine D_wr (.go (E' := [(11, _)]) rfl (.plain rfl) (ws (cs' := [_, _]) sz23 rfl rfl rfl rfl rfl rfl rfl) rfl ?_)
    rintro _ _ ⟨rfl, rfl⟩
    refine ⟨(.cons rfl (.plain rfl) (rlA (vs := [_, _]) ag23 sz23 rfl rfl rfl) .nil), ?_⟩
    refine D_wr (.go (E' := [(11, _)]) rfl (.plain rfl) (ws (cs' := [_, _]) sz23 rfl rfl rfl rfl rfl rfl rfl) rfl ?_)
    rintro _ _ ⟨rfl, rfl⟩
    refine ⟨(.cons rfl (.plain rfl) (rlA (vs := [_, _]) ag23 sz23 rfl rfl rfl) .nil), ?_⟩
    refine D_wr (.go (E' := []) rfl (.plain rfl) (ws (cs' := [_, _]) sz23 rfl rfl rfl rfl rfl rfl rfl) rfl ?_)
    rintro _ _ ⟨rfl, rfl⟩
    refine ⟨.nil, ?_⟩
    refine D_then (kp [5, 6, 8, 9, 10, 11, 13, 14, 15] rfl) ?_
    refine ⟨(b7, b9, b8), trivial, (.cons rfl (.cons rfl (.cons rfl (.cons rfl (.cons rfl (.cons rfl (.cons rfl (.cons rfl (.cons rfl (.nil _)))))))))), (by (try dsimp only); repeat (first | exact HSub.nil _ | refine HSub.take (by repeat first | exact Take.head | apply Take.tail) ?_ | exact HSub.refl _ | refine HSub.drop ?_ | refine HSub.app ?_)), rfl⟩
   ·refine (.go (E' := [(11, _), (8, _), (6, _)]) rfl (.plain rfl) (w_alloc zr23 rfl) rfl ?_)
    rintro _ _ ⟨b7, hb7, rfl, rfl⟩
    refine ⟨(.cons rfl (.plain rfl) (rlA (vs := [_, _]) ag23 sz23 rfl rfl rfl) (.cons rfl (.plain rfl) (rlA (vs := [_, _]) ag23 sz23 rfl rfl rfl) (.cons rfl (.plain rfl) (rlA (vs := [_, _]) ag23 sz23 rfl rfl rfl) .nil))), ?_⟩
    refine D_wr3 rfl rfl rfl ?_ ?_ ?_
    ·refine (.go (E' := [(11, _)]) rfl (.plain rfl) (w_callP rfl rfl rfl (fun w hg => rsub_c s.v.y (windsT l s.p.z).y (by omega) w)) rfl ?_)
     rintro _ _ ⟨rfl, rfl⟩
     refine ⟨(.cons rfl (.plain rfl) (rlA (vs := [_, _]) ag23 sz23 rfl rfl rfl) .nil), ?_⟩
     refine D_wr2 rfl ?_ ?_
     ·refine (.go (E' := [(11, _)]) rfl (.plain rfl) (w_alloc zr23 rfl) rfl ?_)
      rintro _ _ ⟨b8, hb8, rfl, rfl⟩
      refine ⟨(.cons rfl (.plain rfl) (rlA (vs := [_, _]) ag23 sz23 rfl rfl rfl) .nil), ?_⟩
      refine D_wr (.go (E' := [(11, _)]) rfl (.plain rfl) (w_alloc zr23 rfl) rfl ?_)
      rintro _ _ ⟨b9, hb9, rfl, rfl⟩
      refine ⟨(.cons rfl (.plain rfl) (rlA (vs := [_, _]) ag23 sz23 rfl rfl rfl) .nil), ?_⟩
      refine D_wr (.go (E' := [(11, _)]) rfl (.plain rfl) (ws (cs' := [_, _]) sz23 rfl rfl rfl rfl rfl rfl rfl) rfl ?_)
      rintro _ _ ⟨rfl, rfl⟩
      refine ⟨(.cons rfl (.plain rfl) (rlA (vs := [_, _]) ag23 sz23 rfl rfl rfl) .nil), ?_⟩
      refine D_wr (.go (E' := [(11, _)]) rfl (.plain rfl) (ws (cs' := [_, _]) sz23 rfl rfl rfl rfl rfl rfl rfl) rfl ?_)
      rintro _ _ ⟨rfl, rfl⟩
      refine ⟨(.cons rfl (.plain rfl) (rlA (vs := [_, _]) ag23 sz23 rfl rfl rfl) .nil), ?_⟩
      refine D_wr (.go (E' := []) rfl (.plain rfl) (ws (cs' := [_, _]) sz23 rfl rfl rfl rfl rfl rfl rfl) rfl ?_)
      rintro _ _ ⟨rfl, rfl⟩
      refine ⟨.nil, ?_⟩
      refine D_then (kp [5, 6, 8, 9, 10, 11, 13, 14, 15] rfl) ?_
      refine ⟨(b8, b7, b9), trivial, (.cons rfl (.cons rfl (.cons rfl (.cons rfl (.cons rfl (.cons rfl (.cons rfl (.cons rfl (.cons rfl (.nil _)))))))))), (by (try dsimp only); repeat (first | exact HSub.nil _ | refine HSub.take (by repeat first | exact Take.head | apply Take.tail) ?_ | exact HSub.refl _ | refine HSub.drop ?_ | refine HSub.app ?_)), rfl⟩
     refine (.go (E' := [(11, _)]) rfl (.plain rfl) (w_alloc zr23 rfl) rfl ?_)
     rintro _ _ ⟨b8, hb8, rfl, rfl⟩
     refine ⟨(.cons rfl (.plain rfl) (rlA (vs := [_, _]) ag23 sz23 rfl rfl rfl) .nil), ?_⟩
     refine D_wr (.go (E' := [(11, _)]) rfl (.plain rfl) (w_alloc zr23 rfl) rfl ?_)
     rintro _ _ ⟨b9, hb9, rfl, rfl⟩
     refine ⟨(.cons rfl (.plain rfl) (rlA (vs := [_, _]) ag23 sz23 rfl rfl rfl) .nil), ?_⟩
     refine D_wr (.go (E' := [(11, _)]) rfl (.plain rfl) (ws (cs' := [_, _]) sz23 rfl rfl rfl rfl rfl rfl rfl) rfl ?_)
     rintro _ _ ⟨rfl, rfl⟩
     refine ⟨(.cons rfl (.plain rfl) (rlA (vs := [_, _]) ag23 sz23 rfl rfl rfl) .nil), ?_⟩
     refine D_wr (.go (E' := [(11, _)]) rfl (.plain rfl) (ws (cs' := [_, _]) sz23 rfl rfl rfl rfl rfl rfl rfl) rfl ?_)
     rintro _ _ ⟨rfl, rfl⟩
     refine ⟨(.cons rfl (.plain rfl) (rlA (vs := [_, _]) ag23 sz23 rfl rfl rfl) .nil), ?_⟩
     refine D_wr (.go (E' := []) rfl (.plain rfl) (ws (cs' := [_, _]) sz23 rfl rfl rfl rfl rfl rfl rfl) rfl ?_)
     rintro _ _ ⟨rfl, rfl⟩
     refine ⟨.nil, ?_⟩
     refine D_then (kp [5, 6, 8, 9, 10, 11, 13, 14, 15] rfl) ?_
     refine ⟨(b9, b7, b8), trivial, (.cons rfl (.cons rfl (.cons rfl (.cons rfl (.cons rfl (.cons rfl (.cons rfl (.cons rfl (.cons rfl (.nil _)))))))))), (by (try dsimp only); repeat (first | exact HSub.nil _ | refine HSub.take (by repeat first | exact Take.head | apply Take.tail) ?_ | exact HSub.refl _ | refine HSub.drop ?_ | refine HSub.app ?_)), rfl⟩
    ·refine (.go (E' := [(11, _), (8, _), (6, _)]) rfl (.plain rfl) (w_alloc zr23 rfl) rfl ?_)
     rintro _ _ ⟨b8, hb8, rfl, rfl⟩
     refine ⟨(.cons rfl (.plain rfl) (rlA (vs := [_, _]) ag23 sz23 rfl rfl rfl) (.cons rfl (.plain rfl) (rlA (vs := [_, _]) ag23 sz23 rfl rfl rfl) (.cons rfl (.plain rfl) (rlA (vs := [_, _]) ag23 sz23 rfl rfl rfl) .nil))), ?_⟩
     refine D_wr2 rfl ?_ ?_
     ·refine (.go (E' := [(11, _)]) rfl (.plain rfl) (w_callP rfl rfl rfl (fun w hg => rsub_c s.v.y (windsT l s.p.z).y (by omega) w)) rfl ?_)
      rintro _ _ ⟨rfl, rfl⟩
      refine ⟨(.cons rfl (.plain rfl) (rlA (vs := [_, _]) ag23 sz23 rfl rfl rfl) .nil), ?_⟩
      refine D_wr (.go (E' := [(11, _)]) rfl (.plain rfl) (w_alloc zr23 rfl) rfl ?_)
      rintro _ _ ⟨b9, hb9, rfl, rfl⟩
      refine ⟨(.cons rfl (.plain rfl) (rlA (vs := [_, _]) ag23 sz23 rfl rfl rfl) .nil), ?_⟩
      refine D_wr (.go (E' := [(11, _)]) rfl (.plain rfl) (ws (cs' := [_, _]) sz23 rfl rfl rfl rfl rfl rfl rfl) rfl ?_)
      rintro _ _ ⟨rfl, rfl⟩
      refine ⟨(.cons rfl (.plain rfl) (rlA (vs := [_, _]) ag23 sz23 rfl rfl rfl) .nil), ?_⟩
      refine D_wr (.go (E' := [(11, _)]) rfl (.plain rfl) (ws (cs' := [_, _]) sz23 rfl rfl rfl rfl rfl rfl rfl) rfl ?_)
      rintro _ _ ⟨rfl, rfl⟩
      refine ⟨(.cons rfl (.plain rfl) (rlA (vs := [_, _]) ag23 sz23 rfl rfl rfl) .nil), ?_⟩
      refine D_wr (.go (E' := []) rfl (.plain rfl) (ws (cs' := [_, _]) sz23 rfl rfl rfl rfl rfl rfl rfl) rfl ?_)
      rintro _ _ ⟨rfl, rfl⟩
      refine ⟨.nil, ?_⟩
      refine D_then (kp [5, 6, 8, 9, 10, 11, 13, 14, 15] rfl) ?_
      refine ⟨(b8, b7, b9), trivial, (.cons rfl (.cons rfl (.cons rfl (.cons rfl (.cons rfl (.cons rfl (.cons rfl (.cons rfl (.cons rfl (.nil _)))))))))), (by (try dsimp only); repeat (first | exact HSub.nil _ | refine HSub.take (by repeat first | exact Take.head | apply Take.tail) ?_ | exact HSub.refl _ | refine HSub.drop ?_ | refine HSub.app ?_)), rfl⟩
     refine (.go (E' := [(11, _), (8, _), (6, _)]) rfl (.plain rfl) (w_alloc zr23 rfl) rfl ?_)
     rintro _ _ ⟨b9, hb9, rfl, rfl⟩
     refine ⟨(.cons rfl (.plain rfl) (rlA (vs := [_, _]) ag23 sz23 rfl rfl rfl) (.cons rfl (.plain rfl) (rlA (vs := [_, _]) ag23 sz23 rfl rfl rfl) (.cons rfl (.plain rfl) (rlA (vs := [_, _]) ag23 sz23 rfl rfl rfl) .nil))), ?_⟩
     refine D_wr (.go (E' := [(11, _)]) rfl (.plain rfl) (w_callP rfl rfl rfl (fun w hg => rsub_c s.v.y (windsT l s.p.z).y (by omega) w)) rfl ?_)
     rintro _ _ ⟨rfl, rfl⟩
     refine ⟨(.cons rfl (.plain rfl) (rlA (vs := [_, _]) ag23 sz23 rfl rfl rfl) .nil), ?_⟩
     refine D_wr (.go (E' := [(11, _)]) rfl (.plain rfl) (ws (cs' := [_, _]) sz23 rfl rfl rfl rfl rfl rfl rfl) rfl ?_)
     rintro _ _ ⟨rfl, rfl⟩
     refine ⟨(.cons rfl (.plain rfl) (rlA (vs := [_, _]) ag23 sz23 rfl rfl rfl) .nil), ?_⟩
     refine D_wr (.go (E' := [(11, _)]) rfl (.plain rfl) (ws (cs' := [_, _]) sz23 rfl rfl rfl rfl rfl rfl rfl) rfl ?_)
     rintro _ _ ⟨rfl, rfl⟩
     refine ⟨(.cons rfl (.plain rfl) (rlA (vs := [_, _]) ag23 sz23 rfl rfl rfl) .nil), ?_⟩
     refine D_wr (.go (E' := []) rfl (.plain rfl) (ws (cs' := [_, _]) sz23 rfl rfl rfl rfl rfl rfl rfl) rfl ?_)
     rintro _ _ ⟨rfl, rfl⟩
     refine ⟨.nil, ?_⟩
     refine D_then (kp [5, 6, 8, 9, 10, 11, 13, 14, 15] rfl) ?_
     refine ⟨(b8, b7, b9), trivial, (.cons rfl (.cons rfl (.cons rfl (.cons rfl (.cons rfl (.cons rfl (.cons rfl (.cons rfl (.cons rfl (.nil _)))))))))), (by (try dsimp only); repeat (first | exact HSub.nil _ | refine HSub.take (by repeat first | exact Take.head | apply Take.tail) ?_ | exact HSub.refl _ | refine HSub.drop ?_ | refine HSub.app ?_)), rfl⟩
    refine (.go (E' := [(11, _), (8, _), (6, _)]) rfl (.plain rfl) (w_alloc zr23 rfl) rfl ?_)
    rintro _ _ ⟨b8, hb8, rfl, rfl⟩
    refine ⟨(.cons rfl (.plain rfl) (rlA (vs := [_, _]) ag23 sz23 rfl rfl rfl) (.cons rfl (.plain rfl) (rlA (vs := [_, _]) ag23 sz23 rfl rfl rfl) (.cons rfl (.plain rfl) (rlA (vs := [_, _]) ag23 sz23 rfl rfl rfl) .nil))), ?_⟩
    refine D_wr2 rfl ?_ ?_
    ·refine (.go (E' := [(11, _)]) rfl (.plain rfl) (w_callP rfl rfl rfl (fun w hg => rsub_c s.v.y (windsT l s.p.z).y (by omega) w)) rfl ?_)
     rintro _ _ ⟨rfl, rfl⟩
     refine ⟨(.cons rfl (.plain rfl) (rlA (vs := [_, _]) ag23 sz23 rfl rfl rfl) .nil), ?_⟩
     refine D_wr (.go (E' := [(11, _)]) rfl (.plain rfl) (w_alloc zr23 rfl) rfl ?_)
     rintro _ _ ⟨b9, hb9, rfl, rfl⟩
     refine ⟨(.cons rfl (.plain rfl) (rlA (vs := [_, _]) ag23 sz23 rfl rfl rfl) .nil), ?_⟩
     refine D_wr (.go (E' := [(11, _)]) rfl (.plain rfl) (ws (cs' := [_, _]) sz23 rfl rfl rfl rfl rfl rfl rfl) rfl ?_)
     rintro _ _ ⟨rfl, rfl⟩
     refine ⟨(.cons rfl (.plain rfl) (rlA (vs := [_, _]) ag23 sz23 rfl rfl rfl) .nil), ?_⟩
     refine D_wr (.go (E' := [(11, _)]) rfl (.plain rfl) (ws (cs' := [_, _]) sz23 rfl rfl rfl rfl rfl rfl rfl) rfl ?_)
     rintro _ _ ⟨rfl, rfl⟩
     refine ⟨(.cons rfl (.plain rfl) (rlA (vs := [_, _]) ag23 sz23 rfl rfl rfl) .nil), ?_⟩
     refine D_wr (.go (E' := []) rfl (.plain rfl) (ws (cs' := [_, _]) sz23 rfl rfl rfl rfl rfl rfl rfl) rfl ?_)
     rintro _ _ ⟨rfl, rfl⟩
     refine ⟨.nil, ?_⟩
     refine D_then (kp [5, 6, 8, 9, 10, 11, 13, 14, 15] rfl) ?_
     refine ⟨(b9, b7, b8), trivial, (.cons rfl (.cons rfl (.cons rfl (.cons rfl (.cons rfl (.cons rfl (.cons rfl (.cons rfl (.cons rfl (.nil _)))))))))), (by (try dsimp only); repeat (first | exact HSub.nil _ | refine HSub.take (by repeat first | exact Take.head | apply Take.tail) ?_ | exact HSub.refl _ | refine HSub.drop ?_ | refine HSub.app ?_)), rfl⟩
    refine (.go (E' := [(11, _), (8, _), (6, _)]) rfl (.plain rfl) (w_alloc zr23 rfl) rfl ?_)
    rintro _ _ ⟨b9, hb9, rfl, rfl⟩
    refine ⟨(.cons rfl (.plain rfl) (rlA (vs := [_, _]) ag23 sz23 rfl rfl rfl) (.cons rfl (.plain rfl) (rlA (vs := [_, _]) ag23 sz23 rfl rfl rfl) (.cons rfl (.plain rfl) (rlA (vs := [_, _]) ag23 sz23 rfl rfl rfl) .nil))), ?_⟩
    refine D_wr (.go (E' := [(11, _)]) rfl (.plain rfl) (w_callP rfl rfl rfl (fun w hg => rsub_c s.v.y (windsT l s.p.z).y (by omega) w)) rfl ?_)
    rintro _ _ ⟨rfl, rfl⟩
    refine ⟨(.cons rfl (.plain rfl) (rlA (vs := [_, _]) ag23 sz23 rfl rfl rfl) .nil), ?_⟩
    refine D_wr (.go (E' := [(11, _)]) rfl (.plain rfl) (ws (cs' := [_, _]) sz23 rfl rfl rfl rfl rfl rfl rfl) rfl ?_)
    rintro _ _ ⟨rfl, rfl⟩
    refine ⟨(.cons rfl (.plain rfl) (rlA (vs := [_, _]) ag23 sz23 rfl rfl rfl) .nil), ?_⟩
    refine D_wr (.go (E' := [(11, _)]) rfl (.plain rfl) (ws (cs' := [_, _]) sz23 rfl rfl rfl rfl rfl rfl rfl) rfl ?_)
    rintro _ _ ⟨rfl, rfl⟩
    refine ⟨(.cons rfl (.plain rfl) (rlA (vs := [_, _]) ag23 sz23 rfl rfl rfl) .nil), ?_⟩
    refine D_wr (.go (E' := []) rfl (.plain rfl) (ws (cs' := [_, _]) sz23 rfl rfl rfl rfl rfl rfl rfl) rfl ?_)
    rintro _ _ ⟨rfl, rfl⟩
    refine ⟨.nil, ?_⟩
    refine D_then (kp [5, 6, 8, 9, 10, 11, 13, 14, 15] rfl) ?_
    refine ⟨(b9, b7, b8), trivial, (.cons rfl (.cons rfl (.cons rfl (.cons rfl (.cons rfl (.cons rfl (.cons rfl (.cons rfl (.cons rfl (.nil _)))))))))), (by (try dsimp only); repeat (first | exact HSub.nil _ | refine HSub.take (by repeat first | exact Take.head | apply Take.tail) ?_ | exact HSub.refl _ | refine HSub.drop ?_ | refine HSub.app ?_)), rfl⟩
   refine (.go (E' := [(11, _), (8, _), (6, _)]) rfl (.plain rfl) (w_alloc zr23 rfl) rfl ?_)
   rintro _ _ ⟨b7, hb7, rfl, rfl⟩
   refine ⟨(.cons rfl (.plain rfl) (rlA (vs := [_, _]) ag23 sz23 rfl rfl rfl) (.cons rfl (.plain rfl) (rlA (vs := [_, _]) ag23 sz23 rfl rfl rfl) (.cons rfl (.plain rfl) (rlA (vs := [_, _]) ag23 sz23 rfl rfl rfl) .nil))), ?_⟩
   refine D_wr3 rfl rfl rfl ?_ ?_ ?_
   ·refine (.go (E' := [(11, _)]) rfl (.plain rfl) (w_callP rfl rfl rfl (fun w hg => rsub_c s.v.y (windsT l s.p.z).y (by omega) w)) rfl ?_)
    rintro _ _ ⟨rfl, rfl⟩
    refine ⟨(.cons rfl (.plain rfl) (rlA (vs := [_, _]) ag23 sz23 rfl rfl rfl) .nil), ?_⟩
    refine D_wr2 rfl ?_ ?_
    ·refine (.go (E' := [(11, _)]) rfl (.plain rfl) (w_alloc zr23 rfl) rfl ?_)
     rintro _ _ ⟨b8, hb8, rfl, rfl⟩
     refine ⟨(.cons rfl (.plain rfl) (rlA (vs := [_, _]) ag23 sz23 rfl rfl rfl) .nil), ?_⟩
     refine D_wr (.go (E' := [(11, _)]) rfl (.plain rfl) (w_alloc zr23 rfl) rfl ?_)
     rintro _ _ ⟨b9, hb9, rfl, rfl⟩
     refine ⟨(.cons rfl (.plain rfl) (rlA (vs := [_, _]) ag23 sz23 rfl rfl rfl) .nil), ?_⟩
     refine D_wr (.go (E' := [(11, _)]) rfl (.plain rfl) (ws (cs' := [_, _]) sz23 rfl rfl rfl rfl rfl rfl rfl) rfl ?_)
     rintro _ _ ⟨rfl, rfl⟩
     refine ⟨(.cons rfl (.plain rfl) (rlA (vs := [_, _]) ag23 sz23 rfl rfl rfl) .nil), ?_⟩
     refine D_wr (.go (E' := [(11, _)]) rfl (.plain rfl) (ws (cs' := [_, _]) sz23 rfl rfl rfl rfl rfl rfl rfl) rfl ?_)
     rintro _ _ ⟨rfl, rfl⟩
     refine ⟨(.cons rfl (.plain rfl) (rlA (vs := [_, _]) ag23 sz23 rfl rfl rfl) .nil), ?_⟩
     refine D_wr (.go (E' := []) rfl (.plain rfl) (ws (cs' := [_, _]) sz23 rfl rfl rfl rfl rfl rfl rfl) rfl ?_)
     rintro _ _ ⟨rfl, rfl⟩
     refine ⟨.nil, ?_⟩
     refine D_then (kp [5, 6, 8, 9, 10, 11, 13, 14, 15] rfl) ?_
     refine ⟨(b8, b9, b7), trivial, (.cons rfl (.cons rfl (.cons rfl (.cons rfl (.cons rfl (.cons rfl (.cons rfl (.cons rfl (.cons rfl (.nil _)))))))))), (by (try dsimp only); repeat (first | exact HSub.nil _ | refine HSub.take (by repeat first | exact Take.head | apply Take.tail) ?_ | exact HSub.refl _ | refine HSub.drop ?_ | refine HSub.app ?_)), rfl⟩
    refine (.go (E' := [(11, _)]) rfl (.plain rfl) (w_alloc zr23 rfl) rfl ?_)
    rintro _ _ ⟨b8, hb8, rfl, rfl⟩
    refine ⟨(.cons rfl (.plain rfl) (rlA (vs := [_, _]) ag23 sz23 rfl rfl rfl) .nil), ?_⟩
    refine D_wr (.go (E' := [(11, _)]) rfl (.plain rfl) (w_alloc zr23 rfl) rfl ?_)
    rintro _ _ ⟨b9, hb9, rfl, rfl⟩
    refine ⟨(.cons rfl (.plain rfl) (rlA (vs := [_, _]) ag23 sz23 rfl rfl rfl) .nil), ?_⟩
    refine D_wr (.go (E' := [(11, _)]) rfl (.plain rfl) (ws (cs' := [_, _]) sz23 rfl rfl rfl rfl rfl rfl rfl) rfl ?_)
    rintro _ _ ⟨rfl, rfl⟩
    refine ⟨(.cons rfl (.plain rfl) (rlA (vs := [_, _]) ag23 sz23 rfl rfl rfl) .nil), ?_⟩
    refine D_wr (.go (E' := [(11, _)]) rfl (.plain rfl) (ws (cs' := [_, _]) sz23 rfl rfl rfl rfl rfl rfl rfl) rfl ?_)
    rintro _ _ ⟨rfl, rfl⟩
    refine ⟨(.cons rfl (.plain rfl) (rlA (vs := [_, _]) ag23 sz23 rfl rfl rfl) .nil), ?_⟩
    refine D_wr (.go (E' := []) rfl (.plain rfl) (ws (cs' := [_, _]) sz23 rfl rfl rfl rfl rfl rfl rfl) rfl ?_)
    rintro _ _ ⟨rfl, rfl⟩
    refine ⟨.nil, ?_⟩
    refine D_then (kp [5, 6, 8, 9, 10, 11, 13, 14, 15] rfl) ?_
    refine ⟨(b9, b8, b7), trivial, (.cons rfl (.cons rfl (.cons rfl (.cons rfl (.cons rfl (.cons rfl (.cons rfl (.cons rfl (.cons rfl (.nil _)))))))))), (by (try dsimp only); repeat (first | exact HSub.nil _ | refine HSub.take (by repeat first | exact Take.head | apply Take.tail) ?_ | exact HSub.refl _ | refine HSub.drop ?_ | refine HSub.app ?_)), rfl⟩
   ·refine (.go (E' := [(11, _), (8, _), (6, _)]) rfl (.plain rfl) (w_alloc zr23 rfl) rfl ?_)
    rintro _ _ ⟨b8, hb8, rfl, rfl⟩
    refine ⟨(.cons rfl (.plain rfl) (rlA (vs := [_, _]) ag23 sz23 rfl rfl rfl) (.cons rfl (.plain rfl) (rlA (vs := [_, _]) ag23 sz23 rfl rfl rfl) (.cons rfl (.plain rfl) (rlA (vs := [_, _]) ag23 sz23 rfl rfl rfl) .nil))), ?_⟩
    refine D_wr2 rfl ?_ ?_
    ·refine (.go (E' := [(11, _)]) rfl (.plain rfl) (w_callP rfl rfl rfl (fun w hg => rsub_c s.v.y (windsT l s.p.z).y (by omega) w)) rfl ?_)
     rintro _ _ ⟨rfl, rfl⟩
     refine ⟨(.cons rfl (.plain rfl) (rlA (vs := [_, _]) ag23 sz23 rfl rfl rfl) .nil), ?_⟩
     refine D_wr (.go (E' := [(11, _)]) rfl (.plain rfl) (w_alloc zr23 rfl) rfl ?_)
     rintro _ _ ⟨b9, hb9, rfl, rfl⟩
     refine ⟨(.cons rfl (.plain rfl) (rlA (vs := [_, _]) ag23 sz23 rfl rfl rfl) .nil), ?_⟩
     refine D_wr (.go (E' := [(11, _)]) rfl (.plain rfl) (ws (cs' := [_, _]) sz23 rfl rfl rfl rfl rfl rfl rfl) rfl ?_)
     rintro _ _ ⟨rfl, rfl⟩
     refine ⟨(.cons rfl (.plain rfl) (rlA (vs := [_, _]) ag23 sz23 rfl rfl rfl) .nil), ?_⟩
     refine D_wr (.go (E' := [(11, _)]) rfl (.plain rfl) (ws (cs' := [_, _]) sz23 rfl rfl rfl rfl rfl rfl rfl) rfl ?_)
     rintro _ _ ⟨rfl, rfl⟩
     refine ⟨(.cons rfl (.plain rfl) (rlA (vs := [_, _]) ag23 sz23 rfl rfl rfl) .nil), ?_⟩
     refine D_wr (.go (E' := []) rfl (.plain rfl) (ws (cs' := [_, _]) sz23 rfl rfl rfl rfl rfl rfl rfl) rfl ?_)
     rintro _ _ ⟨rfl, rfl⟩
     refine ⟨.nil, ?_⟩
     refine D_then (kp [5, 6, 8, 9, 10, 11, 13, 14, 15] rfl) ?_
     refine ⟨(b8, b9, b7), trivial, (.cons rfl (.cons rfl (.cons rfl (.cons rfl (.cons rfl (.cons rfl (.cons rfl (.cons rfl (.cons rfl (.nil _)))))))))), (by (try dsimp only); repeat (first | exact HSub.nil _ | refine HSub.take (by repeat first | exact Take.head | apply Take.tail) ?_ | exact HSub.refl _ | refine HSub.drop ?_ | refine HSub.app ?_)), rfl⟩
    refine (.go (E' := [(11, _), (8, _), (6, _)]) rfl (.plain rfl) (w_alloc zr23 rfl) rfl ?_)
    rintro _ _ ⟨b9, hb9, rfl, rfl⟩
    refine ⟨(.cons rfl (.plain rfl) (rlA (vs := [_, _]) ag23 sz23 rfl rfl rfl) (.cons rfl (.plain rfl) (rlA (vs := [_, _]) ag23 sz23 rfl rfl rfl) (.cons rfl (.plain rfl) (rlA (vs := [_, _]) ag23 sz23 rfl rfl rfl) .nil))), ?_⟩
    refine D_wr (.go (E' := [(11, _)]) rfl (.plain rfl) (w_callP rfl rfl rfl (fun w hg => rsub_c s.v.y (windsT l s.p.z).y (by omega) w)) rfl ?_)
    rintro _ _ ⟨rfl, rfl⟩
    refine ⟨(.cons rfl (.plain rfl) (rlA (vs := [_, _]) ag23 sz23 rfl rfl rfl) .nil), ?_⟩
    refine D_wr (.go (E' := [(11, _)]) rfl (.plain rfl) (ws (cs' := [_, _]) sz23 rfl rfl rfl rfl rfl rfl rfl) rfl ?_)
    rintro _ _ ⟨rfl, rfl⟩
    refine ⟨(.cons rfl (.plain rfl) (rlA (vs := [_, _]) ag23 sz23 rfl rfl rfl) .nil), ?_⟩
    refine D_wr (.go (E' := [(11, _)]) rfl (.plain rfl) (ws (cs' := [_, _]) sz23 rfl rfl rfl rfl rfl rfl rfl) rfl ?_)
    rintro _ _ ⟨rfl, rfl⟩
    refine ⟨(.cons rfl (.plain rfl) (rlA (vs := [_, _]) ag23 sz23 rfl rfl rfl) .nil), ?_⟩
    refine D_wr (.go (E' := []) rfl (.plain rfl) (ws (cs' := [_, _]) sz23 rfl rfl rfl rfl rfl rfl rfl) rfl ?_)
    rintro _ _ ⟨rfl, rfl⟩
    refine ⟨.nil, ?_⟩
    refine D_then (kp [5, 6, 8, 9, 10, 11, 13, 14, 15] rfl) ?_
    refine ⟨(b8, b9, b7), trivial, (.cons rfl (.cons rfl (.cons rfl (.cons rfl (.cons rfl (.cons rfl (.cons rfl (.cons rfl (.cons rfl (.nil _)))))))))), (by (try dsimp only); repeat (first | exact HSub.nil _ | refine HSub.take (by repeat first | exact Take.head | apply Take.tail) ?_ | exact HSub.refl _ | refine HSub.drop ?_ | refine HSub.app ?_)), rfl⟩
   refine (.go (E' := [(11, _), (8, _), (6, _)]) rfl (.plain rfl) (w_alloc zr23 rfl) rfl ?_)
   rintro _ _ ⟨b8, hb8, rfl, rfl⟩
   refine ⟨(.cons rfl (.plain rfl) (rlA (vs := [_, _]) ag23 sz23 rfl rfl rfl) (.cons rfl (.plain rfl) (rlA (vs := [_, _]) ag23 sz23 rfl rfl rfl) (.cons rfl (.plain rfl) (rlA (vs := [_, _]) ag23 sz23 rfl rfl rfl) .nil))), ?_⟩
   refine D_wr2 rfl ?_ ?_
   ·refine (.go (E' := [(11, _)]) rfl (.plain rfl) (w_callP rfl rfl rfl (fun w hg => rsub_c s.v.y (windsT l s.p.z).y (by omega) w)) rfl ?_)
    rintro _ _ ⟨rfl, rfl⟩
    refine ⟨(.cons rfl (.plain rfl) (rlA (vs := [_, _]) ag23 sz23 rfl rfl rfl) .nil), ?_⟩
    refine D_wr (.go (E' := [(11, _)]) rfl (.plain rfl) (w_alloc zr23 rfl) rfl ?_)
    rintro _ _ ⟨b9, hb9, rfl, rfl⟩
    refine ⟨(.cons rfl (.plain rfl) (rlA (vs := [_, _]) ag23 sz23 rfl rfl rfl) .nil), ?_⟩
    refine D_wr (.go (E' := [(11, _)]) rfl (.plain rfl) (ws (cs' := [_, _]) sz23 rfl rfl rfl rfl rfl rfl rfl) rfl ?_)
    rintro _ _ ⟨rfl, rfl⟩
    refine ⟨(.cons rfl (.plain rfl) (rlA (vs := [_, _]) ag23 sz23 rfl rfl rfl) .nil), ?_⟩
    refine D_wr (.go (E' := [(11, _)]) rfl (.plain rfl) (ws (cs' := [_, _]) sz23 rfl rfl rfl rfl rfl rfl rfl) rfl ?_)
    rintro _ _ ⟨rfl, rfl⟩
    refine ⟨(.cons rfl (.plain rfl) (rlA (vs := [_, _]) ag23 sz23 rfl rfl rfl) .nil), ?_⟩
    refine D_wr (.go (E' := []) rfl (.plain rfl) (ws (cs' := [_, _]) sz23 rfl rfl rfl rfl rfl rfl rfl) rfl ?_)
    rintro _ _ ⟨rfl, rfl⟩
    refine ⟨.nil, ?_⟩
    refine D_then (kp [5, 6, 8, 9, 10, 11, 13, 14, 15] rfl) ?_
    refine ⟨(b9, b8, b7), trivial, (.cons rfl (.cons rfl (.cons rfl (.cons rfl (.cons rfl (.cons rfl (.cons rfl (.cons rfl (.cons rfl (.nil _)))))))))), (by (try dsimp only); repeat (first | exact HSub.nil _ | refine HSub.take (by repeat first | exact Take.head | apply Take.tail) ?_ | exact HSub.refl _ | refine HSub.drop ?_ | refine HSub.app ?_)), rfl⟩
   refine (.go (E' := [(11, _), (8, _), (6, _)]) rfl (.plain rfl) (w_alloc zr23 rfl) rfl ?_)
   rintro _ _ ⟨b9, hb9, rfl, rfl⟩
   refine ⟨(.cons rfl (.plain rfl) (rlA (vs := [_, _]) ag23 sz23 rfl rfl rfl) (.cons rfl (.plain rfl) (rlA (vs := [_, _]) ag23 sz23 rfl rfl rfl) (.cons rfl (.plain rfl) (rlA (vs := [_, _]) ag23 sz23 rfl rfl rfl) .nil))), ?_⟩
   refine D_wr (.go (E' := [(11, _)]) rfl (.plain rfl) (w_callP rfl rfl rfl (fun w hg => rsub_c s.v.y (windsT l s.p.z).y (by omega) w)) rfl ?_)
   rintro _ _ ⟨rfl, rfl⟩
   refine ⟨(.cons rfl (.plain rfl) (rlA (vs := [_, _]) ag23 sz23 rfl rfl rfl) .nil), ?_⟩
   refine D_wr (.go (E' := [(11, _)]) rfl (.plain rfl) (ws (cs' := [_, _]) sz23 rfl rfl rfl rfl rfl rfl rfl) rfl ?_)
   rintro _ _ ⟨rfl, rfl⟩
   refine ⟨(.cons rfl (.plain rfl) (rlA (vs := [_, _]) ag23 sz23 rfl rfl rfl) .nil), ?_⟩
   refine D_wr (.go (E' := [(11, _)]) rfl (.plain rfl) (ws (cs' := [_, _]) sz23 rfl rfl rfl rfl rfl rfl rfl) rfl ?_)
   rintro _ _ ⟨rfl, rfl⟩
   refine ⟨(.cons rfl (.plain rfl) (rlA (vs := [_, _]) ag23 sz23 rfl rfl rfl) .nil), ?_⟩
   refine D_wr (.go (E' := []) rfl (.plain rfl) (ws (cs' := [_, _]) sz23 rfl rfl rfl rfl rfl rfl rfl) rfl ?_)
   rintro _ _ ⟨rfl, rfl⟩
   refine ⟨.nil, ?_⟩
   refine D_then (kp [5, 6, 8, 9, 10, 11, 13, 14, 15] rfl) ?_
   refine ⟨(b9, b8, b7), trivial, (.cons rfl (.cons rfl (.cons rfl (.cons rfl (.cons rfl (.cons rfl (.cons rfl (.cons rfl (.cons rfl (.nil _)))))))))), (by (try dsimp only); repeat (first | exact HSub.nil _ | refine HSub.take (by repeat first | exact Take.head | apply Take.tail) ?_ | exact HSub.refl _ | refine HSub.drop ?_ | refine HSub.app ?_)), rfl⟩
  ·refine (.go (E' := [(11, _), (8, _), (6, _), (3, _), (1, _)]) rfl (.plain rfl) (w_alloc zr23 rfl) rfl ?_)
   rintro _ _ ⟨b7, hb7, rfl, rfl⟩
   refine ⟨(.cons rfl (.plain rfl) (rlA (vs := [_, _]) ag23 sz23 rfl rfl rfl) (.cons rfl (.plain rfl) (rlA (vs := [_, _]) ag23 sz23 rfl rfl rfl) (.cons rfl (.plain rfl) (rlA (vs := [_, _]) ag23 sz23 rfl rfl rfl) (.cons rfl (.plain rfl) (rlA (vs := [_, _]) ag23 sz23 rfl rfl rfl) (.cons rfl (.plain rfl) (rlA (vs := [_, _]) ag23 sz23 rfl rfl rfl) .nil))))), ?_⟩
   refine D_wr3 rfl rfl rfl ?_ ?_ ?_
   ·refine (.go (E' := [(11, _), (8, _), (6, _)]) rfl (.plain rfl) (w_callP rfl rfl rfl (fun w hg => rsub_c s.v.x (windsT l s.p.z).x (by omega) w)) rfl ?_)
    rintro _ _ ⟨rfl, rfl⟩
    refine ⟨(.cons rfl (.plain rfl) (rlA (vs := [_, _]) ag23 sz23 rfl rfl rfl) (.cons rfl (.plain rfl) (rlA (vs := [_, _]) ag23 sz23 rfl rfl rfl) (.cons rfl (.plain rfl) (rlA (vs := [_, _]) ag23 sz23 rfl rfl rfl) .nil))), ?_⟩
    refine D_wr3 rfl rfl rfl ?_ ?_ ?_
    ·refine (.go (E' := [(11, _)]) rfl (.plain rfl) (w_callP rfl rfl rfl (fun w hg => rsub_c s.v.y (windsT l s.p.z).y (by omega) w)) rfl ?_)
     rintro _ _ ⟨rfl, rfl⟩
     refine ⟨(.cons rfl (.plain rfl) (rlA (vs := [_, _]) ag23 sz23 rfl rfl rfl) .nil), ?_⟩
     refine D_wr2 rfl ?_ ?_
     ·refine (.go (E' := [(11, _)]) rfl (.plain rfl) (w_alloc zr23 rfl) rfl ?_)
      rintro _ _ ⟨b8, hb8, rfl, rfl⟩
      refine ⟨(.cons rfl (.plain rfl) (rlA (vs := [_, _]) ag23 sz23 rfl rfl rfl) .nil), ?_⟩
      refine D_wr (.go (E' := [(11, _)]) rfl (.plain rfl) (w_alloc zr23 rfl) rfl ?_)
      rintro _ _ ⟨b9, hb9, rfl, rfl⟩
      refine ⟨(.cons rfl (.plain rfl) (rlA (vs := [_, _]) ag23 sz23 rfl rfl rfl) .nil), ?_⟩
      refine D_wr (.go (E' := [(11, _)]) rfl (.plain rfl) (ws (cs' := [_, _]) sz23 rfl rfl rfl rfl rfl rfl rfl) rfl ?_)
      rintro _ _ ⟨rfl, rfl⟩
      refine ⟨(.cons rfl (.plain rfl) (rlA (vs := [_, _]) ag23 sz23 rfl rfl rfl) .nil), ?_⟩
      refine D_wr (.go (E' := [(11, _)]) rfl (.plain rfl) (ws (cs' := [_, _]) sz23 rfl rfl rfl rfl rfl rfl rfl) rfl ?_)
      rintro _ _ ⟨rfl, rfl⟩
      refine ⟨(.cons rfl (.plain rfl) (rlA (vs := [_, _]) ag23 sz23 rfl rfl rfl) .nil), ?_⟩
      refine D_wr (.go (E' := []) rfl (.plain rfl) (ws (cs' := [_, _]) sz23 rfl rfl rfl rfl rfl rfl rfl) rfl ?_)
      rintro _ _ ⟨rfl, rfl⟩
      refine ⟨.nil, ?_⟩
      refine D_then (kp [5, 6, 8, 9, 10, 11, 13, 14, 15] rfl) ?_
      refine ⟨(b7, b8, b9), trivial, (.cons rfl (.cons rfl (.cons rfl (.cons rfl (.cons rfl (.cons rfl (.cons rfl (.cons rfl (.cons rfl (.nil _)))))))))), (by (try dsimp only); repeat (first | exact HSub.nil _ | refine HSub.take (by repeat first | exact Take.head | apply Take.tail) ?_ | exact HSub.refl _ | refine HSub.drop ?_ | refine HSub.app ?_)), rfl⟩
     refine (.go (E' := [(11, _)]) rfl (.plain rfl) (w_alloc zr23 rfl) rfl ?_)
     rintro _ _ ⟨b8, hb8, rfl, rfl⟩
     refine ⟨(.cons rfl (.plain rfl) (rlA (vs := [_, _]) ag23 sz23 rfl rfl rfl) .nil), ?_⟩
     refine D_wr (.go (E' := [(11, _)]) rfl (.plain rfl) (w_alloc zr23 rfl) rfl ?_)
     rintro _ _ ⟨b9, hb9, rfl, rfl⟩
     refine ⟨(.cons rfl (.plain rfl) (rlA (vs := [_, _]) ag23 sz23 rfl rfl rfl) .nil), ?_⟩
     refine D_wr (.go (E' := [(11, _)]) rfl (.plain rfl) (ws (cs' := [_, _]) sz23 rfl rfl rfl rfl rfl rfl rfl) rfl ?_)
     rintro _ _ ⟨rfl, rfl⟩
     refine ⟨(.cons rfl (.plain rfl) (rlA (vs := [_, _]) ag23 sz23 rfl rfl rfl) .nil), ?_⟩
     refine D_wr (.go (E' := [(11, _)]) rfl (.plain rfl) (ws (cs' := [_, _]) sz23 rfl rfl rfl rfl rfl rfl rfl) rfl ?_)
     rintro _ _ ⟨rfl, rfl⟩
     refine ⟨(.cons rfl (.plain rfl) (rlA (vs := [_, _]) ag23 sz23 rfl rfl rfl) .nil), ?_⟩
     refine D_wr (.go (E' := []) rfl (.plain rfl) (ws (cs' := [_, _]) sz23 rfl rfl rfl rfl rfl rfl rfl) rfl ?_)
     rintro _ _ ⟨rfl, rfl⟩
     refine ⟨.nil, ?_⟩
     refine D_then (kp [5, 6, 8, 9, 10, 11, 13, 14, 15] rfl) ?_
     refine ⟨(b7, b9, b8), trivial, (.cons rfl (.cons rfl (.cons rfl (.cons rfl (.cons rfl (.cons rfl (.cons rfl (.cons rfl (.cons rfl (.nil _)))))))))), (by (try dsimp only); repeat (first | exact HSub.nil _ | refine HSub.take (by repeat first | exact Take.head | apply Take.tail) ?_ | exact HSub.refl _ | refine HSub.drop ?_ | refine HSub.app ?_)), rfl⟩
    ·refine (.go (E' := [(11, _), (8, _), (6, _)]) rfl (.plain rfl) (w_alloc zr23 rfl) rfl ?_)
     rintro _ _ ⟨b8, hb8, rfl, rfl⟩
     refine ⟨(.cons rfl (.plain rfl) (rlA (vs := [_, _]) ag23 sz23 rfl rfl rfl) (.cons rfl (.plain rfl) (rlA (vs := [_, _]) ag23 sz23 rfl rfl rfl) (.cons rfl (.plain rfl) (rlA (vs := [_, _]) ag23 sz23 rfl rfl rfl) .nil))), ?_⟩
     refine D_wr2 rfl ?_ ?_
     ·refine (.go (E' := [(11, _)]) rfl (.plain rfl) (w_callP rfl rfl rfl (fun w hg => rsub_c s.v.y (windsT l s.p.z).y (by omega) w)) rfl ?_)
      rintro _ _ ⟨rfl, rfl⟩
      refine ⟨(.cons rfl (.plain rfl) (rlA (vs := [_, _]) ag23 sz23 rfl rfl rfl) .nil), ?_⟩
      refine D_wr (.go (E' := [(11, _)]) rfl (.plain rfl) (w_alloc zr23 rfl) rfl ?_)
      rintro _ _ ⟨b9, hb9, rfl, rfl⟩
      refine ⟨(.cons rfl (.plain rfl) (rlA (vs := [_, _]) ag23 sz23 rfl rfl rfl) .nil), ?_⟩
      refine D_wr (.go (E' := [(11, _)]) rfl (.plain rfl) (ws (cs' := [_, _]) sz23 rfl rfl rfl rfl rfl rfl rfl) rfl ?_)
      rintro _ _ ⟨rfl, rfl⟩
      refine ⟨(.cons rfl (.plain rfl) (rlA (vs := [_, _]) ag23 sz23 rfl rfl rfl) .nil), ?_⟩
      refine D_wr (.go (E' := [(11, _)]) rfl (.plain rfl) (ws (cs' := [_, _]) sz23 rfl rfl rfl rfl rfl rfl rfl) rfl ?_)
      rintro _ _ ⟨rfl, rfl⟩
      refine ⟨(.cons rfl (.plain rfl) (rlA (vs := [_, _]) ag23 sz23 rfl rfl rfl) .nil), ?_⟩
      refine D_wr (.go (E' := []) rfl (.plain rfl) (ws (cs' := [_, _]) sz23 rfl rfl rfl rfl rfl rfl rfl) rfl ?_)
      rintro _ _ ⟨rfl, rfl⟩
      refine ⟨.nil, ?_⟩
      refine D_then (kp [5, 6, 8, 9, 10, 11, 13, 14, 15] rfl) ?_
      refine ⟨(b7, b8, b9), trivial, (.cons rfl (.cons rfl (.cons rfl (.cons rfl (.cons rfl (.cons rfl (.cons rfl (.cons rfl (.cons rfl (.nil _)))))))))), (by (try dsimp only); repeat (first | exact HSub.nil _ | refine HSub.take (by repeat first | exact Take.head | apply Take.tail) ?_ | exact HSub.refl _ | refine HSub.drop ?_ | refine HSub.app ?_)), rfl⟩
     refine (.go (E' := [(11, _), (8, _), (6, _)]) rfl (.plain rfl) (w_alloc zr23 rfl) rfl ?_)
     rintro _ _ ⟨b9, hb9, rfl, rfl⟩
     refine ⟨(.cons rfl (.plain rfl) (rlA (vs := [_, _]) ag23 sz23 rfl rfl rfl) (.cons rfl (.plain rfl) (rlA (vs := [_, _]) ag23 sz23 rfl rfl rfl) (.cons rfl (.plain rfl) (rlA (vs := [_, _]) ag23 sz23 rfl rfl rfl) .nil))), ?_⟩
     refine D_wr (.go (E' := [(11, _)]) rfl (.plain rfl) (w_callP rfl rfl rfl (fun w hg => rsub_c s.v.y (windsT l s.p.z).y (by omega) w)) rfl ?_)
     rintro _ _ ⟨rfl, rfl⟩
     refine ⟨(.cons rfl (.plain rfl) (rlA (vs := [_, _]) ag23 sz23 rfl rfl rfl) .nil), ?_⟩
     refine D_wr (.go (E' := [(11, _)]) rfl (.plain rfl) (ws (cs' := [_, _]) sz23 rfl rfl rfl rfl rfl rfl rfl) rfl ?_)
     rintro _ _ ⟨rfl, rfl⟩
     refine ⟨(.cons rfl (.plain rfl) (rlA (vs := [_, _]) ag23 sz23 rfl rfl rfl) .nil), ?_⟩
     refine D_wr (.go (E' := [(11, _)]) rfl (.plain rfl) (ws (cs' := [_, _]) sz23 rfl rfl rfl rfl rfl rfl rfl) rfl ?_)
     rintro _ _ ⟨rfl, rfl⟩
     refine ⟨(.cons rfl (.plain rfl) (rlA (vs := [_, _]) ag23 sz23 rfl rfl rfl) .nil), ?_⟩
     refine D_wr (.go (E' := []) rfl (.plain rfl) (ws (cs' := [_, _]) sz23 rfl rfl rfl rfl rfl rfl rfl) rfl ?_)
     rintro _ _ ⟨rfl, rfl⟩
     refine ⟨.nil, ?_⟩
     refine D_then (kp [5, 6, 8, 9, 10, 11, 13, 14, 15] rfl) ?_
     refine ⟨(b7, b8, b9), trivial, (.cons rfl (.cons rfl (.cons rfl (.cons rfl (.cons rfl (.cons rfl (.cons rfl (.cons rfl (.cons rfl (.nil _)))))))))), (by (try dsimp only); repeat (first | exact HSub.nil _ | refine HSub.take (by repeat first | exact Take.head | apply Take.tail) ?_ | exact HSub.refl _ | refine HSub.drop ?_ | refine HSub.app ?_)), rfl⟩
    refine (.go (E' := [(11, _), (8, _), (6, _)]) rfl (.plain rfl) (w_alloc zr23 rfl) rfl ?_)
    rintro _ _ ⟨b8, hb8, rfl, rfl⟩
    refine ⟨(.cons rfl (.plain rfl) (rlA (vs := [_, _]) ag23 sz23 rfl rfl rfl) (.cons rfl (.plain rfl) (rlA (vs := [_, _]) ag23 sz23 rfl rfl rfl) (.cons rfl (.plain rfl) (rlA (vs := [_, _]) ag23 sz23 rfl rfl rfl) .nil))), ?_⟩
    refine D_wr2 rfl ?_ ?_
    ·refine (.go (E' := [(11, _)]) rfl (.plain rfl) (w_callP rfl rfl rfl (fun w hg => rsub_c s.v.y (windsT l s.p.z).y (by omega) w)) rfl ?_)
     rintro _ _ ⟨rfl, rfl⟩
     refine ⟨(.cons rfl (.plain rfl) (rlA (vs := [_, _]) ag23 sz23 rfl rfl rfl) .nil), ?_⟩
     refine D_wr (.go (E' := [(11, _)]) rfl (.plain rfl) (w_alloc zr23 rfl) rfl ?_)
     rintro _ _ ⟨b9, hb9, rfl, rfl⟩
     refine ⟨(.cons rfl (.plain rfl) (rlA (vs := [_, _]) ag23 sz23 rfl rfl rfl) .nil), ?_⟩
     refine D_wr (.go (E' := [(11, _)]) rfl (.plain rfl) (ws (cs' := [_, _]) sz23 rfl rfl rfl rfl rfl rfl rfl) rfl ?_)
     rintro _ _ ⟨rfl, rfl⟩
     refine ⟨(.cons rfl (.plain rfl) (rlA (vs := [_, _]) ag23 sz23 rfl rfl rfl) .nil), ?_⟩
     refine D_wr (.go (E' := [(11, _)]) rfl (.plain rfl) (ws (cs' := [_, _]) sz23 rfl rfl rfl rfl rfl rfl rfl) rfl ?_)
     rintro _ _ ⟨rfl, rfl⟩
     refine ⟨(.cons rfl (.plain rfl) (rlA (vs := [_, _]) ag23 sz23 rfl rfl rfl) .nil), ?_⟩
     refine D_wr (.go (E' := []) rfl (.plain rfl) (ws (cs' := [_, _]) sz23 rfl rfl rfl rfl rfl rfl rfl) rfl ?_)
     rintro _ _ ⟨rfl, rfl⟩
     refine ⟨.nil, ?_⟩
     refine D_then (kp [5, 6, 8, 9, 10, 11, 13, 14, 15] rfl) ?_
     refine ⟨(b7, b9, b8), trivial, (.cons rfl (.cons rfl (.cons rfl (.cons rfl (.cons rfl (.cons rfl (.cons rfl (.cons rfl (.cons rfl (.nil _)))))))))), (by (try dsimp only); repeat (first | exact HSub.nil _ | refine HSub.take (by repeat first | exact Take.head | apply Take.tail) ?_ | exact HSub.refl _ | refine HSub.drop ?_ | refine HSub.app ?_)), rfl⟩
    refine (.go (E' := [(11, _), (8, _), (6, _)]) rfl (.plain rfl) (w_alloc zr23 rfl) rfl ?_)
    rintro _ _ ⟨b9, hb9, rfl, rfl⟩
    refine ⟨(.cons rfl (.plain rfl) (rlA (vs := [_, _]) ag23 sz23 rfl rfl rfl) (.cons rfl (.plain rfl) (rlA (vs := [_, _]) ag23 sz23 rfl rfl rfl) (.cons rfl (.plain rfl) (rlA (vs := [_, _]) ag23 sz23 rfl rfl rfl) .nil))), ?_⟩
    refine D_wr (.go (E' := [(11, _)]) rfl (.plain rfl) (w_callP rfl rfl rfl (fun w hg => rsub_c s.v.y (windsT l s.p.z).y (by omega) w)) rfl ?_)
    rintro _ _ ⟨rfl, rfl⟩
    refine ⟨(.cons rfl (.plain rfl) (rlA (vs := [_, _]) ag23 sz23 rfl rfl rfl) .nil), ?_⟩
    refine D_wr (.go (E' := [(11, _)]) rfl (.plain rfl) (ws (cs' := [_, _]) sz23 rfl rfl rfl rfl rfl rfl rfl) rfl ?_)
    rintro _ _ ⟨rfl, rfl⟩
    refine ⟨(.cons rfl (.plain rfl) (rlA (vs := [_, _]) ag23 sz23 rfl rfl rfl) .nil), ?_⟩
    refine D_wr (.go (E' := [(11, _)]) rfl (.plain rfl) (ws (cs' := [_, _]) sz23 rfl rfl rfl rfl rfl rfl rfl) rfl ?_)
    rintro _ _ ⟨rfl, rfl⟩
    refine ⟨(.cons rfl (.plain rfl) (rlA (vs := [_, _]) ag23 sz23 rfl rfl rfl) .nil), ?_⟩
    refine D_wr (.go (E' := []) rfl (.plain rfl) (ws (cs' := [_, _]) sz23 rfl rfl rfl rfl rfl rfl rfl) rfl ?_)
    rintro _ _ ⟨rfl, rfl⟩
    refine ⟨.nil, ?_⟩
    refine D_then (kp [5, 6, 8, 9, 10, 11, 13, 14, 15] rfl) ?_
    refine ⟨(b7, b9, b8), trivial, (.cons rfl (.cons rfl (.cons rfl (.cons rfl (.cons rfl (.cons rfl (.cons rfl (.cons rfl (.cons rfl (.nil _)))))))))), (by (try dsimp only); repeat (first | exact HSub.nil _ | refine HSub.take (by repeat first | exact Take.head | apply Take.tail) ?_ | exact HSub.refl _ | refine HSub.drop ?_ | refine HSub.app ?_)), rfl⟩
   ·refine (.go (E' := [(11, _), (8, _), (6, _), (3, _), (1, _)]) rfl (.plain rfl) (w_alloc zr23 rfl) rfl ?_)
    rintro _ _ ⟨b8, hb8, rfl, rfl⟩
    refine ⟨(.cons rfl (.plain rfl) (rlA (vs := [_, _]) ag23 sz23 rfl rfl rfl) (.cons rfl (.plain rfl) (rlA (vs := [_, _]) ag23 sz23 rfl rfl rfl) (.cons rfl (.plain rfl) (rlA (vs := [_, _]) ag23 sz23 rfl rfl rfl) (.cons rfl (.plain rfl) (rlA (vs := [_, _]) ag23 sz23 rfl rfl rfl) (.cons rfl (.plain rfl) (rlA (vs := [_, _]) ag23 sz23 rfl rfl rfl) .nil))))), ?_⟩
    refine D_wr2 rfl ?_ ?_
    ·refine (.go (E' := [(11, _), (8, _), (6, _)]) rfl (.plain rfl) (w_callP rfl rfl rfl (fun w hg => rsub_c s.v.x (windsT l s.p.z).x (by omega) w)) rfl ?_)
     rintro _ _ ⟨rfl, rfl⟩
     refine ⟨(.cons rfl (.plain rfl) (rlA (vs := [_, _]) ag23 sz23 rfl rfl rfl) (.cons rfl (.plain rfl) (rlA (vs := [_, _]) ag23 sz23 rfl rfl rfl) (.cons rfl (.plain rfl) (rlA (vs := [_, _]) ag23 sz23 rfl rfl rfl) .nil))), ?_⟩
     refine D_wr2 rfl ?_ ?_
     ·refine (.go (E' := [(11, _)]) rfl (.plain rfl) (w_callP rfl rfl rfl (fun w hg => rsub_c s.v.y (windsT l s.p.z).y (by omega) w)) rfl ?_)
      rintro _ _ ⟨rfl, rfl⟩
      refine ⟨(.cons rfl (.plain rfl) (rlA (vs := [_, _]) ag23 sz23 rfl rfl rfl) .nil), ?_⟩
      refine D_wr (.go (E' := [(11, _)]) rfl (.plain rfl) (w_alloc zr23 rfl) rfl ?_)
      rintro _ _ ⟨b9, hb9, rfl, rfl⟩
      refine ⟨(.cons rfl (.plain rfl) (rlA (vs := [_, _]) ag23 sz23 rfl rfl rfl) .nil), ?_⟩
      refine D_wr (.go (E' := [(11, _)]) rfl (.plain rfl) (ws (cs' := [_, _]) sz23 rfl rfl rfl rfl rfl rfl rfl) rfl ?_)
      rintro _ _ ⟨rfl, rfl⟩
      refine ⟨(.cons rfl (.plain rfl) (rlA (vs := [_, _]) ag23 sz23 rfl rfl rfl) .nil), ?_⟩
      refine D_wr (.go (E' := [(11, _)]) rfl (.plain rfl) (ws (cs' := [_, _]) sz23 rfl rfl rfl rfl rfl rfl rfl) rfl ?_)
      rintro _ _ ⟨rfl, rfl⟩
      refine ⟨(.cons rfl (.plain rfl) (rlA (vs := [_, _]) ag23 sz23 rfl rfl rfl) .nil), ?_⟩
      refine D_wr (.go (E' := []) rfl (.plain rfl) (ws (cs' := [_, _]) sz23 rfl rfl rfl rfl rfl rfl rfl) rfl ?_)
      rintro _ _ ⟨rfl, rfl⟩
      refine ⟨.nil, ?_⟩
      refine D_then (kp [5, 6, 8, 9, 10, 11, 13, 14, 15] rfl) ?_
      refine ⟨(b7, b8, b9), trivial, (.cons rfl (.cons rfl (.cons rfl (.cons rfl (.cons rfl (.cons rfl (.cons rfl (.cons rfl (.cons rfl (.nil _)))))))))), (by (try dsimp only); repeat (first | exact HSub.nil _ | refine HSub.take (by repeat first | exact Take.head | apply Take.tail) ?_ | exact HSub.refl _ | refine HSub.drop ?_ | refine HSub.app ?_)), rfl⟩
     refine (.go (E' := [(11, _), (8, _), (6, _)]) rfl (.plain rfl) (w_alloc zr23 rfl) rfl ?_)
     rintro _ _ ⟨b9, hb9, rfl, rfl⟩
     refine ⟨(.cons rfl (.plain rfl) (rlA (vs := [_, _]) ag23 sz23 rfl rfl rfl) (.cons rfl (.plain rfl) (rlA (vs := [_, _]) ag23 sz23 rfl rfl rfl) (.cons rfl (.plain rfl) (rlA (vs := [_, _]) ag23 sz23 rfl rfl rfl) .nil))), ?_⟩
     refine D_wr (.go (E' := [(11, _)]) rfl (.plain rfl) (w_callP rfl rfl rfl (fun w hg => rsub_c s.v.y (windsT l s.p.z).y (by omega) w)) rfl ?_)
     rintro _ _ ⟨rfl, rfl⟩
     refine ⟨(.cons rfl (.plain rfl) (rlA (vs := [_, _]) ag23 sz23 rfl rfl rfl) .nil), ?_⟩
     refine D_wr (.go (E' := [(11, _)]) rfl (.plain rfl) (ws (cs' := [_, _]) sz23 rfl rfl rfl rfl rfl rfl rfl) rfl ?_)
     rintro _ _ ⟨rfl, rfl⟩
     refine ⟨(.cons rfl (.plain rfl) (rlA (vs := [_, _]) ag23 sz23 rfl rfl rfl) .nil), ?_⟩
     refine D_wr (.go (E' := [(11, _)]) rfl (.plain rfl) (ws (cs' := [_, _]) sz23 rfl rfl rfl rfl rfl rfl rfl) rfl ?_)
     rintro _ _ ⟨rfl, rfl⟩
     refine ⟨(.cons rfl (.plain rfl) (rlA (vs := [_, _]) ag23 sz23 rfl rfl rfl) .nil), ?_⟩
     refine D_wr (.go (E' := []) rfl (.plain rfl) (ws (cs' := [_, _]) sz23 rfl rfl rfl rfl rfl rfl rfl) rfl ?_)
     rintro _ _ ⟨rfl, rfl⟩
     refine ⟨.nil, ?_⟩
     refine D_then (kp [5, 6, 8, 9, 10, 11, 13, 14, 15] rfl) ?_
     refine ⟨(b7, b8, b9), trivial, (.cons rfl (.cons rfl (.cons rfl (.cons rfl (.cons rfl (.cons rfl (.cons rfl (.cons rfl (.cons rfl (.nil _)))))))))), (by (try dsimp only); repeat (first | exact HSub.nil _ | refine HSub.take (by repeat first | exact Take.head | apply Take.tail) ?_ | exact HSub.refl _ | refine HSub.drop ?_ | refine HSub.app ?_)), rfl⟩
    refine (.go (E' := [(11, _), (8, _), (6, _), (3, _), (1, _)]) rfl (.plain rfl) (w_alloc zr23 rfl) rfl ?_)
    rintro _ _ ⟨b9, hb9, rfl, rfl⟩
    refine ⟨(.cons rfl (.plain rfl) (rlA (vs := [_, _]) ag23 sz23 rfl rfl rfl) (.cons rfl (.plain rfl) (rlA (vs := [_, _]) ag23 sz23 rfl rfl rfl) (.cons rfl (.plain rfl) (rlA (vs := [_, _]) ag23 sz23 rfl rfl rfl) (.cons rfl (.plain rfl) (rlA (vs := [_, _]) ag23 sz23 rfl rfl rfl) (.cons rfl (.plain rfl) (rlA (vs := [_, _]) ag23 sz23 rfl rfl rfl) .nil))))), ?_⟩
    refine D_wr (.go (E' := [(11, _), (8, _), (6, _)]) rfl (.plain rfl) (w_callP rfl rfl rfl (fun w hg => rsub_c s.v.x (windsT l s.p.z).x (by omega) w)) rfl ?_)
    rintro _ _ ⟨rfl, rfl⟩
    refine ⟨(.cons rfl (.plain rfl) (rlA (vs := [_, _]) ag23 sz23 rfl rfl rfl) (.cons rfl (.plain rfl) (rlA (vs := [_, _]) ag23 sz23 rfl rfl rfl) (.cons rfl (.plain rfl) (rlA (vs := [_, _]) ag23 sz23 rfl rfl rfl) .nil))), ?_⟩
    refine D_wr (.go (E' := [(11, _)]) rfl (.plain rfl) (w_callP rfl rfl rfl (fun w hg => rsub_c s.v.y (windsT l s.p.z).y (by omega) w)) rfl ?_)
    rintro _ _ ⟨rfl, rfl⟩
    refine ⟨(.cons rfl (.plain rfl) (rlA (vs := [_, _]) ag23 sz23 rfl rfl rfl) .nil), ?_⟩
    refine D_wr (.go (E' := [(11, _)]) rfl (.plain rfl) (ws (cs' := [_, _]) sz23 rfl rfl rfl rfl rfl rfl rfl) rfl ?_)
    rintro _ _ ⟨rfl, rfl⟩
    refine ⟨(.cons rfl (.plain rfl) (rlA (vs := [_, _]) ag23 sz23 rfl rfl rfl) .nil), ?_⟩
    refine D_wr (.go (E' := [(11, _)]) rfl (.plain rfl) (ws (cs' := [_, _]) sz23 rfl rfl rfl rfl rfl rfl rfl) rfl ?_)
    rintro _ _ ⟨rfl, rfl⟩
    refine ⟨(.cons rfl (.plain rfl) (rlA (vs := [_, _]) ag23 sz23 rfl rfl rfl) .nil), ?_⟩
    refine D_wr (.go (E' := []) rfl (.plain rfl) (ws (cs' := [_, _]) sz23 rfl rfl rfl rfl rfl rfl rfl) rfl ?_)
    rintro _ _ ⟨rfl, rfl⟩
    refine ⟨.nil, ?_⟩
    refine D_then (kp [5, 6, 8, 9, 10, 11, 13, 14, 15] rfl) ?_
    refine ⟨(b7, b8, b9), trivial, (.cons rfl (.cons rfl (.cons rfl (.cons rfl (.cons rfl (.cons rfl (.cons rfl (.cons rfl (.cons rfl (.nil _)))))))))), (by (try dsimp only); repeat (first | exact HSub.nil _ | refine HSub.take (by repeat first | exact Take.head | apply Take.tail) ?_ | exact HSub.refl _ | refine HSub.drop ?_ | refine HSub.app ?_)), rfl⟩
   refine (.go (E' := [(11, _), (8, _), (6, _), (3, _), (1, _)]) rfl (.plain rfl) (w_alloc zr23 rfl) rfl ?_)
   rintro _ _ ⟨b8, hb8, rfl, rfl⟩
   refine ⟨(.cons rfl (.plain rfl) (rlA (vs := [_, _]) ag23 sz23 rfl rfl rfl) (.cons rfl (.plain rfl) (rlA (vs := [_, _]) ag23 sz23 rfl rfl rfl) (.cons rfl (.plain rfl) (rlA (vs := [_, _]) ag23 sz23 rfl rfl rfl) (.cons rfl (.plain rfl) (rlA (vs := [_, _]) ag23 sz23 rfl rfl rfl) (.cons rfl (.plain rfl) (rlA (vs := [_, _]) ag23 sz23 rfl rfl rfl) .nil))))), ?_⟩
   refine D_wr2 rfl ?_ ?_
   ·refine (.go (E' := [(11, _), (8, _), (6, _)]) rfl (.plain rfl) (w_callP rfl rfl rfl (fun w hg => rsub_c s.v.x (windsT l s.p.z).x (by omega) w)) rfl ?_)
    rintro _ _ ⟨rfl, rfl⟩
    refine ⟨(.cons rfl (.plain rfl) (rlA (vs := [_, _]) ag23 sz23 rfl rfl rfl) (.cons rfl (.plain rfl) (rlA (vs := [_, _]) ag23 sz23 rfl rfl rfl) (.cons rfl (.plain rfl) (rlA (vs := [_, _]) ag23 sz23 rfl rfl rfl) .nil))), ?_⟩
    refine D_wr2 rfl ?_ ?_
    ·refine (.go (E' := [(11, _)]) rfl (.plain rfl) (w_callP rfl rfl rfl (fun w hg => rsub_c s.v.y (windsT l s.p.z).y (by omega) w)) rfl ?_)
     rintro _ _ ⟨rfl, rfl⟩
     refine ⟨(.cons rfl (.plain rfl) (rlA (vs := [_, _]) ag23 sz23 rfl rfl rfl) .nil), ?_⟩
     refine D_wr (.go (E' := [(11, _)]) rfl (.plain rfl) (w_alloc zr23 rfl) rfl ?_)
     rintro _ _ ⟨b9, hb9, rfl, rfl⟩
     refine ⟨(.cons rfl (.plain rfl) (rlA (vs := [_, _]) ag23 sz23 rfl rfl rfl) .nil), ?_⟩
     refine D_wr (.go (E' := [(11, _)]) rfl (.plain rfl) (ws (cs' := [_, _]) sz23 rfl rfl rfl rfl rfl rfl rfl) rfl ?_)
     rintro _ _ ⟨rfl, rfl⟩
     refine ⟨(.cons rfl (.plain rfl) (rlA (vs := [_, _]) ag23 sz23 rfl rfl rfl) .nil), ?_⟩
     refine D_wr (.go (E' := [(11, _)]) rfl (.plain rfl) (ws (cs' := [_, _]) sz23 rfl rfl rfl rfl rfl rfl rfl) rfl ?_)
     rintro _ _ ⟨rfl, rfl⟩
     refine ⟨(.cons rfl (.plain rfl) (rlA (vs := [_, _]) ag23 sz23 rfl rfl rfl) .nil), ?_⟩
     refine D_wr (.go (E' := []) rfl (.plain rfl) (ws (cs' := [_, _]) sz23 rfl rfl rfl rfl rfl rfl rfl) rfl ?_)
     rintro _ _ ⟨rfl, rfl⟩
     refine ⟨.nil, ?_⟩
     refine D_then (kp [5, 6, 8, 9, 10, 11, 13, 14, 15] rfl) ?_
     refine ⟨(b7, b9, b8), trivial, (.cons rfl (.cons rfl (.cons rfl (.cons rfl (.cons rfl (.cons rfl (.cons rfl (.cons rfl (.cons rfl (.nil _)))))))))), (by (try dsimp only); repeat (first | exact HSub.nil _ | refine HSub.take (by repeat first | exact Take.head | apply Take.tail) ?_ | exact HSub.refl _ | refine HSub.drop ?_ | refine HSub.app ?_)), rfl⟩
    refine (.go (E' := [(11, _), (8, _), (6, _)]) rfl (.plain rfl) (w_alloc zr23 rfl) rfl ?_)
    rintro _ _ ⟨b9, hb9, rfl, rfl⟩
    refine ⟨(.cons rfl (.plain rfl) (rlA (vs := [_, _]) ag23 sz23 rfl rfl rfl) (.cons rfl (.plain rfl) (rlA (vs := [_, _]) ag23 sz23 rfl rfl rfl) (.cons rfl (.plain rfl) (rlA (vs := [_, _]) ag23 sz23 rfl rfl rfl) .nil))), ?_⟩
    refine D_wr (.go (E' := [(11, _)]) rfl (.plain rfl) (w_callP rfl rfl rfl (fun w hg => rsub_c s.v.y (windsT l s.p.z).y (by omega) w)) rfl ?_)
    rintro _ _ ⟨rfl, rfl⟩
    refine ⟨(.cons rfl (.plain rfl) (rlA (vs := [_, _]) ag23 sz23 rfl rfl rfl) .nil), ?_⟩
    refine D_wr (.go (E' := [(11, _)]) rfl (.plain rfl) (ws (cs' := [_, _]) sz23 rfl rfl rfl rfl rfl rfl rfl) rfl ?_)
    rintro _ _ ⟨rfl, rfl⟩
    refine ⟨(.cons rfl (.plain rfl) (rlA (vs := [_, _]) ag23 sz23 rfl rfl rfl) .nil), ?_⟩
    refine D_wr (.go (E' := [(11, _)]) rfl (.plain rfl) (ws (cs' := [_, _]) sz23 rfl rfl rfl rfl rfl rfl rfl) rfl ?_)
    rintro _ _ ⟨rfl, rfl⟩
    refine ⟨(.cons rfl (.plain rfl) (rlA (vs := [_, _]) ag23 sz23 rfl rfl rfl) .nil), ?_⟩
    refine D_wr (.go (E' := []) rfl (.plain rfl) (ws (cs' := [_, _]) sz23 rfl rfl rfl rfl rfl rfl rfl) rfl ?_)
    rintro _ _ ⟨rfl, rfl⟩
    refine ⟨.nil, ?_⟩
    refine D_then (kp [5, 6, 8, 9, 10, 11, 13, 14, 15] rfl) ?_
    refine ⟨(b7, b9, b8), trivial, (.cons rfl (.cons rfl (.cons rfl (.cons rfl (.cons rfl (.cons rfl (.cons rfl (.cons rfl (.cons rfl (.nil _)))))))))), (by (try dsimp only); repeat (first | exact HSub.nil _ | refine HSub.take (by repeat first | exact Take.head | apply Take.tail) ?_ | exact HSub.refl _ | refine HSub.drop ?_ | refine HSub.app ?_)), rfl⟩
   refine (.go (E' := [(11, _), (8, _), (6, _), (3, _), (1, _)]) rfl (.plain rfl) (w_alloc zr23 rfl) rfl ?_)
   rintro _ _ ⟨b9, hb9, rfl, rfl⟩
   refine ⟨(.cons rfl (.plain rfl) (rlA (vs := [_, _]) ag23 sz23 rfl rfl rfl) (.cons rfl (.plain rfl) (rlA (vs := [_, _]) ag23 sz23 rfl rfl rfl) (.cons rfl (.plain rfl) (rlA (vs := [_, _]) ag23 sz23 rfl rfl rfl) (.cons rfl (.plain rfl) (rlA (vs := [_, _]) ag23 sz23 rfl rfl rfl) (.cons rfl (.plain rfl) (rlA (vs := [_, _]) ag23 sz23 rfl rfl rfl) .nil))))), ?_⟩
   refine D_wr (.go (E' := [(11, _), (8, _), (6, _)]) rfl (.plain rfl) (w_callP rfl rfl rfl (fun w hg => rsub_c s.v.x (windsT l s.p.z).x (by omega) w)) rfl ?_)
   rintro _ _ ⟨rfl, rfl⟩
   refine ⟨(.cons rfl (.plain rfl) (rlA (vs := [_, _]) ag23 sz23 rfl rfl rfl) (.cons rfl (.plain rfl) (rlA (vs := [_, _]) ag23 sz23 rfl rfl rfl) (.cons rfl (.plain rfl) (rlA (vs := [_, _]) ag23 sz23 rfl rfl rfl) .nil))), ?_⟩
   refine D_wr (.go (E' := [(11, _)]) rfl (.plain rfl) (w_callP rfl rfl rfl (fun w hg => rsub_c s.v.y (windsT l s.p.z).y (by omega) w)) rfl ?_)
   rintro _ _ ⟨rfl, rfl⟩
   refine ⟨(.cons rfl (.plain rfl) (rlA (vs := [_, _]) ag23 sz23 rfl rfl rfl) .nil), ?_⟩
   refine D_wr (.go (E' := [(11, _)]) rfl (.plain rfl) (ws (cs' := [_, _]) sz23 rfl rfl rfl rfl rfl rfl rfl) rfl ?_)
   rintro _ _ ⟨rfl, rfl⟩
   refine ⟨(.cons rfl (.plain rfl) (rlA (vs := [_, _]) ag23 sz23 rfl rfl rfl) .nil), ?_⟩
   refine D_wr (.go (E' := [(11, _)]) rfl (.plain rfl) (ws (cs' := [_, _]) sz23 rfl rfl rfl rfl rfl rfl rfl) rfl ?_)
   rintro _ _ ⟨rfl, rfl⟩
   refine ⟨(.cons rfl (.plain rfl) (rlA (vs := [_, _]) ag23 sz23 rfl rfl rfl) .nil), ?_⟩
   refine D_wr (.go (E' := []) rfl (.plain rfl) (ws (cs' := [_, _]) sz23 rfl rfl rfl rfl rfl rfl rfl) rfl ?_)
   rintro _ _ ⟨rfl, rfl⟩
   refine ⟨.nil, ?_⟩
   refine D_then (kp [5, 6, 8, 9, 10, 11, 13, 14, 15] rfl) ?_
   refine ⟨(b7, b9, b8), trivial, (.cons rfl (.cons rfl (.cons rfl (.cons rfl (.cons rfl (.cons rfl (.cons rfl (.cons rfl (.cons rfl (.nil _)))))))))), (by (try dsimp only); repeat (first | exact HSub.nil _ | refine HSub.take (by repeat first | exact Take.head | apply Take.tail) ?_ | exact HSub.refl _ | refine HSub.drop ?_ | refine HSub.app ?_)), rfl⟩
  ·refine (.go (E' := [(11, _), (8, _), (6, _), (3, _), (1, _)]) rfl (.plain rfl) (w_alloc zr23 rfl) rfl ?_)
   rintro _ _ ⟨b7, hb7, rfl, rfl⟩
   refine ⟨(.cons rfl (.plain rfl) (rlA (vs := [_, _]) ag23 sz23 rfl rfl rfl) (.cons rfl (.plain rfl) (rlA (vs := [_, _]) ag23 sz23 rfl rfl rfl) (.cons rfl (.plain rfl) (rlA (vs := [_, _]) ag23 sz23 rfl rfl rfl) (.cons rfl (.plain rfl) (rlA (vs := [_, _]) ag23 sz23 rfl rfl rfl) (.cons rfl (.plain rfl) (rlA (vs := [_, _]) ag23 sz23 rfl rfl rfl) .nil))))), ?_⟩
   refine D_wr3 rfl rfl rfl ?_ ?_ ?_
   ·refine (.go (E' := [(11, _), (8, _), (6, _)]) rfl (.plain rfl) (w_callP rfl rfl rfl (fun w hg => rsub_c s.v.x (windsT l s.p.z).x (by omega) w)) rfl ?_)
    rintro _ _ ⟨rfl, rfl⟩
    refine ⟨(.cons rfl (.plain rfl) (rlA (vs := [_, _]) ag23 sz23 rfl rfl rfl) (.cons rfl (.plain rfl) (rlA (vs := [_, _]) ag23 sz23 rfl rfl rfl) (.cons rfl (.plain rfl) (rlA (vs := [_, _]) ag23 sz23 rfl rfl rfl) .nil))), ?_⟩
    refine D_wr3 rfl rfl rfl ?_ ?_ ?_
    ·refine (.go (E' := [(11, _)]) rfl (.plain rfl) (w_callP rfl rfl rfl (fun w hg => rsub_c s.v.y (windsT l s.p.z).y (by omega) w)) rfl ?_)
     rintro _ _ ⟨rfl, rfl⟩
     refine ⟨(.cons rfl (.plain rfl) (rlA (vs := [_, _]) ag23 sz23 rfl rfl rfl) .nil), ?_⟩
     refine D_wr2 rfl ?_ ?_
     ·refine (.go (E' := [(11, _)]) rfl (.plain rfl) (w_alloc zr23 rfl) rfl ?_)
      rintro _ _ ⟨b8, hb8, rfl, rfl⟩
      refine ⟨(.cons rfl (.plain rfl) (rlA (vs := [_, _]) ag23 sz23 rfl rfl rfl) .nil), ?_⟩
      refine D_wr (.go (E' := [(11, _)]) rfl (.plain rfl) (w_alloc zr23 rfl) rfl ?_)
      rintro _ _ ⟨b9, hb9, rfl, rfl⟩
      refine ⟨(.cons rfl (.plain rfl) (rlA (vs := [_, _]) ag23 sz23 rfl rfl rfl) .nil), ?_⟩
      refine D_wr (.go (E' := [(11, _)]) rfl (.plain rfl) (ws (cs' := [_, _]) sz23 rfl rfl rfl rfl rfl rfl rfl) rfl ?_)
      rintro _ _ ⟨rfl, rfl⟩
      refine ⟨(.cons rfl (.plain rfl) (rlA (vs := [_, _]) ag23 sz23 rfl rfl rfl) .nil), ?_⟩
      refine D_wr (.go (E' := [(11, _)]) rfl (.plain rfl) (ws (cs' := [_, _]) sz23 rfl rfl rfl rfl rfl rfl rfl) rfl ?_)
      rintro _ _ ⟨rfl, rfl⟩
      refine ⟨(.cons rfl (.plain rfl) (rlA (vs := [_, _]) ag23 sz23 rfl rfl rfl) .nil), ?_⟩
      refine D_wr (.go (E' := []) rfl (.plain rfl) (ws (cs' := [_, _]) sz23 rfl rfl rfl rfl rfl rfl rfl) rfl ?_)
      rintro _ _ ⟨rfl, rfl⟩
      refine ⟨.nil, ?_⟩
      refine D_then (kp [5, 6, 8, 9, 10, 11, 13, 14, 15] rfl) ?_
      refine ⟨(b8, b7, b9), trivial, (.cons rfl (.cons rfl (.cons rfl (.cons rfl (.cons rfl (.cons rfl (.cons rfl (.cons rfl (.cons rfl (.nil _)))))))))), (by (try dsimp only); repeat (first | exact HSub.nil _ | refine HSub.take (by repeat first | exact Take.head | apply Take.tail) ?_ | exact HSub.refl _ | refine HSub.drop ?_ | refine HSub.app ?_)), rfl⟩
     refine (.go (E' := [(11, _)]) rfl (.plain rfl) (w_alloc zr23 rfl) rfl ?_)
     rintro _ _ ⟨b8, hb8, rfl, rfl⟩
     refine ⟨(.cons rfl (.plain rfl) (rlA (vs := [_, _]) ag23 sz23 rfl rfl rfl) .nil), ?_⟩
     refine D_wr (.go (E' := [(11, _)]) rfl (.plain rfl) (w_alloc zr23 rfl) rfl ?_)
     rintro _ _ ⟨b9, hb9, rfl, rfl⟩
     refine ⟨(.cons rfl (.plain rfl) (rlA (vs := [_, _]) ag23 sz23 rfl rfl rfl) .nil), ?_⟩
     refine D_wr (.go (E' := [(11, _)]) rfl (.plain rfl) (ws (cs' := [_, _]) sz23 rfl rfl rfl rfl rfl rfl rfl) rfl ?_)
     rintro _ _ ⟨rfl, rfl⟩
     refine ⟨(.cons rfl (.plain rfl) (rlA (vs := [_, _]) ag23 sz23 rfl rfl rfl) .nil), ?_⟩
     refine D_wr (.go (E' := [(11, _)]) rfl (.plain rfl) (ws (cs' := [_, _]) sz23 rfl rfl rfl rfl rfl rfl rfl) rfl ?_)
     rintro _ _ ⟨rfl, rfl⟩
     refine ⟨(.cons rfl (.plain rfl) (rlA (vs := [_, _]) ag23 sz23 rfl rfl rfl) .nil), ?_⟩
     refine D_wr (.go (E' := []) rfl (.plain rfl) (ws (cs' := [_, _]) sz23 rfl rfl rfl rfl rfl rfl rfl) rfl ?_)
     rintro _ _ ⟨rfl, rfl⟩
     refine ⟨.nil, ?_⟩
     refine D_then (kp [5, 6, 8, 9, 10, 11, 13, 14, 15] rfl) ?_
     refine ⟨(b9, b7, b8), trivial, (.cons rfl (.cons rfl (.cons rfl (.cons rfl (.cons rfl (.cons rfl (.cons rfl (.cons rfl (.cons rfl (.nil _)))))))))), (by (try dsimp only); repeat (first | exact HSub.nil _ | refine HSub.take (by repeat first | exact Take.head | apply Take.tail) ?_ | exact HSub.refl _ | refine HSub.drop ?_ | refine HSub.app ?_)), rfl⟩
    ·refine (.go (E' := [(11, _), (8, _), (6, _)]) rfl (.plain rfl) (w_alloc zr23 rfl) rfl ?_)
     rintro _ _ ⟨b8, hb8, rfl, rfl⟩
     refine ⟨(.cons rfl (.plain rfl) (rlA (vs := [_, _]) ag23 sz23 rfl rfl rfl) (.cons rfl (.plain rfl) (rlA (vs := [_, _]) ag23 sz23 rfl rfl rfl) (.cons rfl (.plain rfl) (rlA (vs := [_, _]) ag23 sz23 rfl rfl rfl) .nil))), ?_⟩
     refine D_wr2 rfl ?_ ?_
     ·refine (.go (E' := [(11, _)]) rfl (.plain rfl) (w_callP rfl rfl rfl (fun w hg => rsub_c s.v.y (windsT l s.p.z).y (by omega) w)) rfl ?_)
      rintro _ _ ⟨rfl, rfl⟩
      refine ⟨(.cons rfl (.plain rfl) (rlA (vs := [_, _]) ag23 sz23 rfl rfl rfl) .nil), ?_⟩
      refine D_wr (.go (E' := [(11, _)]) rfl (.plain rfl) (w_alloc zr23 rfl) rfl ?_)
      rintro _ _ ⟨b9, hb9, rfl, rfl⟩
      refine ⟨(.cons rfl (.plain rfl) (rlA (vs := [_, _]) ag23 sz23 rfl rfl rfl) .nil), ?_⟩
      refine D_wr (.go (E' := [(11, _)]) rfl (.plain rfl) (ws (cs' := [_, _]) sz23 rfl rfl rfl rfl rfl rfl rfl) rfl ?_)
      rintro _ _ ⟨rfl, rfl⟩
      refine ⟨(.cons rfl (.plain rfl) (rlA (vs := [_, _]) ag23 sz23 rfl rfl rfl) .nil), ?_⟩
      refine D_wr (.go (E' := [(11, _)]) rfl (.plain rfl) (ws (cs' := [_, _]) sz23 rfl rfl rfl rfl rfl rfl rfl) rfl ?_)
      rintro _ _ ⟨rfl, rfl⟩
      refine ⟨(.cons rfl (.plain rfl) (rlA (vs := [_, _]) ag23 sz23 rfl rfl rfl) .nil), ?_⟩
      refine D_wr (.go (E' := []) rfl (.plain rfl) (ws (cs' := [_, _]) sz23 rfl rfl rfl rfl rfl rfl rfl) rfl ?_)
      rintro _ _ ⟨rfl, rfl⟩
      refine ⟨.nil, ?_⟩
      refine D_then (kp [5, 6, 8, 9, 10, 11, 13, 14, 15] rfl) ?_
      refine ⟨(b8, b7, b9), trivial, (.cons rfl (.cons rfl (.cons rfl (.cons rfl (.cons rfl (.cons rfl (.cons rfl (.cons rfl (.cons rfl (.nil _)))))))))), (by (try dsimp only); repeat (first | exact HSub.nil _ | refine HSub.take (by repeat first | exact Take.head | apply Take.tail) ?_ | exact HSub.refl _ | refine HSub.drop ?_ | refine HSub.app ?_)), rfl⟩
     refine (.go (E' := [(11, _), (8, _), (6, _)]) rfl (.plain rfl) (w_alloc zr23 rfl) rfl ?_)
     rintro _ _ ⟨b9, hb9, rfl, rfl⟩
     refine ⟨(.cons rfl (.plain rfl) (rlA (vs := [_, _]) ag23 sz23 rfl rfl rfl) (.cons rfl (.plain rfl) (rlA (vs := [_, _]) ag23 sz23 rfl rfl rfl) (.cons rfl (.plain rfl) (rlA (vs := [_, _]) ag23 sz23 rfl rfl rfl) .nil))), ?_⟩
     refine D_wr (.go (E' := [(11, _)]) rfl (.plain rfl) (w_callP rfl rfl rfl (fun w hg => rsub_c s.v.y (windsT l s.p.z).y (by omega) w)) rfl ?_)
     rintro _ _ ⟨rfl, rfl⟩
     refine ⟨(.cons rfl (.plain rfl) (rlA (vs := [_, _]) ag23 sz23 rfl rfl rfl) .nil), ?_⟩
     refine D_wr (.go (E' := [(11, _)]) rfl (.plain rfl) (ws (cs' := [_, _]) sz23 rfl rfl rfl rfl rfl rfl rfl) rfl ?_)
     rintro _ _ ⟨rfl, rfl⟩
     refine ⟨(.cons rfl (.plain rfl) (rlA (vs := [_, _]) ag23 sz23 rfl rfl rfl) .nil), ?_⟩
     refine D_wr (.go (E' := [(11, _)]) rfl (.plain rfl) (ws (cs' := [_, _]) sz23 rfl rfl rfl rfl rfl rfl rfl) rfl ?_)
     rintro _ _ ⟨rfl, rfl⟩
     refine ⟨(.cons rfl (.plain rfl) (rlA (vs := [_, _]) ag23 sz23 rfl rfl rfl) .nil), ?_⟩
     refine D_wr (.go (E' := []) rfl (.plain rfl) (ws (cs' := [_, _]) sz23 rfl rfl rfl rfl rfl rfl rfl) rfl ?_)
     rintro _ _ ⟨rfl, rfl⟩
     refine ⟨.nil, ?_⟩
     refine D_then (kp [5, 6, 8, 9, 10, 11, 13, 14, 15] rfl) ?_
     refine ⟨(b8, b7, b9), trivial, (.cons rfl (.cons rfl (.cons rfl (.cons rfl (.cons rfl (.cons rfl (.cons rfl (.cons rfl (.cons rfl (.nil _)))))))))), (by (try dsimp only); repeat (first | exact HSub.nil _ | refine HSub.take (by repeat first | exact Take.head | apply Take.tail) ?_ | exact HSub.refl _ | refine HSub.drop ?_ | refine HSub.app ?_)), rfl⟩
    refine (.go (E' := [(11, _), (8, _), (6, _)]) rfl (.plain rfl) (w_alloc zr23 rfl) rfl ?_)
    rintro _ _ ⟨b8, hb8, rfl, rfl⟩
    refine ⟨(.cons rfl (.plain rfl) (rlA (vs := [_, _]) ag23 sz23 rfl rfl rfl) (.cons rfl (.plain rfl) (rlA (vs := [_, _]) ag23 sz23 rfl rfl rfl) (.cons rfl (.plain rfl) (rlA (vs := [_, _]) ag23 sz23 rfl rfl rfl) .nil))), ?_⟩
    refine D_wr2 rfl ?_ ?_
    ·refine (.go (E' := [(11, _)]) rfl (.plain rfl) (w_callP rfl rfl rfl (fun w hg => rsub_c s.v.y (windsT l s.p.z).y (by omega) w)) rfl ?_)
     rintro _ _ ⟨rfl, rfl⟩
     refine ⟨(.cons rfl (.plain rfl) (rlA (vs := [_, _]) ag23 sz23 rfl rfl rfl) .nil), ?_⟩
     refine D_wr (.go (E' := [(11, _)]) rfl (.plain rfl) (w_alloc zr23 rfl) rfl ?_)
     rintro _ _ ⟨b9, hb9, rfl, rfl⟩
     refine ⟨(.cons rfl (.plain rfl) (rlA (vs := [_, _]) ag23 sz23 rfl rfl rfl) .nil), ?_⟩
     refine D_wr (.go (E' := [(11, _)]) rfl (.plain rfl) (ws (cs' := [_, _]) sz23 rfl rfl rfl rfl rfl rfl rfl) rfl ?_)
     rintro _ _ ⟨rfl, rfl⟩
     refine ⟨(.cons rfl (.plain rfl) (rlA (vs := [_, _]) ag23 sz23 rfl rfl rfl) .nil), ?_⟩
     refine D_wr (.go (E' := [(11, _)]) rfl (.plain rfl) (ws (cs' := [_, _]) sz23 rfl rfl rfl rfl rfl rfl rfl) rfl ?_)
     rintro _ _ ⟨rfl, rfl⟩
     refine ⟨(.cons rfl (.plain rfl) (rlA (vs := [_, _]) ag23 sz23 rfl rfl rfl) .nil), ?_⟩
     refine D_wr (.go (E' := []) rfl (.plain rfl) (ws (cs' := [_, _]) sz23 rfl rfl rfl rfl rfl rfl rfl) rfl ?_)
     rintro _ _ ⟨rfl, rfl⟩
     refine ⟨.nil, ?_⟩
     refine D_then (kp [5, 6, 8, 9, 10, 11, 13, 14, 15] rfl) ?_
     refine ⟨(b9, b7, b8), trivial, (.cons rfl (.cons rfl (.cons rfl (.cons rfl (.cons rfl (.cons rfl (.cons rfl (.cons rfl (.cons rfl (.nil _)))))))))), (by (try dsimp only); repeat (first | exact HSub.nil _ | refine HSub.take (by repeat first | exact Take.head | apply Take.tail) ?_ | exact HSub.refl _ | refine HSub.drop ?_ | refine HSub.app ?_)), rfl⟩
    refine (.go (E' := [(11, _), (8, _), (6, _)]) rfl (.plain rfl) (w_alloc zr23 rfl) rfl ?_)
    rintro _ _ ⟨b9, hb9, rfl, rfl⟩
    refine ⟨(.cons rfl (.plain rfl) (rlA (vs := [_, _]) ag23 sz23 rfl rfl rfl) (.cons rfl (.plain rfl) (rlA (vs := [_, _]) ag23 sz23 rfl rfl rfl) (.cons rfl (.plain rfl) (rlA (vs := [_, _]) ag23 sz23 rfl rfl rfl) .nil))), ?_⟩
    refine D_wr (.go (E' := [(11, _)]) rfl (.plain rfl) (w_callP rfl rfl rfl (fun w hg => rsub_c s.v.y (windsT l s.p.z).y (by omega) w)) rfl ?_)
    rintro _ _ ⟨rfl, rfl⟩
    refine ⟨(.cons rfl (.plain rfl) (rlA (vs := [_, _]) ag23 sz23 rfl rfl rfl) .nil), ?_⟩
    refine D_wr (.go (E' := [(11, _)]) rfl (.plain rfl) (ws (cs' := [_, _]) sz23 rfl rfl rfl rfl rfl rfl rfl) rfl ?_)
    rintro _ _ ⟨rfl, rfl⟩
    refine ⟨(.cons rfl (.plain rfl) (rlA (vs := [_, _]) ag23 sz23 rfl rfl rfl) .nil), ?_⟩
    refine D_wr (.go (E' := [(11, _)]) rfl (.plain rfl) (ws (cs' := [_, _]) sz23 rfl rfl rfl rfl rfl rfl rfl) rfl ?_)
    rintro _ _ ⟨rfl, rfl⟩
    refine ⟨(.cons rfl (.plain rfl) (rlA (vs := [_, _]) ag23 sz23 rfl rfl rfl) .nil), ?_⟩
    refine D_wr (.go (E' := []) rfl (.plain rfl) (ws (cs' := [_, _]) sz23 rfl rfl rfl rfl rfl rfl rfl) rfl ?_)
    rintro _ _ ⟨rfl, rfl⟩
    refine ⟨.nil, ?_⟩
    refine D_then (kp [5, 6, 8, 9, 10, 11, 13, 14, 15] rfl) ?_
    refine ⟨(b9, b7, b8), trivial, (.cons rfl (.cons rfl (.cons rfl (.cons rfl (.cons rfl (.cons rfl (.cons rfl (.cons rfl (.cons rfl (.nil _)))))))))), (by (try dsimp only); repeat (first | exact HSub.nil _ | refine HSub.take (by repeat first | exact Take.head | apply Take.tail) ?_ | exact HSub.refl _ | refine HSub.drop ?_ | refine HSub.app ?_)), rfl⟩
   ·refine (.go (E' := [(11, _), (8, _), (6, _), (3, _), (1, _)]) rfl (.plain rfl) (w_alloc zr23 rfl) rfl ?_)
    rintro _ _ ⟨b8, hb8, rfl, rfl⟩
    refine ⟨(.cons rfl (.plain rfl) (rlA (vs := [_, _]) ag23 sz23 rfl rfl rfl) (.cons rfl (.plain rfl) (rlA (vs := [_, _]) ag23 sz23 rfl rfl rfl) (.cons rfl (.plain rfl) (rlA (vs := [_, _]) ag23 sz23 rfl rfl rfl) (.cons rfl (.plain rfl) (rlA (vs := [_, _]) ag23 sz23 rfl rfl rfl) (.cons rfl (.plain rfl) (rlA (vs := [_, _]) ag23 sz23 rfl rfl rfl) .nil))))), ?_⟩
    refine D_wr2 rfl ?_ ?_
    ·refine (.go (E' := [(11, _), (8, _), (6, _)]) rfl (.plain rfl) (w_callP rfl rfl rfl (fun w hg => rsub_c s.v.x (windsT l s.p.z).x (by omega) w)) rfl ?_)
     rintro _ _ ⟨rfl, rfl⟩
     refine ⟨(.cons rfl (.plain rfl) (rlA (vs := [_, _]) ag23 sz23 rfl rfl rfl) (.cons rfl (.plain rfl) (rlA (vs := [_, _]) ag23 sz23 rfl rfl rfl) (.cons rfl (.plain rfl) (rlA (vs := [_, _]) ag23 sz23 rfl rfl rfl) .nil))), ?_⟩
     refine D_wr2 rfl ?_ ?_
     ·refine (.go (E' := [(11, _)]) rfl (.plain rfl) (w_callP rfl rfl rfl (fun w hg => rsub_c s.v.y (windsT l s.p.z).y (by omega) w)) rfl ?_)
      rintro _ _ ⟨rfl, rfl⟩
      refine ⟨(.cons rfl (.plain rfl) (rlA (vs := [_, _]) ag23 sz23 rfl rfl rfl) .nil), ?_⟩
      refine D_wr (.go (E' := [(11, _)]) rfl (.plain rfl) (w_alloc zr23 rfl) rfl ?_)
      rintro _ _ ⟨b9, hb9, rfl, rfl⟩
      refine ⟨(.cons rfl (.plain rfl) (rlA (vs := [_, _]) ag23 sz23 rfl rfl rfl) .nil), ?_⟩
      refine D_wr (.go (E' := [(11, _)]) rfl (.plain rfl) (ws (cs' := [_, _]) sz23 rfl rfl rfl rfl rfl rfl rfl) rfl ?_)
      rintro _ _ ⟨rfl, rfl⟩
      refine ⟨(.cons rfl (.plain rfl) (rlA (vs := [_, _]) ag23 sz23 rfl rfl rfl) .nil), ?_⟩
      refine D_wr (.go (E' := [(11, _)]) rfl (.plain rfl) (ws (cs' := [_, _]) sz23 rfl rfl rfl rfl rfl rfl rfl) rfl ?_)
      rintro _ _ ⟨rfl, rfl⟩
      refine ⟨(.cons rfl (.plain rfl) (rlA (vs := [_, _]) ag23 sz23 rfl rfl rfl) .nil), ?_⟩
      refine D_wr (.go (E' := []) rfl (.plain rfl) (ws (cs' := [_, _]) sz23 rfl rfl rfl rfl rfl rfl rfl) rfl ?_)
      rintro _ _ ⟨rfl, rfl⟩
      refine ⟨.nil, ?_⟩
      refine D_then (kp [5, 6, 8, 9, 10, 11, 13, 14, 15] rfl) ?_
      refine ⟨(b8, b7, b9), trivial, (.cons rfl (.cons rfl (.cons rfl (.cons rfl (.cons rfl (.cons rfl (.cons rfl (.cons rfl (.cons rfl (.nil _)))))))))), (by (try dsimp only); repeat (first | exact HSub.nil _ | refine HSub.take (by repeat first | exact Take.head | apply Take.tail) ?_ | exact HSub.refl _ | refine HSub.drop ?_ | refine HSub.app ?_)), rfl⟩
     refine (.go (E' := [(11, _), (8, _), (6, _)]) rfl (.plain rfl) (w_alloc zr23 rfl) rfl ?_)
     rintro _ _ ⟨b9, hb9, rfl, rfl⟩
     refine ⟨(.cons rfl (.plain rfl) (rlA (vs := [_, _]) ag23 sz23 rfl rfl rfl) (.cons rfl (.plain rfl) (rlA (vs := [_, _]) ag23 sz23 rfl rfl rfl) (.cons rfl (.plain rfl) (rlA (vs := [_, _]) ag23 sz23 rfl rfl rfl) .nil))), ?_⟩
     refine D_wr (.go (E' := [(11, _)]) rfl (.plain rfl) (w_callP rfl rfl rfl (fun w hg => rsub_c s.v.y (windsT l s.p.z).y (by omega) w)) rfl ?_)
     rintro _ _ ⟨rfl, rfl⟩
     refine ⟨(.cons rfl (.plain rfl) (rlA (vs := [_, _]) ag23 sz23 rfl rfl rfl) .nil), ?_⟩
     refine D_wr (.go (E' := [(11, _)]) rfl (.plain rfl) (ws (cs' := [_, _]) sz23 rfl rfl rfl rfl rfl rfl rfl) rfl ?_)
     rintro _ _ ⟨rfl, rfl⟩
     refine ⟨(.cons rfl (.plain rfl) (rlA (vs := [_, _]) ag23 sz23 rfl rfl rfl) .nil), ?_⟩
     refine D_wr (.go (E' := [(11, _)]) rfl (.plain rfl) (ws (cs' := [_, _]) sz23 rfl rfl rfl rfl rfl rfl rfl) rfl ?_)
     rintro _ _ ⟨rfl, rfl⟩
     refine ⟨(.cons rfl (.plain rfl) (rlA (vs := [_, _]) ag23 sz23 rfl rfl rfl) .nil), ?_⟩
     refine D_wr (.go (E' := []) rfl (.plain rfl) (ws (cs' := [_, _]) sz23 rfl rfl rfl rfl rfl rfl rfl) rfl ?_)
     rintro _ _ ⟨rfl, rfl⟩
     refine ⟨.nil, ?_⟩
     refine D_then (kp [5, 6, 8, 9, 10, 11, 13, 14, 15] rfl) ?_
     refine ⟨(b8, b7, b9), trivial, (.cons rfl (.cons rfl (.cons rfl (.cons rfl (.cons rfl (.cons rfl (.cons rfl (.cons rfl (.cons rfl (.nil _)))))))))), (by (try dsimp only); repeat (first | exact HSub.nil _ | refine HSub.take (by repeat first | exact Take.head | apply Take.tail) ?_ | exact HSub.refl _ | refine HSub.drop ?_ | refine HSub.app ?_)), rfl⟩
    refine (.go (E' := [(11, _), (8, _), (6, _), (3, _), (1, _)]) rfl (.plain rfl) (w_alloc zr23 rfl) rfl ?_)
    rintro _ _ ⟨b9, hb9, rfl, rfl⟩
    refine ⟨(.cons rfl (.plain rfl) (rlA (vs := [_, _]) ag23 sz23 rfl rfl rfl) (.cons rfl (.plain rfl) (rlA (vs := [_, _]) ag23 sz23 rfl rfl rfl) (.cons rfl (.plain rfl) (rlA (vs := [_, _]) ag23 sz23 rfl rfl rfl) (.cons rfl (.plain rfl) (rlA (vs := [_, _]) ag23 sz23 rfl rfl rfl) (.cons rfl (.plain rfl) (rlA (vs := [_, _]) ag23 sz23 rfl rfl rfl) .nil))))), ?_⟩
    refine D_wr (.go (E' := [(11, _), (8, _), (6, _)]) rfl (.plain rfl) (w_callP rfl rfl rfl (fun w hg => rsub_c s.v.x (windsT l s.p.z).x (by omega) w)) rfl ?_)
    rintro _ _ ⟨rfl, rfl⟩
    refine ⟨(.cons rfl (.plain rfl) (rlA (vs := [_, _]) ag23 sz23 rfl rfl rfl) (.cons rfl (.plain rfl) (rlA (vs := [_, _]) ag23 sz23 rfl rfl rfl) (.cons rfl (.plain rfl) (rlA (vs := [_, _]) ag23 sz23 rfl rfl rfl) .nil))), ?_⟩
    refine D_wr (.go (E' := [(11, _)]) rfl (.plain rfl) (w_callP rfl rfl rfl (fun w hg => rsub_c s.v.y (windsT l s.p.z).y (by omega) w)) rfl ?_)
    rintro _ _ ⟨rfl, rfl⟩
    refine ⟨(.cons rfl (.plain rfl) (rlA (vs := [_, _]) ag23 sz23 rfl rfl rfl) .nil), ?_⟩
    refine D_wr (.go (E' := [(11, _)]) rfl (.plain rfl) (ws (cs' := [_, _]) sz23 rfl rfl rfl rfl rfl rfl rfl) rfl ?_)
    rintro _ _ ⟨rfl, rfl⟩
    refine ⟨(.cons rfl (.plain rfl) (rlA (vs := [_, _]) ag23 sz23 rfl rfl rfl) .nil), ?_⟩
    refine D_wr (.go (E' := [(11, _)]) rfl (.plain rfl) (ws (cs' := [_, _]) sz23 rfl rfl rfl rfl rfl rfl rfl) rfl ?_)
    rintro _ _ ⟨rfl, rfl⟩
    refine ⟨(.cons rfl (.plain rfl) (rlA (vs := [_, _]) ag23 sz23 rfl rfl rfl) .nil), ?_⟩
    refine D_wr (.go (E' := []) rfl (.plain rfl) (ws (cs' := [_, _]) sz23 rfl rfl rfl rfl rfl rfl rfl) rfl ?_)
    rintro _ _ ⟨rfl, rfl⟩
    refine ⟨.nil, ?_⟩
    refine D_then (kp [5, 6, 8, 9, 10, 11, 13, 14, 15] rfl) ?_
    refine ⟨(b8, b7, b9), trivial, (.cons rfl (.cons rfl (.cons rfl (.cons rfl (.cons rfl (.cons rfl (.cons rfl (.cons rfl (.cons rfl (.nil _)))))))))), (by (try dsimp only); repeat (first | exact HSub.nil _ | refine HSub.take (by repeat first | exact Take.head | apply Take.tail) ?_ | exact HSub.refl _ | refine HSub.drop ?_ | refine HSub.app ?_)), rfl⟩
   refine (.go (E' := [(11, _), (8, _), (6, _), (3, _), (1, _)]) rfl (.plain rfl) (w_alloc zr23 rfl) rfl ?_)
   rintro _ _ ⟨b8, hb8, rfl, rfl⟩
   refine ⟨(.cons rfl (.plain rfl) (rlA (vs := [_, _]) ag23 sz23 rfl rfl rfl) (.cons rfl (.plain rfl) (rlA (vs := [_, _]) ag23 sz23 rfl rfl rfl) (.cons rfl (.plain rfl) (rlA (vs := [_, _]) ag23 sz23 rfl rfl rfl) (.cons rfl (.plain rfl) (rlA (vs := [_, _]) ag23 sz23 rfl rfl rfl) (.cons rfl (.plain rfl) (rlA (vs := [_, _]) ag23 sz23 rfl rfl rfl) .nil))))), ?_⟩
   refine D_wr2 rfl ?_ ?_
   ·refine (.go (E' := [(11, _), (8, _), (6, _)]) rfl (.plain rfl) (w_callP rfl rfl rfl (fun w hg => rsub_c s.v.x (windsT l s.p.z).x (by omega) w)) rfl ?_)
    rintro _ _ ⟨rfl, rfl⟩
    refine ⟨(.cons rfl (.plain rfl) (rlA (vs := [_, _]) ag23 sz23 rfl rfl rfl) (.cons rfl (.plain rfl) (rlA (vs := [_, _]) ag23 sz23 rfl rfl rfl) (.cons rfl (.plain rfl) (rlA (vs := [_, _]) ag23 sz23 rfl rfl rfl) .nil))), ?_⟩
    refine D_wr2 rfl ?_ ?_
    ·refine (.go (E' := [(11, _)]) rfl (.plain rfl) (w_callP rfl rfl rfl (fun w hg => rsub_c s.v.y (windsT l s.p.z).y (by omega) w)) rfl ?_)
     rintro _ _ ⟨rfl, rfl⟩
     refine ⟨(.cons rfl (.plain rfl) (rlA (vs := [_, _]) ag23 sz23 rfl rfl rfl) .nil), ?_⟩
     refine D_wr (.go (E' := [(11, _)]) rfl (.plain rfl) (w_alloc zr23 rfl) rfl ?_)
     rintro _ _ ⟨b9, hb9, rfl, rfl⟩
     refine ⟨(.cons rfl (.plain rfl) (rlA (vs := [_, _]) ag23 sz23 rfl rfl rfl) .nil), ?_⟩
     refine D_wr (.go (E' := [(11, _)]) rfl (.plain rfl) (ws (cs' := [_, _]) sz23 rfl rfl rfl rfl rfl rfl rfl) rfl ?_)
     rintro _ _ ⟨rfl, rfl⟩
     refine ⟨(.cons rfl (.plain rfl) (rlA (vs := [_, _]) ag23 sz23 rfl rfl rfl) .nil), ?_⟩
     refine D_wr (.go (E' := [(11, _)]) rfl (.plain rfl) (ws (cs' := [_, _]) sz23 rfl rfl rfl rfl rfl rfl rfl) rfl ?_)
     rintro _ _ ⟨rfl, rfl⟩
     refine ⟨(.cons rfl (.plain rfl) (rlA (vs := [_, _]) ag23 sz23 rfl rfl rfl) .nil), ?_⟩
     refine D_wr (.go (E' := []) rfl (.plain rfl) (ws (cs' := [_, _]) sz23 rfl rfl rfl rfl rfl rfl rfl) rfl ?_)
     rintro _ _ ⟨rfl, rfl⟩
     refine ⟨.nil, ?_⟩
     refine D_then (kp [5, 6, 8, 9, 10, 11, 13, 14, 15] rfl) ?_
     refine ⟨(b9, b7, b8), trivial, (.cons rfl (.cons rfl (.cons rfl (.cons rfl (.cons rfl (.cons rfl (.cons rfl (.cons rfl (.cons rfl (.nil _)))))))))), (by (try dsimp only); repeat (first | exact HSub.nil _ | refine HSub.take (by repeat first | exact Take.head | apply Take.tail) ?_ | exact HSub.refl _ | refine HSub.drop ?_ | refine HSub.app ?_)), rfl⟩
    refine (.go (E' := [(11, _), (8, _), (6, _)]) rfl (.plain rfl) (w_alloc zr23 rfl) rfl ?_)
    rintro _ _ ⟨b9, hb9, rfl, rfl⟩
    refine ⟨(.cons rfl (.plain rfl) (rlA (vs := [_, _]) ag23 sz23 rfl rfl rfl) (.cons rfl (.plain rfl) (rlA (vs := [_, _]) ag23 sz23 rfl rfl rfl) (.cons rfl (.plain rfl) (rlA (vs := [_, _]) ag23 sz23 rfl rfl rfl) .nil))), ?_⟩
    refine D_wr (.go (E' := [(11, _)]) rfl (.plain rfl) (w_callP rfl rfl rfl (fun w hg => rsub_c s.v.y (windsT l s.p.z).y (by omega) w)) rfl ?_)
    rintro _ _ ⟨rfl, rfl⟩
    refine ⟨(.cons rfl (.plain rfl) (rlA (vs := [_, _]) ag23 sz23 rfl rfl rfl) .nil), ?_⟩
    refine D_wr (.go (E' := [(11, _)]) rfl (.plain rfl) (ws (cs' := [_, _]) sz23 rfl rfl rfl rfl rfl rfl rfl) rfl ?_)
    rintro _ _ ⟨rfl, rfl⟩
    refine ⟨(.cons rfl (.plain rfl) (rlA (vs := [_, _]) ag23 sz23 rfl rfl rfl) .nil), ?_⟩
    refine D_wr (.go (E' := [(11, _)]) rfl (.plain rfl) (ws (cs' := [_, _]) sz23 rfl rfl rfl rfl rfl rfl rfl) rfl ?_)
    rintro _ _ ⟨rfl, rfl⟩
    refine ⟨(.cons rfl (.plain rfl) (rlA (vs := [_, _]) ag23 sz23 rfl rfl rfl) .nil), ?_⟩
    refine D_wr (.go (E' := []) rfl (.plain rfl) (ws (cs' := [_, _]) sz23 rfl rfl rfl rfl rfl rfl rfl) rfl ?_)
    rintro _ _ ⟨rfl, rfl⟩
    refine ⟨.nil, ?_⟩
    refine D_then (kp [5, 6, 8, 9, 10, 11, 13, 14, 15] rfl) ?_
    refine ⟨(b9, b7, b8), trivial, (.cons rfl (.cons rfl (.cons rfl (.cons rfl (.cons rfl (.cons rfl (.cons rfl (.cons rfl (.cons rfl (.nil _)))))))))), (by (try dsimp only); repeat (first | exact HSub.nil _ | refine HSub.take (by repeat first | exact Take.head | apply Take.tail) ?_ | exact HSub.refl _ | refine HSub.drop ?_ | refine HSub.app ?_)), rfl⟩
   refine (.go (E' := [(11, _), (8, _), (6, _), (3, _), (1, _)]) rfl (.plain rfl) (w_alloc zr23 rfl) rfl ?_)
   rintro _ _ ⟨b9, hb9, rfl, rfl⟩
   refine ⟨(.cons rfl (.plain rfl) (rlA (vs := [_, _]) ag23 sz23 rfl rfl rfl) (.cons rfl (.plain rfl) (rlA (vs := [_, _]) ag23 sz23 rfl rfl rfl) (.cons rfl (.plain rfl) (rlA (vs := [_, _]) ag23 sz23 rfl rfl rfl) (.cons rfl (.plain rfl) (rlA (vs := [_, _]) ag23 sz23 rfl rfl rfl) (.cons rfl (.plain rfl) (rlA (vs := [_, _]) ag23 sz23 rfl rfl rfl) .nil))))), ?_⟩
   refine D_wr (.go (E' := [(11, _), (8, _), (6, _)]) rfl (.plain rfl) (w_callP rfl rfl rfl (fun w hg => rsub_c s.v.x (windsT l s.p.z).x (by omega) w)) rfl ?_)
   rintro _ _ ⟨rfl, rfl⟩
   refine ⟨(.cons rfl (.plain rfl) (rlA (vs := [_, _]) ag23 sz23 rfl rfl rfl) (.cons rfl (.plain rfl) (rlA (vs := [_, _]) ag23 sz23 rfl rfl rfl) (.cons rfl (.plain rfl) (rlA (vs := [_, _]) ag23 sz23 rfl rfl rfl) .nil))), ?_⟩
   refine D_wr (.go (E' := [(11, _)]) rfl (.plain rfl) (w_callP rfl rfl rfl (fun w hg => rsub_c s.v.y (windsT l s.p.z).y (by omega) w)) rfl ?_)
   rintro _ _ ⟨rfl, rfl⟩
   refine ⟨(.cons rfl (.plain rfl) (rlA (vs := [_, _]) ag23 sz23 rfl rfl rfl) .nil), ?_⟩
   refine D_wr (.go (E' := [(11, _)]) rfl (.plain rfl) (ws (cs' := [_, _]) sz23 rfl rfl rfl rfl rfl rfl rfl) rfl ?_)
   rintro _ _ ⟨rfl, rfl⟩
   refine ⟨(.cons rfl (.plain rfl) (rlA (vs := [_, _]) ag23 sz23 rfl rfl rfl) .nil), ?_⟩
   refine D_wr (.go (E' := [(11, _)]) rfl (.plain rfl) (ws (cs' := [_, _]) sz23 rfl rfl rfl rfl rfl rfl rfl) rfl ?_)
   rintro _ _ ⟨rfl, rfl⟩
   refine ⟨(.cons rfl (.plain rfl) (rlA (vs := [_, _]) ag23 sz23 rfl rfl rfl) .nil), ?_⟩
   refine D_wr (.go (E' := []) rfl (.plain rfl) (ws (cs' := [_, _]) sz23 rfl rfl rfl rfl rfl rfl rfl) rfl ?_)
   rintro _ _ ⟨rfl, rfl⟩
   refine ⟨.nil, ?_⟩
   refine D_then (kp [5, 6, 8, 9, 10, 11, 13, 14, 15] rfl) ?_
   refine ⟨(b9, b7, b8), trivial, (.cons rfl (.cons rfl (.cons rfl (.cons rfl (.cons rfl (.cons rfl (.cons rfl (.cons rfl (.cons rfl (.nil _)))))))))), (by (try dsimp only); repeat (first | exact HSub.nil _ | refine HSub.take (by repeat first | exact Take.head | apply Take.tail) ?_ | exact HSub.refl _ | refine HSub.drop ?_ | refine HSub.app ?_)), rfl⟩
  refine (.go (E' := [(11, _), (8, _), (6, _), (3, _), (1, _)]) rfl (.plain rfl) (w_alloc zr23 rfl) rfl ?_)
  rintro _ _ ⟨b7, hb7, rfl, rfl⟩
  refine ⟨(.cons rfl (.plain rfl) (rlA (vs := [_, _]) ag23 sz23 rfl rfl rfl) (.cons rfl (.plain rfl) (rlA (vs := [_, _]) ag23 sz23 rfl rfl rfl) (.cons rfl (.plain rfl) (rlA (vs := [_, _]) ag23 sz23 rfl rfl rfl) (.cons rfl (.plain rfl) (rlA (vs := [_, _]) ag23 sz23 rfl rfl rfl) (.cons rfl (.plain rfl) (rlA (vs := [_, _]) ag23 sz23 rfl rfl rfl) .nil))))), ?_⟩
  refine D_wr3 rfl rfl rfl ?_ ?_ ?_
  ·refine (.go (E' := [(11, _), (8, _), (6, _)]) rfl (.plain rfl) (w_callP rfl rfl rfl (fun w hg => rsub_c s.v.x (windsT l s.p.z).x (by omega) w)) rfl ?_)
   rintro _ _ ⟨rfl, rfl⟩
   refine ⟨(.cons rfl (.plain rfl) (rlA (vs := [_, _]) ag23 sz23 rfl rfl rfl) (.cons rfl (.plain rfl) (rlA (vs := [_, _]) ag23 sz23 rfl rfl rfl) (.cons rfl (.plain rfl) (rlA (vs := [_, _]) ag23 sz23 rfl rfl rfl) .nil))), ?_⟩
   refine D_wr3 rfl rfl rfl ?_ ?_ ?_
   ·refine (.go (E' := [(11, _)]) rfl (.plain rfl) (w_callP rfl rfl rfl (fun w hg => rsub_c s.v.y (windsT l s.p.z).y (by omega) w)) rfl ?_)
    rintro _ _ ⟨rfl, rfl⟩
    refine ⟨(.cons rfl (.plain rfl) (rlA (vs := [_, _]) ag23 sz23 rfl rfl rfl) .nil), ?_⟩
    refine D_wr2 rfl ?_ ?_
    ·refine (.go (E' := [(11, _)]) rfl (.plain rfl) (w_alloc zr23 rfl) rfl ?_)
     rintro _ _ ⟨b8, hb8, rfl, rfl⟩
     refine ⟨(.cons rfl (.plain rfl) (rlA (vs := [_, _]) ag23 sz23 rfl rfl rfl) .nil), ?_⟩
     refine D_wr (.go (E' := [(11, _)]) rfl (.plain rfl) (w_alloc zr23 rfl) rfl ?_)
     rintro _ _ ⟨b9, hb9, rfl, rfl⟩
     refine ⟨(.cons rfl (.plain rfl) (rlA (vs := [_, _]) ag23 sz23 rfl rfl rfl) .nil), ?_⟩
     refine D_wr (.go (E' := [(11, _)]) rfl (.plain rfl) (ws (cs' := [_, _]) sz23 rfl rfl rfl rfl rfl rfl rfl) rfl ?_)
     rintro _ _ ⟨rfl, rfl⟩
     refine ⟨(.cons rfl (.plain rfl) (rlA (vs := [_, _]) ag23 sz23 rfl rfl rfl) .nil), ?_⟩
     refine D_wr (.go (E' := [(11, _)]) rfl (.plain rfl) (ws (cs' := [_, _]) sz23 rfl rfl rfl rfl rfl rfl rfl) rfl ?_)
     rintro _ _ ⟨rfl, rfl⟩
     refine ⟨(.cons rfl (.plain rfl) (rlA (vs := [_, _]) ag23 sz23 rfl rfl rfl) .nil), ?_⟩
     refine D_wr (.go (E' := []) rfl (.plain rfl) (ws (cs' := [_, _]) sz23 rfl rfl rfl rfl rfl rfl rfl) rfl ?_)
     rintro _ _ ⟨rfl, rfl⟩
     refine ⟨.nil, ?_⟩
     refine D_then (kp [5, 6, 8, 9, 10, 11, 13, 14, 15] rfl) ?_
     refine ⟨(b8, b9, b7), trivial, (.cons rfl (.cons rfl (.cons rfl (.cons rfl (.cons rfl (.cons rfl (.cons rfl (.cons rfl (.cons rfl (.nil _)))))))))), (by (try dsimp only); repeat (first | exact HSub.nil _ | refine HSub.take (by repeat first | exact Take.head | apply Take.tail) ?_ | exact HSub.refl _ | refine HSub.drop ?_ | refine HSub.app ?_)), rfl⟩
    refine (.go (E' := [(11, _)]) rfl (.plain rfl) (w_alloc zr23 rfl) rfl ?_)
    rintro _ _ ⟨b8, hb8, rfl, rfl⟩
    refine ⟨(.cons rfl (.plain rfl) (rlA (vs := [_, _]) ag23 sz23 rfl rfl rfl) .nil), ?_⟩
    refine D_wr (.go (E' := [(11, _)]) rfl (.plain rfl) (w_alloc zr23 rfl) rfl ?_)
    rintro _ _ ⟨b9, hb9, rfl, rfl⟩
    refine ⟨(.cons rfl (.plain rfl) (rlA (vs := [_, _]) ag23 sz23 rfl rfl rfl) .nil), ?_⟩
    refine D_wr (.go (E' := [(11, _)]) rfl (.plain rfl) (ws (cs' := [_, _]) sz23 rfl rfl rfl rfl rfl rfl rfl) rfl ?_)
    rintro _ _ ⟨rfl, rfl⟩
    refine ⟨(.cons rfl (.plain rfl) (rlA (vs := [_, _]) ag23 sz23 rfl rfl rfl) .nil), ?_⟩
    refine D_wr (.go (E' := [(11, _)]) rfl (.plain rfl) (ws (cs' := [_, _]) sz23 rfl rfl rfl rfl rfl rfl rfl) rfl ?_)
    rintro _ _ ⟨rfl, rfl⟩
    refine ⟨(.cons rfl (.plain rfl) (rlA (vs := [_, _]) ag23 sz23 rfl rfl rfl) .nil), ?_⟩
    refine D_wr (.go (E' := []) rfl (.plain rfl) (ws (cs' := [_, _]) sz23 rfl rfl rfl rfl rfl rfl rfl) rfl ?_)
    rintro _ _ ⟨rfl, rfl⟩
    refine ⟨.nil, ?_⟩
    refine D_then (kp [5, 6, 8, 9, 10, 11, 13, 14, 15] rfl) ?_
    refine ⟨(b9, b8, b7), trivial, (.cons rfl (.cons rfl (.cons rfl (.cons rfl (.cons rfl (.cons rfl (.cons rfl (.cons rfl (.cons rfl (.nil _)))))))))), (by (try dsimp only); repeat (first | exact HSub.nil _ | refine HSub.take (by repeat first | exact Take.head | apply Take.tail) ?_ | exact HSub.refl _ | refine HSub.drop ?_ | refine HSub.app ?_)), rfl⟩
   ·refine (.go (E' := [(11, _), (8, _), (6, _)]) rfl (.plain rfl) (w_alloc zr23 rfl) rfl ?_)
    rintro _ _ ⟨b8, hb8, rfl, rfl⟩
    refine ⟨(.cons rfl (.plain rfl) (rlA (vs := [_, _]) ag23 sz23 rfl rfl rfl) (.cons rfl (.plain rfl) (rlA (vs := [_, _]) ag23 sz23 rfl rfl rfl) (.cons rfl (.plain rfl) (rlA (vs := [_, _]) ag23 sz23 rfl rfl rfl) .nil))), ?_⟩
    refine D_wr2 rfl ?_ ?_
    ·refine (.go (E' := [(11, _)]) rfl (.plain rfl) (w_callP rfl rfl rfl (fun w hg => rsub_c s.v.y (windsT l s.p.z).y (by omega) w)) rfl ?_)
     rintro _ _ ⟨rfl, rfl⟩
     refine ⟨(.cons rfl (.plain rfl) (rlA (vs := [_, _]) ag23 sz23 rfl rfl rfl) .nil), ?_⟩
     refine D_wr (.go (E' := [(11, _)]) rfl (.plain rfl) (w_alloc zr23 rfl) rfl ?_)
     rintro _ _ ⟨b9, hb9, rfl, rfl⟩
     refine ⟨(.cons rfl (.plain rfl) (rlA (vs := [_, _]) ag23 sz23 rfl rfl rfl) .nil), ?_⟩
     refine D_wr (.go (E' := [(11, _)]) rfl (.plain rfl) (ws (cs' := [_, _]) sz23 rfl rfl rfl rfl rfl rfl rfl) rfl ?_)
     rintro _ _ ⟨rfl, rfl⟩
     refine ⟨(.cons rfl (.plain rfl) (rlA (vs := [_, _]) ag23 sz23 rfl rfl rfl) .nil), ?_⟩
     refine D_wr (.go (E' := [(11, _)]) rfl (.plain rfl) (ws (cs' := [_, _]) sz23 rfl rfl rfl rfl rfl rfl rfl) rfl ?_)
     rintro _ _ ⟨rfl, rfl⟩
     refine ⟨(.cons rfl (.plain rfl) (rlA (vs := [_, _]) ag23 sz23 rfl rfl rfl) .nil), ?_⟩
     refine D_wr (.go (E' := []) rfl (.plain rfl) (ws (cs' := [_, _]) sz23 rfl rfl rfl rfl rfl rfl rfl) rfl ?_)
     rintro _ _ ⟨rfl, rfl⟩
     refine ⟨.nil, ?_⟩
     refine D_then (kp [5, 6, 8, 9, 10, 11, 13, 14, 15] rfl) ?_
     refine ⟨(b8, b9, b7), trivial, (.cons rfl (.cons rfl (.cons rfl (.cons rfl (.cons rfl (.cons rfl (.cons rfl (.cons rfl (.cons rfl (.nil _)))))))))), (by (try dsimp only); repeat (first | exact HSub.nil _ | refine HSub.take (by repeat first | exact Take.head | apply Take.tail) ?_ | exact HSub.refl _ | refine HSub.drop ?_ | refine HSub.app ?_)), rfl⟩
    refine (.go (E' := [(11, _), (8, _), (6, _)]) rfl (.plain rfl) (w_alloc zr23 rfl) rfl ?_)
    rintro _ _ ⟨b9, hb9, rfl, rfl⟩
    refine ⟨(.cons rfl (.plain rfl) (rlA (vs := [_, _]) ag23 sz23 rfl rfl rfl) (.cons rfl (.plain rfl) (rlA (vs := [_, _]) ag23 sz23 rfl rfl rfl) (.cons rfl (.plain rfl) (rlA (vs := [_, _]) ag23 sz23 rfl rfl rfl) .nil))), ?_⟩
    refine D_wr (.go (E' := [(11, _)]) rfl (.plain rfl) (w_callP rfl rfl rfl (fun w hg => rsub_c s.v.y (windsT l s.p.z).y (by omega) w)) rfl ?_)
    rintro _ _ ⟨rfl, rfl⟩
    refine ⟨(.cons rfl (.plain rfl) (rlA (vs := [_, _]) ag23 sz23 rfl rfl rfl) .nil), ?_⟩
    refine D_wr (.go (E' := [(11, _)]) rfl (.plain rfl) (ws (cs' := [_, _]) sz23 rfl rfl rfl rfl rfl rfl rfl) rfl ?_)
    rintro _ _ ⟨rfl, rfl⟩
    refine ⟨(.cons rfl (.plain rfl) (rlA (vs := [_, _]) ag23 sz23 rfl rfl rfl) .nil), ?_⟩
    refine D_wr (.go (E' := [(11, _)]) rfl (.plain rfl) (ws (cs' := [_, _]) sz23 rfl rfl rfl rfl rfl rfl rfl) rfl ?_)
    rintro _ _ ⟨rfl, rfl⟩
    refine ⟨(.cons rfl (.plain rfl) (rlA (vs := [_, _]) ag23 sz23 rfl rfl rfl) .nil), ?_⟩
    refine D_wr (.go (E' := []) rfl (.plain rfl) (ws (cs' := [_, _]) sz23 rfl rfl rfl rfl rfl rfl rfl) rfl ?_)
    rintro _ _ ⟨rfl, rfl⟩
    refine ⟨.nil, ?_⟩
    refine D_then (kp [5, 6, 8, 9, 10, 11, 13, 14, 15] rfl) ?_
    refine ⟨(b8, b9, b7), trivial, (.cons rfl (.cons rfl (.cons rfl (.cons rfl (.cons rfl (.cons rfl (.cons rfl (.cons rfl (.cons rfl (.nil _)))))))))), (by (try dsimp only); repeat (first | exact HSub.nil _ | refine HSub.take (by repeat first | exact Take.head | apply Take.tail) ?_ | exact HSub.refl _ | refine HSub.drop ?_ | refine HSub.app ?_)), rfl⟩
   refine (.go (E' := [(11, _), (8, _), (6, _)]) rfl (.plain rfl) (w_alloc zr23 rfl) rfl ?_)
   rintro _ _ ⟨b8, hb8, rfl, rfl⟩
   refine ⟨(.cons rfl (.plain rfl) (rlA (vs := [_, _]) ag23 sz23 rfl rfl rfl) (.cons rfl (.plain rfl) (rlA (vs := [_, _]) ag23 sz23 rfl rfl rfl) (.cons rfl (.plain rfl) (rlA (vs := [_, _]) ag23 sz23 rfl rfl rfl) .nil))), ?_⟩
   refine D_wr2 rfl ?_ ?_
   ·refine (.go (E' := [(11, _)]) rfl (.plain rfl) (w_callP rfl rfl rfl (fun w hg => rsub_c s.v.y (windsT l s.p.z).y (by omega) w)) rfl ?_)
    rintro _ _ ⟨rfl, rfl⟩
    refine ⟨(.cons rfl (.plain rfl) (rlA (vs := [_, _]) ag23 sz23 rfl rfl rfl) .nil), ?_⟩
    refine D_wr (.go (E' := [(11, _)]) rfl (.plain rfl) (w_alloc zr23 rfl) rfl ?_)
    rintro _ _ ⟨b9, hb9, rfl, rfl⟩
    refine ⟨(.cons rfl (.plain rfl) (rlA (vs := [_, _]) ag23 sz23 rfl rfl rfl) .nil), ?_⟩
    refine D_wr (.go (E' := [(11, _)]) rfl (.plain rfl) (ws (cs' := [_, _]) sz23 rfl rfl rfl rfl rfl rfl rfl) rfl ?_)
    rintro _ _ ⟨rfl, rfl⟩
    refine ⟨(.cons rfl (.plain rfl) (rlA (vs := [_, _]) ag23 sz23 rfl rfl rfl) .nil), ?_⟩
    refine D_wr (.go (E' := [(11, _)]) rfl (.plain rfl) (ws (cs' := [_, _]) sz23 rfl rfl rfl rfl rfl rfl rfl) rfl ?_)
    rintro _ _ ⟨rfl, rfl⟩
    refine ⟨(.cons rfl (.plain rfl) (rlA (vs := [_, _]) ag23 sz23 rfl rfl rfl) .nil), ?_⟩
    refine D_wr (.go (E' := []) rfl (.plain rfl) (ws (cs' := [_, _]) sz23 rfl rfl rfl rfl rfl rfl rfl) rfl ?_)
    rintro _ _ ⟨rfl, rfl⟩
    refine ⟨.nil, ?_⟩
    refine D_then (kp [5, 6, 8, 9, 10, 11, 13, 14, 15] rfl) ?_
    refine ⟨(b9, b8, b7), trivial, (.cons rfl (.cons rfl (.cons rfl (.cons rfl (.cons rfl (.cons rfl (.cons rfl (.cons rfl (.cons rfl (.nil _)))))))))), (by (try dsimp only); repeat (first | exact HSub.nil _ | refine HSub.take (by repeat first | exact Take.head | apply Take.tail) ?_ | exact HSub.refl _ | refine HSub.drop ?_ | refine HSub.app ?_)), rfl⟩
   refine (.go (E' := [(11, _), (8, _), (6, _)]) rfl (.plain rfl) (w_alloc zr23 rfl) rfl ?_)
   rintro _ _ ⟨b9, hb9, rfl, rfl⟩
   refine ⟨(.cons rfl (.plain rfl) (rlA (vs := [_, _]) ag23 sz23 rfl rfl rfl) (.cons rfl (.plain rfl) (rlA (vs := [_, _]) ag23 sz23 rfl rfl rfl) (.cons rfl (.plain rfl) (rlA (vs := [_, _]) ag23 sz23 rfl rfl rfl) .nil))), ?_⟩
   refine D_wr (.go (E' := [(11, _)]) rfl (.plain rfl) (w_callP rfl rfl rfl (fun w hg => rsub_c s.v.y (windsT l s.p.z).y (by omega) w)) rfl ?_)
   rintro _ _ ⟨rfl, rfl⟩
   refine ⟨(.cons rfl (.plain rfl) (rlA (vs := [_, _]) ag23 sz23 rfl rfl rfl) .nil), ?_⟩
   refine D_wr (.go (E' := [(11, _)]) rfl (.plain rfl) (ws (cs' := [_, _]) sz23 rfl rfl rfl rfl rfl rfl rfl) rfl ?_)
   rintro _ _ ⟨rfl, rfl⟩
   refine ⟨(.cons rfl (.plain rfl) (rlA (vs := [_, _]) ag23 sz23 rfl rfl rfl) .nil), ?_⟩
   refine D_wr (.go (E' := [(11, _)]) rfl (.plain rfl) (ws (cs' := [_, _]) sz23 rfl rfl rfl rfl rfl rfl rfl) rfl ?_)
   rintro _ _ ⟨rfl, rfl⟩
   refine ⟨(.cons rfl (.plain rfl) (rlA (vs := [_, _]) ag23 sz23 rfl rfl rfl) .nil), ?_⟩
   refine D_wr (.go (E' := []) rfl (.plain rfl) (ws (cs' := [_, _]) sz23 rfl rfl rfl rfl rfl rfl rfl) rfl ?_)
   rintro _ _ ⟨rfl, rfl⟩
   refine ⟨.nil, ?_⟩
   refine D_then (kp [5, 6, 8, 9, 10, 11, 13, 14, 15] rfl) ?_
   refine ⟨(b9, b8, b7), trivial, (.cons rfl (.cons rfl (.cons rfl (.cons rfl (.cons rfl (.cons rfl (.cons rfl (.cons rfl (.cons rfl (.nil _)))))))))), (by (try dsimp only); repeat (first | exact HSub.nil _ | refine HSub.take (by repeat first | exact Take.head | apply Take.tail) ?_ | exact HSub.refl _ | refine HSub.drop ?_ | refine HSub.app ?_)), rfl⟩
  ·refine (.go (E' := [(11, _), (8, _), (6, _), (3, _), (1, _)]) rfl (.plain rfl) (w_alloc zr23 rfl) rfl ?_)
   rintro _ _ ⟨b8, hb8, rfl, rfl⟩
   refine ⟨(.cons rfl (.plain rfl) (rlA (vs := [_, _]) ag23 sz23 rfl rfl rfl) (.cons rfl (.plain rfl) (rlA (vs := [_, _]) ag23 sz23 rfl rfl rfl) (.cons rfl (.plain rfl) (rlA (vs := [_, _]) ag23 sz23 rfl rfl rfl) (.cons rfl (.plain rfl) (rlA (vs := [_, _]) ag23 sz23 rfl rfl rfl) (.cons rfl (.plain rfl) (rlA (vs := [_, _]) ag23 sz23 rfl rfl rfl) .nil))))), ?_⟩
   refine D_wr2 rfl ?_ ?_
   ·refine (.go (E' := [(11, _), (8, _), (6, _)]) rfl (.plain rfl) (w_callP rfl rfl rfl (fun w hg => rsub_c s.v.x (windsT l s.p.z).x (by omega) w)) rfl ?_)
    rintro _ _ ⟨rfl, rfl⟩
    refine ⟨(.cons rfl (.plain rfl) (rlA (vs := [_, _]) ag23 sz23 rfl rfl rfl) (.cons rfl (.plain rfl) (rlA (vs := [_, _]) ag23 sz23 rfl rfl rfl) (.cons rfl (.plain rfl) (rlA (vs := [_, _]) ag23 sz23 rfl rfl rfl) .nil))), ?_⟩
    refine D_wr2 rfl ?_ ?_
    ·refine (.go (E' := [(11, _)]) rfl (.plain rfl) (w_callP rfl rfl rfl (fun w hg => rsub_c s.v.y (windsT l s.p.z).y (by omega) w)) rfl ?_)
     rintro _ _ ⟨rfl, rfl⟩
     refine ⟨(.cons rfl (.plain rfl) (rlA (vs := [_, _]) ag23 sz23 rfl rfl rfl) .nil), ?_⟩
     refine D_wr (.go (E' := [(11, _)]) rfl (.plain rfl) (w_alloc zr23 rfl) rfl ?_)
     rintro _ _ ⟨b9, hb9, rfl, rfl⟩
     refine ⟨(.cons rfl (.plain rfl) (rlA (vs := [_, _]) ag23 sz23 rfl rfl rfl) .nil), ?_⟩
     refine D_wr (.go (E' := [(11, _)]) rfl (.plain rfl) (ws (cs' := [_, _]) sz23 rfl rfl rfl rfl rfl rfl rfl) rfl ?_)
     rintro _ _ ⟨rfl, rfl⟩
     refine ⟨(.cons rfl (.plain rfl) (rlA (vs := [_, _]) ag23 sz23 rfl rfl rfl) .nil), ?_⟩
     refine D_wr (.go (E' := [(11, _)]) rfl (.plain rfl) (ws (cs' := [_, _]) sz23 rfl rfl rfl rfl rfl rfl rfl) rfl ?_)
     rintro _ _ ⟨rfl, rfl⟩
     refine ⟨(.cons rfl (.plain rfl) (rlA (vs := [_, _]) ag23 sz23 rfl rfl rfl) .nil), ?_⟩
     refine D_wr (.go (E' := []) rfl (.plain rfl) (ws (cs' := [_, _]) sz23 rfl rfl rfl rfl rfl rfl rfl) rfl ?_)
     rintro _ _ ⟨rfl, rfl⟩
     refine ⟨.nil, ?_⟩
     refine D_then (kp [5, 6, 8, 9, 10, 11, 13, 14, 15] rfl) ?_
     refine ⟨(b8, b9, b7), trivial, (.cons rfl (.cons rfl (.cons rfl (.cons rfl (.cons rfl (.cons rfl (.cons rfl (.cons rfl (.cons rfl (.nil _)))))))))), (by (try dsimp only); repeat (first | exact HSub.nil _ | refine HSub.take (by repeat first | exact Take.head | apply Take.tail) ?_ | exact HSub.refl _ | refine HSub.drop ?_ | refine HSub.app ?_)), rfl⟩
    refine (.go (E' := [(11, _), (8, _), (6, _)]) rfl (.plain rfl) (w_alloc zr23 rfl) rfl ?_)
    rintro _ _ ⟨b9, hb9, rfl, rfl⟩
    refine ⟨(.cons rfl (.plain rfl) (rlA (vs := [_, _]) ag23 sz23 rfl rfl rfl) (.cons rfl (.plain rfl) (rlA (vs := [_, _]) ag23 sz23 rfl rfl rfl) (.cons rfl (.plain rfl) (rlA (vs := [_, _]) ag23 sz23 rfl rfl rfl) .nil))), ?_⟩
    refine D_wr (.go (E' := [(11, _)]) rfl (.plain rfl) (w_callP rfl rfl rfl (fun w hg => rsub_c s.v.y (windsT l s.p.z).y (by omega) w)) rfl ?_)
    rintro _ _ ⟨rfl, rfl⟩
    refine ⟨(.cons rfl (.plain rfl) (rlA (vs := [_, _]) ag23 sz23 rfl rfl rfl) .nil), ?_⟩
    refine D_wr (.go (E' := [(11, _)]) rfl (.plain rfl) (ws (cs' := [_, _]) sz23 rfl rfl rfl rfl rfl rfl rfl) rfl ?_)
    rintro _ _ ⟨rfl, rfl⟩
    refine ⟨(.cons rfl (.plain rfl) (rlA (vs := [_, _]) ag23 sz23 rfl rfl rfl) .nil), ?_⟩
    refine D_wr (.go (E' := [(11, _)]) rfl (.plain rfl) (ws (cs' := [_, _]) sz23 rfl rfl rfl rfl rfl rfl rfl) rfl ?_)
    rintro _ _ ⟨rfl, rfl⟩
    refine ⟨(.cons rfl (.plain rfl) (rlA (vs := [_, _]) ag23 sz23 rfl rfl rfl) .nil), ?_⟩
    refine D_wr (.go (E' := []) rfl (.plain rfl) (ws (cs' := [_, _]) sz23 rfl rfl rfl rfl rfl rfl rfl) rfl ?_)
    rintro _ _ ⟨rfl, rfl⟩
    refine ⟨.nil, ?_⟩
    refine D_then (kp [5, 6, 8, 9, 10, 11, 13, 14, 15] rfl) ?_
    refine ⟨(b8, b9, b7), trivial, (.cons rfl (.cons rfl (.cons rfl (.cons rfl (.cons rfl (.cons rfl (.cons rfl (.cons rfl (.cons rfl (.nil _)))))))))), (by (try dsimp only); repeat (first | exact HSub.nil _ | refine HSub.take (by repeat first | exact Take.head | apply Take.tail) ?_ | exact HSub.refl _ | refine HSub.drop ?_ | refine HSub.app ?_)), rfl⟩
   refine (.go (E' := [(11, _), (8, _), (6, _), (3, _), (1, _)]) rfl (.plain rfl) (w_alloc zr23 rfl) rfl ?_)
   rintro _ _ ⟨b9, hb9, rfl, rfl⟩
   refine ⟨(.cons rfl (.plain rfl) (rlA (vs := [_, _]) ag23 sz23 rfl rfl rfl) (.cons rfl (.plain rfl) (rlA (vs := [_, _]) ag23 sz23 rfl rfl rfl) (.cons rfl (.plain rfl) (rlA (vs := [_, _]) ag23 sz23 rfl rfl rfl) (.cons rfl (.plain rfl) (rlA (vs := [_, _]) ag23 sz23 rfl rfl rfl) (.cons rfl (.plain rfl) (rlA (vs := [_, _]) ag23 sz23 rfl rfl rfl) .nil))))), ?_⟩
   refine D_wr (.go (E' := [(11, _), (8, _), (6, _)]) rfl (.plain rfl) (w_callP rfl rfl rfl (fun w hg => rsub_c s.v.x (windsT l s.p.z).x (by omega) w)) rfl ?_)
   rintro _ _ ⟨rfl, rfl⟩
   refine ⟨(.cons rfl (.plain rfl) (rlA (vs := [_, _]) ag23 sz23 rfl rfl rfl) (.cons rfl (.plain rfl) (rlA (vs := [_, _]) ag23 sz23 rfl rfl rfl) (.cons rfl (.plain rfl) (rlA (vs := [_, _]) ag23 sz23 rfl rfl rfl) .nil))), ?_⟩
   refine D_wr (.go (E' := [(11, _)]) rfl (.plain rfl) (w_callP rfl rfl rfl (fun w hg => rsub_c s.v.y (windsT l s.p.z).y (by omega) w)) rfl ?_)
   rintro _ _ ⟨rfl, rfl⟩
   refine ⟨(.cons rfl (.plain rfl) (rlA (vs := [_, _]) ag23 sz23 rfl rfl rfl) .nil), ?_⟩
   refine D_wr (.go (E' := [(11, _)]) rfl (.plain rfl) (ws (cs' := [_, _]) sz23 rfl rfl rfl rfl rfl rfl rfl) rfl ?_)
   rintro _ _ ⟨rfl, rfl⟩
   refine ⟨(.cons rfl (.plain rfl) (rlA (vs := [_, _]) ag23 sz23 rfl rfl rfl) .nil), ?_⟩
   refine D_wr (.go (E' := [(11, _)]) rfl (.plain rfl) (ws (cs' := [_, _]) sz23 rfl rfl rfl rfl rfl rfl rfl) rfl ?_)
   rintro _ _ ⟨rfl, rfl⟩
   refine ⟨(.cons rfl (.plain rfl) (rlA (vs := [_, _]) ag23 sz23 rfl rfl rfl) .nil), ?_⟩
   refine D_wr (.go (E' := []) rfl (.plain rfl) (ws (cs' := [_, _]) sz23 rfl rfl rfl rfl rfl rfl rfl) rfl ?_)
   rintro _ _ ⟨rfl, rfl⟩
   refine ⟨.nil, ?_⟩
   refine D_then (kp [5, 6, 8, 9, 10, 11, 13, 14, 15] rfl) ?_
   refine ⟨(b8, b9, b7), trivial, (.cons rfl (.cons rfl (.cons rfl (.cons rfl (.cons rfl (.cons rfl (.cons rfl (.cons rfl (.cons rfl (.nil _)))))))))), (by (try dsimp only); repeat (first | exact HSub.nil _ | refine HSub.take (by repeat first | exact Take.head | apply Take.tail) ?_ | exact HSub.refl _ | refine HSub.drop ?_ | refine HSub.app ?_)), rfl⟩
  refine (.go (E' := [(11, _), (8, _), (6, _), (3, _), (1, _)]) rfl (.plain rfl) (w_alloc zr23 rfl) rfl ?_)
  rintro _ _ ⟨b8, hb8, rfl, rfl⟩
  refine ⟨(.cons rfl (.plain rfl) (rlA (vs := [_, _]) ag23 sz23 rfl rfl rfl) (.cons rfl (.plain rfl) (rlA (vs := [_, _]) ag23 sz23 rfl rfl rfl) (.cons rfl (.plain rfl) (rlA (vs := [_, _]) ag23 sz23 rfl rfl rfl) (.cons rfl (.plain rfl) (rlA (vs := [_, _]) ag23 sz23 rfl rfl rfl) (.cons rfl (.plain rfl) (rlA (vs := [_, _]) ag23 sz23 rfl rfl rfl) .nil))))), ?_⟩
  refine D_wr2 rfl ?_ ?_
  ·refine (.go (E' := [(11, _), (8, _), (6, _)]) rfl (.plain rfl) (w_callP rfl rfl rfl (fun w hg => rsub_c s.v.x (windsT l s.p.z).x (by omega) w)) rfl ?_)
   rintro _ _ ⟨rfl, rfl⟩
   refine ⟨(.cons rfl (.plain rfl) (rlA (vs := [_, _]) ag23 sz23 rfl rfl rfl) (.cons rfl (.plain rfl) (rlA (vs := [_, _]) ag23 sz23 rfl rfl rfl) (.cons rfl (.plain rfl) (rlA (vs := [_, _]) ag23 sz23 rfl rfl rfl) .nil))), ?_⟩
   refine D_wr2 rfl ?_ ?_
   ·refine (.go (E' := [(11, _)]) rfl (.plain rfl) (w_callP rfl rfl rfl (fun w hg => rsub_c s.v.y (windsT l s.p.z).y (by omega) w)) rfl ?_)
    rintro _ _ ⟨rfl, rfl⟩
    refine ⟨(.cons rfl (.plain rfl) (rlA (vs := [_, _]) ag23 sz23 rfl rfl rfl) .nil), ?_⟩
    refine D_wr (.go (E' := [(11, _)]) rfl (.plain rfl) (w_alloc zr23 rfl) rfl ?_)
    rintro _ _ ⟨b9, hb9, rfl, rfl⟩
    refine ⟨(.cons rfl (.plain rfl) (rlA (vs := [_, _]) ag23 sz23 rfl rfl rfl) .nil), ?_⟩
    refine D_wr (.go (E' := [(11, _)]) rfl (.plain rfl) (ws (cs' := [_, _]) sz23 rfl rfl rfl rfl rfl rfl rfl) rfl ?_)
    rintro _ _ ⟨rfl, rfl⟩
    refine ⟨(.cons rfl (.plain rfl) (rlA (vs := [_, _]) ag23 sz23 rfl rfl rfl) .nil), ?_⟩
    refine D_wr (.go (E' := [(11, _)]) rfl (.plain rfl) (ws (cs' := [_, _]) sz23 rfl rfl rfl rfl rfl rfl rfl) rfl ?_)
    rintro _ _ ⟨rfl, rfl⟩
    refine ⟨(.cons rfl (.plain rfl) (rlA (vs := [_, _]) ag23 sz23 rfl rfl rfl) .nil), ?_⟩
    refine D_wr (.go (E' := []) rfl (.plain rfl) (ws (cs' := [_, _]) sz23 rfl rfl rfl rfl rfl rfl rfl) rfl ?_)
    rintro _ _ ⟨rfl, rfl⟩
    refine ⟨.nil, ?_⟩
    refine D_then (kp [5, 6, 8, 9, 10, 11, 13, 14, 15] rfl) ?_
    refine ⟨(b9, b8, b7), trivial, (.cons rfl (.cons rfl (.cons rfl (.cons rfl (.cons rfl (.cons rfl (.cons rfl (.cons rfl (.cons rfl (.nil _)))))))))), (by (try dsimp only); repeat (first | exact HSub.nil _ | refine HSub.take (by repeat first | exact Take.head | apply Take.tail) ?_ | exact HSub.refl _ | refine HSub.drop ?_ | refine HSub.app ?_)), rfl⟩
   refine (.go (E' := [(11, _), (8, _), (6, _)]) rfl (.plain rfl) (w_alloc zr23 rfl) rfl ?_)
   rintro _ _ ⟨b9, hb9, rfl, rfl⟩
   refine ⟨(.cons rfl (.plain rfl) (rlA (vs := [_, _]) ag23 sz23 rfl rfl rfl) (.cons rfl (.plain rfl) (rlA (vs := [_, _]) ag23 sz23 rfl rfl rfl) (.cons rfl (.plain rfl) (rlA (vs := [_, _]) ag23 sz23 rfl rfl rfl) .nil))), ?_⟩
   refine D_wr (.go (E' := [(11, _)]) rfl (.plain rfl) (w_callP rfl rfl rfl (fun w hg => rsub_c s.v.y (windsT l s.p.z).y (by omega) w)) rfl ?_)
   rintro _ _ ⟨rfl, rfl⟩
   refine ⟨(.cons rfl (.plain rfl) (rlA (vs := [_, _]) ag23 sz23 rfl rfl rfl) .nil), ?_⟩
   refine D_wr (.go (E' := [(11, _)]) rfl (.plain rfl) (ws (cs' := [_, _]) sz23 rfl rfl rfl rfl rfl rfl rfl) rfl ?_)
   rintro _ _ ⟨rfl, rfl⟩
   refine ⟨(.cons rfl (.plain rfl) (rlA (vs := [_, _]) ag23 sz23 rfl rfl rfl) .nil), ?_⟩
   refine D_wr (.go (E' := [(11, _)]) rfl (.plain rfl) (ws (cs' := [_, _]) sz23 rfl rfl rfl rfl rfl rfl rfl) rfl ?_)
   rintro _ _ ⟨rfl, rfl⟩
   refine ⟨(.cons rfl (.plain rfl) (rlA (vs := [_, _]) ag23 sz23 rfl rfl rfl) .nil), ?_⟩
   refine D_wr (.go (E' := []) rfl (.plain rfl) (ws (cs' := [_, _]) sz23 rfl rfl rfl rfl rfl rfl rfl) rfl ?_)
   rintro _ _ ⟨rfl, rfl⟩
   refine ⟨.nil, ?_⟩
   refine D_then (kp [5, 6, 8, 9, 10, 11, 13, 14, 15] rfl) ?_
   refine ⟨(b9, b8, b7), trivial, (.cons rfl (.cons rfl (.cons rfl (.cons rfl (.cons rfl (.cons rfl (.cons rfl (.cons rfl (.cons rfl (.nil _)))))))))), (by (try dsimp only); repeat (first | exact HSub.nil _ | refine HSub.take (by repeat first | exact Take.head | apply Take.tail) ?_ | exact HSub.refl _ | refine HSub.drop ?_ | refine HSub.app ?_)), rfl⟩
  refine (.go (E' := [(11, _), (8, _), (6, _), (3, _), (1, _)]) rfl (.plain rfl) (w_alloc zr23 rfl) rfl ?_)
  rintro _ _ ⟨b9, hb9, rfl, rfl⟩
  refine ⟨(.cons rfl (.plain rfl) (rlA (vs := [_, _]) ag23 sz23 rfl rfl rfl) (.cons rfl (.plain rfl) (rlA (vs := [_, _]) ag23 sz23 rfl rfl rfl) (.cons rfl (.plain rfl) (rlA (vs := [_, _]) ag23 sz23 rfl rfl rfl) (.cons rfl (.plain rfl) (rlA (vs := [_, _]) ag23 sz23 rfl rfl rfl) (.cons rfl (.plain rfl) (rlA (vs := [_, _]) ag23 sz23 rfl rfl rfl) .nil))))), ?_⟩
  refine D_wr (.go (E' := [(11, _), (8, _), (6, _)]) rfl (.plain rfl) (w_callP rfl rfl rfl (fun w hg => rsub_c s.v.x (windsT l s.p.z).x (by omega) w)) rfl ?_)
  rintro _ _ ⟨rfl, rfl⟩
  refine ⟨(.cons rfl (.plain rfl) (rlA (vs := [_, _]) ag23 sz23 rfl rfl rfl) (.cons rfl (.plain rfl) (rlA (vs := [_, _]) ag23 sz23 rfl rfl rfl) (.cons rfl (.plain rfl) (rlA (vs := [_, _]) ag23 sz23 rfl rfl rfl) .nil))), ?_⟩
  refine D_wr (.go (E' := [(11, _)]) rfl (.plain rfl) (w_callP rfl rfl rfl (fun w hg => rsub_c s.v.y (windsT l s.p.z).y (by omega) w)) rfl ?_)
  rintro _ _ ⟨rfl, rfl⟩
  refine ⟨(.cons rfl (.plain rfl) (rlA (vs := [_, _]) ag23 sz23 rfl rfl rfl) .nil), ?_⟩
  refine D_wr (.go (E' := [(11, _)]) rfl (.plain rfl) (ws (cs' := [_, _]) sz23 rfl rfl rfl rfl rfl rfl rfl) rfl ?_)
  rintro _ _ ⟨rfl, rfl⟩
  refine ⟨(.cons rfl (.plain rfl) (rlA (vs := [_, _]) ag23 sz23 rfl rfl rfl) .nil), ?_⟩
  refine D_wr (.go (E' := [(11, _)]) rfl (.plain rfl) (ws (cs' := [_, _]) sz23 rfl rfl rfl rfl rfl rfl rfl) rfl ?_)
  rintro _ _ ⟨rfl, rfl⟩
  refine ⟨(.cons rfl (.plain rfl) (rlA (vs := [_, _]) ag23 sz23 rfl rfl rfl) .nil), ?_⟩
  refine D_wr (.go (E' := []) rfl (.plain rfl) (ws (cs' := [_, _]) sz23 rfl rfl rfl rfl rfl rfl rfl) rfl ?_)
  rintro _ _ ⟨rfl, rfl⟩
  refine ⟨.nil, ?_⟩
  refine D_then (kp [5, 6, 8, 9, 10, 11, 13, 14, 15] rfl) ?_
  refine ⟨(b9, b8, b7), trivial, (.cons rfl (.cons rfl (.cons rfl (.cons rfl (.cons rfl (.cons rfl (.cons rfl (.cons rfl (.cons rfl (.nil _)))))))))), (by (try dsimp only); repeat (first | exact HSub.nil _ | refine HSub.take (by repeat first | exact Take.head | apply Take.tail) ?_ | exact HSub.refl _ | refine HSub.drop ?_ | refine HSub.app ?_)), rfl⟩
 rintro ⟨x13, x14, x15⟩ _
 refine V_mid (γ := Nat) (kp [5, 6, 8, 9, 10, 11, 13, 14, 15] rfl) (fun x16 => [(16, .pointer (some ⟨x16, 0, none⟩))]) (fun x16 => (x16, Obj.cells #[.int .i64 (speedS (relA l s)).lo, .int .i64 (speedS (relA l s)).hi] 23) :: (x13, Obj.cells #[.int .i64 (relA l s).x.lo, .int .i64 (relA l s).x.hi] 23) :: (x14, Obj.cells #[.int .i64 (relA l s).y.lo, .int .i64 (relA l s).y.hi] 23) :: (x15, Obj.cells #[.int .i64 s.v.z.lo, .int .i64 s.v.z.hi] 23) :: (b6, Obj.cells #[.int .i64 (windsT l s.p.z).x.lo, .int .i64 (windsT l s.p.z).x.hi, .int .i64 (windsT l s.p.z).y.lo, .int .i64 (windsT l s.p.z).y.hi] 88) :: (x11, Obj.cells #[.int .i64 (pushS p).lo, .int .i64 (pushS p).hi] 23) :: (b5, Obj.cells #[.int .i64 0, .int .i64 0, .int .i64 0, .int .i64 0, .int .i64 0, .int .i64 0] 77) :: (b4, Obj.cells #[.int .i64 s.p.x.lo, .int .i64 s.p.x.hi, .int .i64 s.p.y.lo, .int .i64 s.p.y.hi, .int .i64 s.p.z.lo, .int .i64 s.p.z.hi, .int .i64 s.v.x.lo, .int .i64 s.v.x.hi, .int .i64 s.v.y.lo, .int .i64 s.v.y.hi, .int .i64 s.v.z.lo, .int .i64 s.v.z.hi] 82) :: (b3, Obj.cells (Phase.cells p).toArray 66) :: (b2, Obj.cells #[.int .i64 d.x, .int .i64 d.y, .int .i64 d.z] 30) :: [(b1, Obj.cells #[.string v.name, .int .i64 v.gravity.lo, .int .i64 v.gravity.hi, av, pv, qv] 28)]) (fun x16 => True) ?_ ?_
 ·refine V_draw (.rd 0 (.rd 2 (.rd 5 (.wr2 1 [5, 2] (.wr2 3 [5, 0] (.wr2 4 [5, 2, 0] (.wr2 6 [2, 0] (.wr2 7 [5, 2, 0] (.wr2 8 [5, 2, 0] (.wr 9 [5, 2, 0] (.wr 10 [] .done)) 9 [5, 2, 0] (.wr 8 [5, 2, 0] (.wr 10 [] .done))) 9 [5, 2, 0] (.wr 7 [5, 2, 0] (.wr 8 [5, 2, 0] (.wr 10 [] .done)))) 9 [5, 2, 0] (.wr 6 [2, 0] (.wr 7 [5, 2, 0] (.wr 8 [5, 2, 0] (.wr 10 [] .done))))) 9 [5, 2, 0] (.wr 4 [5, 2, 0] (.wr 6 [2, 0] (.wr 7 [5, 2, 0] (.wr 8 [5, 2, 0] (.wr 10 [] .done)))))) 9 [5, 2, 0] (.wr 3 [5, 0] (.wr 4 [5, 2, 0] (.wr 6 [2, 0] (.wr 7 [5, 2, 0] (.wr 8 [5, 2, 0] (.wr 10 [] .done))))))) 9 [5, 2, 0] (.wr 1 [5, 2] (.wr 3 [5, 0] (.wr 4 [5, 2, 0] (.wr 6 [2, 0] (.wr 7 [5, 2, 0] (.wr 8 [5, 2, 0] (.wr 10 [] .done))))))))))) mixed (by kernel_rfl) rfl ?_
  iterate 3 refine Dr rfl rfl (rlA (vs := [_, _]) ag23 sz23 rfl rfl rfl) ?_
  refine D_wr2 rfl ?_ ?_
  ·refine (.go (E' := [(5, _), (2, _)]) rfl (.plain rfl) (w_callP rfl rfl rfl (fun w hg => rsquare_c (relA l s).x hrel.1 w)) rfl ?_)
   rintro _ _ ⟨rfl, rfl⟩
   refine ⟨(.cons rfl (.plain rfl) (rlA (vs := [_, _]) ag23 sz23 rfl rfl rfl) (.cons rfl (.plain rfl) (rlA (vs := [_, _]) ag23 sz23 rfl rfl rfl) .nil)), ?_⟩
   refine D_wr2 rfl ?_ ?_
   ·refine (.go (E' := [(5, _)]) rfl (.plain rfl) (w_callP rfl rfl rfl (fun w hg => rsquare_c (relA l s).y hrel.2.1 w)) rfl ?_)
    rintro _ _ ⟨rfl, rfl⟩
    refine ⟨(.cons rfl (.plain rfl) (rlA (vs := [_, _]) ag23 sz23 rfl rfl rfl) .nil), ?_⟩
    refine D_wr2 rfl ?_ ?_
    ·refine (.go (E' := [(5, _)]) rfl (.plain rfl) (w_callP rfl rfl rfl (fun w hg => radd_c (sqS (relA l s).x) (sqS (relA l s).y) (by omega) w)) rfl ?_)
     rintro _ _ ⟨rfl, rfl⟩
     refine ⟨(.cons rfl (.plain rfl) (rlA (vs := [_, _]) ag23 sz23 rfl rfl rfl) .nil), ?_⟩
     refine D_wr2 rfl ?_ ?_
     ·refine (.go (E' := []) rfl (.plain rfl) (w_callP rfl rfl rfl (fun w hg => rsquare_c s.v.z hsz w)) rfl ?_)
      rintro _ _ ⟨rfl, rfl⟩
      refine ⟨.nil, ?_⟩
      refine D_wr2 rfl ?_ ?_
      ·refine (.go (E' := []) rfl (.plain rfl) (w_callP rfl rfl rfl (fun w hg => radd_c (Fl.addS (sqS (relA l s).x) (sqS (relA l s).y)) (sqS s.v.z) (by simp only [Fl.addS]; omega) w)) rfl ?_)
       rintro _ _ ⟨rfl, rfl⟩
       refine ⟨.nil, ?_⟩
       refine D_wr2 rfl ?_ ?_
       ·refine (.go (E' := []) rfl (.plain rfl) (w_callP rfl rfl rfl (fun w hg => (show FnP _ _ _ w (.agg #[.int .i64 (speedS (relA l s)).lo, .int .i64 (speedS (relA l s)).hi]) from speed_alt hB s ▸ rroots_c (Fl.addS (Fl.addS (sqS (relA l s).x) (sqS (relA l s).y)) (sqS s.v.z)) (by simp only [Fl.addS]; omega) w))) rfl ?_)
        rintro _ _ ⟨rfl, rfl⟩
        refine ⟨.nil, ?_⟩
        refine D_wr (.go (E' := []) rfl (.plain rfl) (w_alloc zr23 rfl) rfl ?_)
        rintro _ _ ⟨b7, hb7, rfl, rfl⟩
        refine ⟨.nil, ?_⟩
        refine D_wr (.go (E' := []) rfl (.plain rfl) (ws (cs' := [_, _]) sz23 rfl rfl rfl rfl rfl rfl rfl) rfl ?_)
        rintro _ _ ⟨rfl, rfl⟩
        refine ⟨.nil, ?_⟩
        refine D_then (kp [5, 6, 8, 9, 10, 11, 13, 14, 15, 16] rfl) ?_
        refine ⟨b7, trivial, (.cons rfl (.cons rfl (.cons rfl (.cons rfl (.cons rfl (.cons rfl (.cons rfl (.cons rfl (.cons rfl (.cons rfl (.nil _))))))))))), (by (try dsimp only); repeat (first | exact HSub.nil _ | refine HSub.take (by repeat first | exact Take.head | apply Take.tail) ?_ | exact HSub.refl _ | refine HSub.drop ?_ | refine HSub.app ?_)), rfl⟩
       refine (.go (E' := []) rfl (.plain rfl) (w_alloc zr23 rfl) rfl ?_)
       rintro _ _ ⟨b7, hb7, rfl, rfl⟩
       refine ⟨.nil, ?_⟩
       refine D_wr (.go (E' := []) rfl (.plain rfl) (w_callP rfl rfl rfl (fun w hg => (show FnP _ _ _ w (.agg #[.int .i64 (speedS (relA l s)).lo, .int .i64 (speedS (relA l s)).hi]) from speed_alt hB s ▸ rroots_c (Fl.addS (Fl.addS (sqS (relA l s).x) (sqS (relA l s).y)) (sqS s.v.z)) (by simp only [Fl.addS]; omega) w))) rfl ?_)
       rintro _ _ ⟨rfl, rfl⟩
       refine ⟨.nil, ?_⟩
       refine D_wr (.go (E' := []) rfl (.plain rfl) (ws (cs' := [_, _]) sz23 rfl rfl rfl rfl rfl rfl rfl) rfl ?_)
       rintro _ _ ⟨rfl, rfl⟩
       refine ⟨.nil, ?_⟩
       refine D_then (kp [5, 6, 8, 9, 10, 11, 13, 14, 15, 16] rfl) ?_
       refine ⟨b7, trivial, (.cons rfl (.cons rfl (.cons rfl (.cons rfl (.cons rfl (.cons rfl (.cons rfl (.cons rfl (.cons rfl (.cons rfl (.nil _))))))))))), (by (try dsimp only); repeat (first | exact HSub.nil _ | refine HSub.take (by repeat first | exact Take.head | apply Take.tail) ?_ | exact HSub.refl _ | refine HSub.drop ?_ | refine HSub.app ?_)), rfl⟩
      refine (.go (E' := []) rfl (.plain rfl) (w_alloc zr23 rfl) rfl ?_)
      rintro _ _ ⟨b7, hb7, rfl, rfl⟩
      refine ⟨.nil, ?_⟩
      refine D_wr (.go (E' := []) rfl (.plain rfl) (w_callP rfl rfl rfl (fun w hg => radd_c (Fl.addS (sqS (relA l s).x) (sqS (relA l s).y)) (sqS s.v.z) (by simp only [Fl.addS]; omega) w)) rfl ?_)
      rintro _ _ ⟨rfl, rfl⟩
      refine ⟨.nil, ?_⟩
      refine D_wr (.go (E' := []) rfl (.plain rfl) (w_callP rfl rfl rfl (fun w hg => (show FnP _ _ _ w (.agg #[.int .i64 (speedS (relA l s)).lo, .int .i64 (speedS (relA l s)).hi]) from speed_alt hB s ▸ rroots_c (Fl.addS (Fl.addS (sqS (relA l s).x) (sqS (relA l s).y)) (sqS s.v.z)) (by simp only [Fl.addS]; omega) w))) rfl ?_)
      rintro _ _ ⟨rfl, rfl⟩
      refine ⟨.nil, ?_⟩
      refine D_wr (.go (E' := []) rfl (.plain rfl) (ws (cs' := [_, _]) sz23 rfl rfl rfl rfl rfl rfl rfl) rfl ?_)
      rintro _ _ ⟨rfl, rfl⟩
      refine ⟨.nil, ?_⟩
      refine D_then (kp [5, 6, 8, 9, 10, 11, 13, 14, 15, 16] rfl) ?_
      refine ⟨b7, trivial, (.cons rfl (.cons rfl (.cons rfl (.cons rfl (.cons rfl (.cons rfl (.cons rfl (.cons rfl (.cons rfl (.cons rfl (.nil _))))))))))), (by (try dsimp only); repeat (first | exact HSub.nil _ | refine HSub.take (by repeat first | exact Take.head | apply Take.tail) ?_ | exact HSub.refl _ | refine HSub.drop ?_ | refine HSub.app ?_)), rfl⟩
     refine (.go (E' := [(5, _)]) rfl (.plain rfl) (w_alloc zr23 rfl) rfl ?_)
     rintro _ _ ⟨b7, hb7, rfl, rfl⟩
     refine ⟨(.cons rfl (.plain rfl) (rlA (vs := [_, _]) ag23 sz23 rfl rfl rfl) .nil), ?_⟩
     refine D_wr (.go (E' := []) rfl (.plain rfl) (w_callP rfl rfl rfl (fun w hg => rsquare_c s.v.z hsz w)) rfl ?_)
     rintro _ _ ⟨rfl, rfl⟩
     refine ⟨.nil, ?_⟩
     refine D_wr (.go (E' := []) rfl (.plain rfl) (w_callP rfl rfl rfl (fun w hg => radd_c (Fl.addS (sqS (relA l s).x) (sqS (relA l s).y)) (sqS s.v.z) (by simp only [Fl.addS]; omega) w)) rfl ?_)
     rintro _ _ ⟨rfl, rfl⟩
     refine ⟨.nil, ?_⟩
     refine D_wr (.go (E' := []) rfl (.plain rfl) (w_callP rfl rfl rfl (fun w hg => (show FnP _ _ _ w (.agg #[.int .i64 (speedS (relA l s)).lo, .int .i64 (speedS (relA l s)).hi]) from speed_alt hB s ▸ rroots_c (Fl.addS (Fl.addS (sqS (relA l s).x) (sqS (relA l s).y)) (sqS s.v.z)) (by simp only [Fl.addS]; omega) w))) rfl ?_)
     rintro _ _ ⟨rfl, rfl⟩
     refine ⟨.nil, ?_⟩
     refine D_wr (.go (E' := []) rfl (.plain rfl) (ws (cs' := [_, _]) sz23 rfl rfl rfl rfl rfl rfl rfl) rfl ?_)
     rintro _ _ ⟨rfl, rfl⟩
     refine ⟨.nil, ?_⟩
     refine D_then (kp [5, 6, 8, 9, 10, 11, 13, 14, 15, 16] rfl) ?_
     refine ⟨b7, trivial, (.cons rfl (.cons rfl (.cons rfl (.cons rfl (.cons rfl (.cons rfl (.cons rfl (.cons rfl (.cons rfl (.cons rfl (.nil _))))))))))), (by (try dsimp only); repeat (first | exact HSub.nil _ | refine HSub.take (by repeat first | exact Take.head | apply Take.tail) ?_ | exact HSub.refl _ | refine HSub.drop ?_ | refine HSub.app ?_)), rfl⟩
    refine (.go (E' := [(5, _)]) rfl (.plain rfl) (w_alloc zr23 rfl) rfl ?_)
    rintro _ _ ⟨b7, hb7, rfl, rfl⟩
    refine ⟨(.cons rfl (.plain rfl) (rlA (vs := [_, _]) ag23 sz23 rfl rfl rfl) .nil), ?_⟩
    refine D_wr (.go (E' := [(5, _)]) rfl (.plain rfl) (w_callP rfl rfl rfl (fun w hg => radd_c (sqS (relA l s).x) (sqS (relA l s).y) (by omega) w)) rfl ?_)
    rintro _ _ ⟨rfl, rfl⟩
    refine ⟨(.cons rfl (.plain rfl) (rlA (vs := [_, _]) ag23 sz23 rfl rfl rfl) .nil), ?_⟩
    refine D_wr (.go (E' := []) rfl (.plain rfl) (w_callP rfl rfl rfl (fun w hg => rsquare_c s.v.z hsz w)) rfl ?_)
    rintro _ _ ⟨rfl, rfl⟩
    refine ⟨.nil, ?_⟩
    refine D_wr (.go (E' := []) rfl (.plain rfl) (w_callP rfl rfl rfl (fun w hg => radd_c (Fl.addS (sqS (relA l s).x) (sqS (relA l s).y)) (sqS s.v.z) (by simp only [Fl.addS]; omega) w)) rfl ?_)
    rintro _ _ ⟨rfl, rfl⟩
    refine ⟨.nil, ?_⟩
    refine D_wr (.go (E' := []) rfl (.plain rfl) (w_callP rfl rfl rfl (fun w hg => (show FnP _ _ _ w (.agg #[.int .i64 (speedS (relA l s)).lo, .int .i64 (speedS (relA l s)).hi]) from speed_alt hB s ▸ rroots_c (Fl.addS (Fl.addS (sqS (relA l s).x) (sqS (relA l s).y)) (sqS s.v.z)) (by simp only [Fl.addS]; omega) w))) rfl ?_)
    rintro _ _ ⟨rfl, rfl⟩
    refine ⟨.nil, ?_⟩
    refine D_wr (.go (E' := []) rfl (.plain rfl) (ws (cs' := [_, _]) sz23 rfl rfl rfl rfl rfl rfl rfl) rfl ?_)
    rintro _ _ ⟨rfl, rfl⟩
    refine ⟨.nil, ?_⟩
    refine D_then (kp [5, 6, 8, 9, 10, 11, 13, 14, 15, 16] rfl) ?_
    refine ⟨b7, trivial, (.cons rfl (.cons rfl (.cons rfl (.cons rfl (.cons rfl (.cons rfl (.cons rfl (.cons rfl (.cons rfl (.cons rfl (.nil _))))))))))), (by (try dsimp only); repeat (first | exact HSub.nil _ | refine HSub.take (by repeat first | exact Take.head | apply Take.tail) ?_ | exact HSub.refl _ | refine HSub.drop ?_ | refine HSub.app ?_)), rfl⟩
   refine (.go (E' := [(5, _), (2, _)]) rfl (.plain rfl) (w_alloc zr23 rfl) rfl ?_)
   rintro _ _ ⟨b7, hb7, rfl, rfl⟩
   refine ⟨(.cons rfl (.plain rfl) (rlA (vs := [_, _]) ag23 sz23 rfl rfl rfl) (.cons rfl (.plain rfl) (rlA (vs := [_, _]) ag23 sz23 rfl rfl rfl) .nil)), ?_⟩
   refine D_wr (.go (E' := [(5, _)]) rfl (.plain rfl) (w_callP rfl rfl rfl (fun w hg => rsquare_c (relA l s).y hrel.2.1 w)) rfl ?_)
   rintro _ _ ⟨rfl, rfl⟩
   refine ⟨(.cons rfl (.plain rfl) (rlA (vs := [_, _]) ag23 sz23 rfl rfl rfl) .nil), ?_⟩
   refine D_wr (.go (E' := [(5, _)]) rfl (.plain rfl) (w_callP rfl rfl rfl (fun w hg => radd_c (sqS (relA l s).x) (sqS (relA l s).y) (by omega) w)) rfl ?_)
   rintro _ _ ⟨rfl, rfl⟩
   refine ⟨(.cons rfl (.plain rfl) (rlA (vs := [_, _]) ag23 sz23 rfl rfl rfl) .nil), ?_⟩
   refine D_wr (.go (E' := []) rfl (.plain rfl) (w_callP rfl rfl rfl (fun w hg => rsquare_c s.v.z hsz w)) rfl ?_)
   rintro _ _ ⟨rfl, rfl⟩
   refine ⟨.nil, ?_⟩
   refine D_wr (.go (E' := []) rfl (.plain rfl) (w_callP rfl rfl rfl (fun w hg => radd_c (Fl.addS (sqS (relA l s).x) (sqS (relA l s).y)) (sqS s.v.z) (by simp only [Fl.addS]; omega) w)) rfl ?_)
   rintro _ _ ⟨rfl, rfl⟩
   refine ⟨.nil, ?_⟩
   refine D_wr (.go (E' := []) rfl (.plain rfl) (w_callP rfl rfl rfl (fun w hg => (show FnP _ _ _ w (.agg #[.int .i64 (speedS (relA l s)).lo, .int .i64 (speedS (relA l s)).hi]) from speed_alt hB s ▸ rroots_c (Fl.addS (Fl.addS (sqS (relA l s).x) (sqS (relA l s).y)) (sqS s.v.z)) (by simp only [Fl.addS]; omega) w))) rfl ?_)
   rintro _ _ ⟨rfl, rfl⟩
   refine ⟨.nil, ?_⟩
   refine D_wr (.go (E' := []) rfl (.plain rfl) (ws (cs' := [_, _]) sz23 rfl rfl rfl rfl rfl rfl rfl) rfl ?_)
   rintro _ _ ⟨rfl, rfl⟩
   refine ⟨.nil, ?_⟩
   refine D_then (kp [5, 6, 8, 9, 10, 11, 13, 14, 15, 16] rfl) ?_
   refine ⟨b7, trivial, (.cons rfl (.cons rfl (.cons rfl (.cons rfl (.cons rfl (.cons rfl (.cons rfl (.cons rfl (.cons rfl (.cons rfl (.nil _))))))))))), (by (try dsimp only); repeat (first | exact HSub.nil _ | refine HSub.take (by repeat first | exact Take.head | apply Take.tail) ?_ | exact HSub.refl _ | refine HSub.drop ?_ | refine HSub.app ?_)), rfl⟩
  refine (.go (E' := [(5, _), (2, _), (0, _)]) rfl (.plain rfl) (w_alloc zr23 rfl) rfl ?_)
  rintro _ _ ⟨b7, hb7, rfl, rfl⟩
  refine ⟨(.cons rfl (.plain rfl) (rlA (vs := [_, _]) ag23 sz23 rfl rfl rfl) (.cons rfl (.plain rfl) (rlA (vs := [_, _]) ag23 sz23 rfl rfl rfl) (.cons rfl (.plain rfl) (rlA (vs := [_, _]) ag23 sz23 rfl rfl rfl) .nil))), ?_⟩
  refine D_wr (.go (E' := [(5, _), (2, _)]) rfl (.plain rfl) (w_callP rfl rfl rfl (fun w hg => rsquare_c (relA l s).x hrel.1 w)) rfl ?_)
  rintro _ _ ⟨rfl, rfl⟩
  refine ⟨(.cons rfl (.plain rfl) (rlA (vs := [_, _]) ag23 sz23 rfl rfl rfl) (.cons rfl (.plain rfl) (rlA (vs := [_, _]) ag23 sz23 rfl rfl rfl) .nil)), ?_⟩
  refine D_wr (.go (E' := [(5, _)]) rfl (.plain rfl) (w_callP rfl rfl rfl (fun w hg => rsquare_c (relA l s).y hrel.2.1 w)) rfl ?_)
  rintro _ _ ⟨rfl, rfl⟩
  refine ⟨(.cons rfl (.plain rfl) (rlA (vs := [_, _]) ag23 sz23 rfl rfl rfl) .nil), ?_⟩
  refine D_wr (.go (E' := [(5, _)]) rfl (.plain rfl) (w_callP rfl rfl rfl (fun w hg => radd_c (sqS (relA l s).x) (sqS (relA l s).y) (by omega) w)) rfl ?_)
  rintro _ _ ⟨rfl, rfl⟩
  refine ⟨(.cons rfl (.plain rfl) (rlA (vs := [_, _]) ag23 sz23 rfl rfl rfl) .nil), ?_⟩
  refine D_wr (.go (E' := []) rfl (.plain rfl) (w_callP rfl rfl rfl (fun w hg => rsquare_c s.v.z hsz w)) rfl ?_)
  rintro _ _ ⟨rfl, rfl⟩
  refine ⟨.nil, ?_⟩
  refine D_wr (.go (E' := []) rfl (.plain rfl) (w_callP rfl rfl rfl (fun w hg => radd_c (Fl.addS (sqS (relA l s).x) (sqS (relA l s).y)) (sqS s.v.z) (by simp only [Fl.addS]; omega) w)) rfl ?_)
  rintro _ _ ⟨rfl, rfl⟩
  refine ⟨.nil, ?_⟩
  refine D_wr (.go (E' := []) rfl (.plain rfl) (w_callP rfl rfl rfl (fun w hg => (show FnP _ _ _ w (.agg #[.int .i64 (speedS (relA l s)).lo, .int .i64 (speedS (relA l s)).hi]) from speed_alt hB s ▸ rroots_c (Fl.addS (Fl.addS (sqS (relA l s).x) (sqS (relA l s).y)) (sqS s.v.z)) (by simp only [Fl.addS]; omega) w))) rfl ?_)
  rintro _ _ ⟨rfl, rfl⟩
  refine ⟨.nil, ?_⟩
  refine D_wr (.go (E' := []) rfl (.plain rfl) (ws (cs' := [_, _]) sz23 rfl rfl rfl rfl rfl rfl rfl) rfl ?_)
  rintro _ _ ⟨rfl, rfl⟩
  refine ⟨.nil, ?_⟩
  refine D_then (kp [5, 6, 8, 9, 10, 11, 13, 14, 15, 16] rfl) ?_
  refine ⟨b7, trivial, (.cons rfl (.cons rfl (.cons rfl (.cons rfl (.cons rfl (.cons rfl (.cons rfl (.cons rfl (.cons rfl (.cons rfl (.nil _))))))))))), (by (try dsimp only); repeat (first | exact HSub.nil _ | refine HSub.take (by repeat first | exact Take.head | apply Take.tail) ?_ | exact HSub.refl _ | refine HSub.drop ?_ | refine HSub.app ?_)), rfl⟩
 rintro x16 _
 refine V_mid (γ := Nat) (kp [5, 6, 8, 10, 11, 13, 14, 15] rfl) (fun x17 => [(17, .pointer (some ⟨x17, 0, none⟩))]) (fun x17 => (x17, Obj.cells #[.int .i64 (dragS v p.drag s (relA l s)).lo, .int .i64 (dragS v p.drag s (relA l s)).hi] 23) :: (x16, Obj.cells #[.int .i64 (speedS (relA l s)).lo, .int .i64 (speedS (relA l s)).hi] 23) :: (x13, Obj.cells #[.int .i64 (relA l s).x.lo, .int .i64 (relA l s).x.hi] 23) :: (x14, Obj.cells #[.int .i64 (relA l s).y.lo, .int .i64 (relA l s).y.hi] 23) :: (x15, Obj.cells #[.int .i64 s.v.z.lo, .int .i64 s.v.z.hi] 23) :: (b6, Obj.cells #[.int .i64 (windsT l s.p.z).x.lo, .int .i64 (windsT l s.p.z).x.hi, .int .i64 (windsT l s.p.z).y.lo, .int .i64 (windsT l s.p.z).y.hi] 88) :: (x11, Obj.cells #[.int .i64 (pushS p).lo, .int .i64 (pushS p).hi] 23) :: (b5, Obj.cells #[.int .i64 0, .int .i64 0, .int .i64 0, .int .i64 0, .int .i64 0, .int .i64 0] 77) :: (b4, Obj.cells #[.int .i64 s.p.x.lo, .int .i64 s.p.x.hi, .int .i64 s.p.y.lo, .int .i64 s.p.y.hi, .int .i64 s.p.z.lo, .int .i64 s.p.z.hi, .int .i64 s.v.x.lo, .int .i64 s.v.x.hi, .int .i64 s.v.y.lo, .int .i64 s.v.y.hi, .int .i64 s.v.z.lo, .int .i64 s.v.z.hi] 82) :: (b3, Obj.cells (Phase.cells p).toArray 66) :: (b2, Obj.cells #[.int .i64 d.x, .int .i64 d.y, .int .i64 d.z] 30) :: [(b1, Obj.cells #[.string v.name, .int .i64 v.gravity.lo, .int .i64 v.gravity.hi, av, pv, qv] 28)]) (fun x17 => True) ?_ ?_
 ·refine V_draw (.rd 0 (.rd 1 (.rd 2 (.rd 3 (.rd 4 (.rd 7 (.wr2 5 [7, 3, 1, 0] (.wr2 6 [7, 4, 3, 2, 0] (.wr2 8 [4, 3, 2, 1, 0] (.wr 9 [7, 4, 3, 2, 1, 0] (.wr 10 [] .done)) 9 [7, 4, 3, 2, 1, 0] (.wr 8 [4, 3, 2, 1, 0] (.wr 10 [] .done))) 9 [7, 4, 3, 2, 1, 0] (.wr 6 [7, 4, 3, 2, 0] (.wr 8 [4, 3, 2, 1, 0] (.wr 10 [] .done)))) 9 [7, 4, 3, 2, 1, 0] (.wr 5 [7, 3, 1, 0] (.wr 6 [7, 4, 3, 2, 0] (.wr 8 [4, 3, 2, 1, 0] (.wr 10 [] .done))))))))))) mixed (by kernel_rfl) rfl ?_
  refine Dp rfl rfl (p_fieldo fo66_3 rfl rfl) ?_
  refine Dr rfl rfl (rlA (vs := [_, _]) ag23 sz23 rfl rfl rfl) ?_
  refine Dr rfl rfl (rlA (vs := [_, _, _, _, _, _]) ag28 sz28 rfl rfl rfl) ?_
  refine Dp rfl rfl (p_fieldo fo82_2 rfl rfl) ?_
  iterate 2 refine Dr rfl rfl (rlA (vs := [_, _]) ag23 sz23 rfl rfl rfl) ?_
  refine D_wr2 rfl ?_ ?_
  ·refine (.go (E' := [(7, _), (1, _)]) rfl (.plain rfl) (w_callP rfl rfl rfl (fun w hg => rdense_c s.p.z v _ hV0 w (hV.good hg))) rfl ?_)
   rintro _ _ ⟨rfl, rfl⟩
   refine ⟨(.cons rfl (.plain rfl) (rlA (vs := [_, _]) ag23 sz23 rfl rfl rfl) (.cons rfl (.plain rfl) (rlA (vs := [_, _]) ag23 sz23 rfl rfl rfl) .nil)), ?_⟩
   refine D_wr2 rfl ?_ ?_
   ·refine (.go (E' := [(7, _)]) rfl (.plain rfl) (w_callP rfl rfl rfl (fun w hg => rmul_c p.drag (airT v s.p.z) hdg hai (by decide) w)) rfl ?_)
    rintro _ _ ⟨rfl, rfl⟩
    refine ⟨(.cons rfl (.plain rfl) (rlA (vs := [_, _]) ag23 sz23 rfl rfl rfl) .nil), ?_⟩
    refine D_wr2 rfl ?_ ?_
    ·refine (.go (E' := []) rfl (.plain rfl) (w_callP rfl rfl rfl (fun w hg => rmul_c (Fl.mulS p.drag (airT v s.p.z)) (speedS (relA l s)) (mulS_bnd hdg hai) hsp2 (by decide) w)) rfl ?_)
     rintro _ _ ⟨rfl, rfl⟩
     refine ⟨.nil, ?_⟩
     refine D_wr (.go (E' := []) rfl (.plain rfl) (w_alloc zr23 rfl) rfl ?_)
     rintro _ _ ⟨b7, hb7, rfl, rfl⟩
     refine ⟨.nil, ?_⟩
     refine D_wr (.go (E' := []) rfl (.plain rfl) (ws (cs' := [_, _]) sz23 rfl rfl rfl rfl rfl rfl rfl) rfl ?_)
     rintro _ _ ⟨rfl, rfl⟩
     refine ⟨.nil, ?_⟩
     refine D_then (kp [5, 6, 8, 10, 11, 13, 14, 15, 17] rfl) ?_
     refine ⟨b7, trivial, (.cons rfl (.cons rfl (.cons rfl (.cons rfl (.cons rfl (.cons rfl (.cons rfl (.cons rfl (.cons rfl (.nil _)))))))))), (by (try dsimp only); repeat (first | exact HSub.nil _ | refine HSub.take (by repeat first | exact Take.head | apply Take.tail) ?_ | exact HSub.refl _ | refine HSub.drop ?_ | refine HSub.app ?_)), rfl⟩
    refine (.go (E' := [(7, _)]) rfl (.plain rfl) (w_alloc zr23 rfl) rfl ?_)
    rintro _ _ ⟨b7, hb7, rfl, rfl⟩
    refine ⟨(.cons rfl (.plain rfl) (rlA (vs := [_, _]) ag23 sz23 rfl rfl rfl) .nil), ?_⟩
    refine D_wr (.go (E' := []) rfl (.plain rfl) (w_callP rfl rfl rfl (fun w hg => rmul_c (Fl.mulS p.drag (airT v s.p.z)) (speedS (relA l s)) (mulS_bnd hdg hai) hsp2 (by decide) w)) rfl ?_)
    rintro _ _ ⟨rfl, rfl⟩
    refine ⟨.nil, ?_⟩
    refine D_wr (.go (E' := []) rfl (.plain rfl) (ws (cs' := [_, _]) sz23 rfl rfl rfl rfl rfl rfl rfl) rfl ?_)
    rintro _ _ ⟨rfl, rfl⟩
    refine ⟨.nil, ?_⟩
    refine D_then (kp [5, 6, 8, 10, 11, 13, 14, 15, 17] rfl) ?_
    refine ⟨b7, trivial, (.cons rfl (.cons rfl (.cons rfl (.cons rfl (.cons rfl (.cons rfl (.cons rfl (.cons rfl (.cons rfl (.nil _)))))))))), (by (try dsimp only); repeat (first | exact HSub.nil _ | refine HSub.take (by repeat first | exact Take.head | apply Take.tail) ?_ | exact HSub.refl _ | refine HSub.drop ?_ | refine HSub.app ?_)), rfl⟩
   refine (.go (E' := [(7, _), (1, _)]) rfl (.plain rfl) (w_alloc zr23 rfl) rfl ?_)
   rintro _ _ ⟨b7, hb7, rfl, rfl⟩
   refine ⟨(.cons rfl (.plain rfl) (rlA (vs := [_, _]) ag23 sz23 rfl rfl rfl) (.cons rfl (.plain rfl) (rlA (vs := [_, _]) ag23 sz23 rfl rfl rfl) .nil)), ?_⟩
   refine D_wr (.go (E' := [(7, _)]) rfl (.plain rfl) (w_callP rfl rfl rfl (fun w hg => rmul_c p.drag (airT v s.p.z) hdg hai (by decide) w)) rfl ?_)
   rintro _ _ ⟨rfl, rfl⟩
   refine ⟨(.cons rfl (.plain rfl) (rlA (vs := [_, _]) ag23 sz23 rfl rfl rfl) .nil), ?_⟩
   refine D_wr (.go (E' := []) rfl (.plain rfl) (w_callP rfl rfl rfl (fun w hg => rmul_c (Fl.mulS p.drag (airT v s.p.z)) (speedS (relA l s)) (mulS_bnd hdg hai) hsp2 (by decide) w)) rfl ?_)
   rintro _ _ ⟨rfl, rfl⟩
   refine ⟨.nil, ?_⟩
   refine D_wr (.go (E' := []) rfl (.plain rfl) (ws (cs' := [_, _]) sz23 rfl rfl rfl rfl rfl rfl rfl) rfl ?_)
   rintro _ _ ⟨rfl, rfl⟩
   refine ⟨.nil, ?_⟩
   refine D_then (kp [5, 6, 8, 10, 11, 13, 14, 15, 17] rfl) ?_
   refine ⟨b7, trivial, (.cons rfl (.cons rfl (.cons rfl (.cons rfl (.cons rfl (.cons rfl (.cons rfl (.cons rfl (.cons rfl (.nil _)))))))))), (by (try dsimp only); repeat (first | exact HSub.nil _ | refine HSub.take (by repeat first | exact Take.head | apply Take.tail) ?_ | exact HSub.refl _ | refine HSub.drop ?_ | refine HSub.app ?_)), rfl⟩
  refine (.go (E' := [(7, _), (4, _), (2, _), (1, _)]) rfl (.plain rfl) (w_alloc zr23 rfl) rfl ?_)
  rintro _ _ ⟨b7, hb7, rfl, rfl⟩
  refine ⟨(.cons rfl (.plain rfl) (rlA (vs := [_, _]) ag23 sz23 rfl rfl rfl) (.cons rfl (.plain rfl) (rlA (vs := [_, _]) ag23 sz23 rfl rfl rfl) (.cons rfl (.plain rfl) (rlA (vs := [_, _, _, _, _, _]) ag28 sz28 rfl rfl rfl) (.cons rfl (.plain rfl) (rlA (vs := [_, _]) ag23 sz23 rfl rfl rfl) .nil)))), ?_⟩
  refine D_wr (.go (E' := [(7, _), (1, _)]) rfl (.plain rfl) (w_callP rfl rfl rfl (fun w hg => rdense_c s.p.z v _ hV0 w (hV.good hg))) rfl ?_)
  rintro _ _ ⟨rfl, rfl⟩
  refine ⟨(.cons rfl (.plain rfl) (rlA (vs := [_, _]) ag23 sz23 rfl rfl rfl) (.cons rfl (.plain rfl) (rlA (vs := [_, _]) ag23 sz23 rfl rfl rfl) .nil)), ?_⟩
  refine D_wr (.go (E' := [(7, _)]) rfl (.plain rfl) (w_callP rfl rfl rfl (fun w hg => rmul_c p.drag (airT v s.p.z) hdg hai (by decide) w)) rfl ?_)
  rintro _ _ ⟨rfl, rfl⟩
  refine ⟨(.cons rfl (.plain rfl) (rlA (vs := [_, _]) ag23 sz23 rfl rfl rfl) .nil), ?_⟩
  refine D_wr (.go (E' := []) rfl (.plain rfl) (w_callP rfl rfl rfl (fun w hg => rmul_c (Fl.mulS p.drag (airT v s.p.z)) (speedS (relA l s)) (mulS_bnd hdg hai) hsp2 (by decide) w)) rfl ?_)
  rintro _ _ ⟨rfl, rfl⟩
  refine ⟨.nil, ?_⟩
  refine D_wr (.go (E' := []) rfl (.plain rfl) (ws (cs' := [_, _]) sz23 rfl rfl rfl rfl rfl rfl rfl) rfl ?_)
  rintro _ _ ⟨rfl, rfl⟩
  refine ⟨.nil, ?_⟩
  refine D_then (kp [5, 6, 8, 10, 11, 13, 14, 15, 17] rfl) ?_
  refine ⟨b7, trivial, (.cons rfl (.cons rfl (.cons rfl (.cons rfl (.cons rfl (.cons rfl (.cons rfl (.cons rfl (.cons rfl (.nil _)))))))))), (by (try dsimp only); repeat (first | exact HSub.nil _ | refine HSub.take (by repeat first | exact Take.head | apply Take.tail) ?_ | exact HSub.refl _ | refine HSub.drop ?_ | refine HSub.app ?_)), rfl⟩
 rintro x17 _
 refine V_mid (γ := Nat) (kp [5, 10] rfl) (fun x18 => [(18, .pointer (some ⟨x18, 0, none⟩))]) (fun x18 => (x18, Obj.cells #[.int .i64 (axisS (pushS p) (dragS v p.drag s (relA l s)) p.mass d.x p.tilt.x (relA l s).x).lo, .int .i64 (axisS (pushS p) (dragS v p.drag s (relA l s)) p.mass d.x p.tilt.x (relA l s).x).hi, .int .i64 (axisS (pushS p) (dragS v p.drag s (relA l s)) p.mass d.y p.tilt.y (relA l s).y).lo, .int .i64 (axisS (pushS p) (dragS v p.drag s (relA l s)) p.mass d.y p.tilt.y (relA l s).y).hi, .int .i64 (axisS (pushS p) (dragS v p.drag s (relA l s)) p.mass d.z p.tilt.z s.v.z).lo, .int .i64 (axisS (pushS p) (dragS v p.drag s (relA l s)) p.mass d.z p.tilt.z s.v.z).hi] 77) :: (x17, Obj.cells #[.int .i64 (dragS v p.drag s (relA l s)).lo, .int .i64 (dragS v p.drag s (relA l s)).hi] 23) :: (x16, Obj.cells #[.int .i64 (speedS (relA l s)).lo, .int .i64 (speedS (relA l s)).hi] 23) :: (x13, Obj.cells #[.int .i64 (relA l s).x.lo, .int .i64 (relA l s).x.hi] 23) :: (x14, Obj.cells #[.int .i64 (relA l s).y.lo, .int .i64 (relA l s).y.hi] 23) :: (x15, Obj.cells #[.int .i64 s.v.z.lo, .int .i64 s.v.z.hi] 23) :: (b6, Obj.cells #[.int .i64 (windsT l s.p.z).x.lo, .int .i64 (windsT l s.p.z).x.hi, .int .i64 (windsT l s.p.z).y.lo, .int .i64 (windsT l s.p.z).y.hi] 88) :: (x11, Obj.cells #[.int .i64 (pushS p).lo, .int .i64 (pushS p).hi] 23) :: (b5, Obj.cells #[.int .i64 0, .int .i64 0, .int .i64 0, .int .i64 0, .int .i64 0, .int .i64 0] 77) :: (b4, Obj.cells #[.int .i64 s.p.x.lo, .int .i64 s.p.x.hi, .int .i64 s.p.y.lo, .int .i64 s.p.y.hi, .int .i64 s.p.z.lo, .int .i64 s.p.z.hi, .int .i64 s.v.x.lo, .int .i64 s.v.x.hi, .int .i64 s.v.y.lo, .int .i64 s.v.y.hi, .int .i64 s.v.z.lo, .int .i64 s.v.z.hi] 82) :: (b3, Obj.cells (Phase.cells p).toArray 66) :: (b2, Obj.cells #[.int .i64 d.x, .int .i64 d.y, .int .i64 d.z] 30) :: [(b1, Obj.cells #[.string v.name, .int .i64 v.gravity.lo, .int .i64 v.gravity.hi, av, pv, qv] 28)]) (fun x18 => True) ?_ ?_
 ·refine V_draw (.rd 0 (.rd 1 (.rd 2 (.rd 3 (.rd 4 (.rd 5 (.rd 6 (.rd 7 (.rd 8 (.rd 9 (.rd 11 (.rd 12 (.rd 13 (.rd 14 (.rd 15 (.rd 16 (.rd 17 (.rd 18 (.rd 19 (.rd 20 (.rd 22 (.rd 23 (.rd 24 (.rd 25 (.rd 26 (.rd 27 (.rd 28 (.rd 29 (.rd 30 (.rd 31 (.wr2 10 [31, 30, 29, 28, 27, 26, 25, 24, 23, 22, 20, 19, 18, 17, 16, 15, 14, 13, 12, 11, 7, 6, 4, 2] (.wr2 21 [31, 30, 29, 28, 27, 26, 25, 24, 23, 22, 18, 17, 15, 13, 9, 8, 7, 6, 5, 4, 3, 2, 1, 0] (.wr2 32 [29, 28, 26, 24, 20, 19, 18, 17, 16, 15, 14, 13, 12, 11, 9, 8, 7, 6, 5, 4, 3, 2, 1, 0] (.rd 33 (.wr 34 [33, 31, 30, 29, 28, 27, 26, 25, 24, 23, 22, 20, 19, 18, 17, 16, 15, 14, 13, 12, 11, 9, 8, 7, 6, 5, 4, 3, 2, 1, 0] (.wr 35 [] .done))) 34 [31, 30, 29, 28, 27, 26, 25, 24, 23, 22, 20, 19, 18, 17, 16, 15, 14, 13, 12, 11, 9, 8, 7, 6, 5, 4, 3, 2, 1, 0] (.wr 32 [29, 28, 26, 24, 20, 19, 18, 17, 16, 15, 14, 13, 12, 11, 9, 8, 7, 6, 5, 4, 3, 2, 1, 0] (.rd 33 (.wr 35 [] .done)))) 34 [31, 30, 29, 28, 27, 26, 25, 24, 23, 22, 20, 19, 18, 17, 16, 15, 14, 13, 12, 11, 9, 8, 7, 6, 5, 4, 3, 2, 1, 0] (.wr 21 [31, 30, 29, 28, 27, 26, 25, 24, 23, 22, 18, 17, 15, 13, 9, 8, 7, 6, 5, 4, 3, 2, 1, 0] (.wr 32 [29, 28, 26, 24, 20, 19, 18, 17, 16, 15, 14, 13, 12, 11, 9, 8, 7, 6, 5, 4, 3, 2, 1, 0] (.rd 33 (.wr 35 [] .done))))) 34 [31, 30, 29, 28, 27, 26, 25, 24, 23, 22, 20, 19, 18, 17, 16, 15, 14, 13, 12, 11, 9, 8, 7, 6, 5, 4, 3, 2, 1, 0] (.wr 10 [31, 30, 29, 28, 27, 26, 25, 24, 23, 22, 20, 19, 18, 17, 16, 15, 14, 13, 12, 11, 7, 6, 4, 2] (.wr 21 [31, 30, 29, 28, 27, 26, 25, 24, 23, 22, 18, 17, 15, 13, 9, 8, 7, 6, 5, 4, 3, 2, 1, 0] (.wr 32 [29, 28, 26, 24, 20, 19, 18, 17, 16, 15, 14, 13, 12, 11, 9, 8, 7, 6, 5, 4, 3, 2, 1, 0] (.rd 33 (.wr 35 [] .done)))))))))))))))))))))))))))))))))))) mixed (by kernel_rfl) rfl ?_
  iterate 2 refine Dr rfl rfl (rlA (vs := [_, _]) ag23 sz23 rfl rfl rfl) ?_
  refine Dp rfl rfl (p_fieldo fo66_2 rfl rfl) ?_
  refine Dr rfl rfl (rlA (vs := [_, _]) ag23 sz23 rfl rfl rfl) ?_
  refine Dp rfl rfl (p_fieldo fo30_0 rfl rfl) ?_
  refine Dr rfl rfl (rl ag3 rfl rfl rfl) ?_
  refine Dp rfl rfl (p_fieldo fo66_4 rfl rfl) ?_
  refine Dp rfl rfl (p_fieldo fo64_0 rfl rfl) ?_
  iterate 4 refine Dr rfl rfl (rlA (vs := [_, _]) ag23 sz23 rfl rfl rfl) ?_
  refine Dp rfl rfl (p_fieldo fo66_2 rfl rfl) ?_
  refine Dr rfl rfl (rlA (vs := [_, _]) ag23 sz23 rfl rfl rfl) ?_
  refine Dp rfl rfl (p_fieldo fo30_1 rfl rfl) ?_
  refine Dr rfl rfl (rl ag3 rfl rfl rfl) ?_
  refine Dp rfl rfl (p_fieldo fo66_4 rfl rfl) ?_
  refine Dp rfl rfl (p_fieldo fo64_1 rfl rfl) ?_
  iterate 4 refine Dr rfl rfl (rlA (vs := [_, _]) ag23 sz23 rfl rfl rfl) ?_
  refine Dp rfl rfl (p_fieldo fo66_2 rfl rfl) ?_
  refine Dr rfl rfl (rlA (vs := [_, _]) ag23 sz23 rfl rfl rfl) ?_
  refine Dp rfl rfl (p_fieldo fo30_2 rfl rfl) ?_
  refine Dr rfl rfl (rl ag3 rfl rfl rfl) ?_
  refine Dp rfl rfl (p_fieldo fo66_4 rfl rfl) ?_
  refine Dp rfl rfl (p_fieldo fo64_2 rfl rfl) ?_
  iterate 2 refine Dr rfl rfl (rlA (vs := [_, _]) ag23 sz23 rfl rfl rfl) ?_
  refine D_wr2 rfl ?_ ?_
  ·refine (.go (E' := [(31, _), (30, _), (27, _), (25, _), (23, _), (22, _), (20, _), (19, _), (16, _), (14, _), (12, _), (11, _)]) rfl (.plain rfl) (w_callP rfl rfl rfl (fun w hg => raxis_c (pushS p) (dragS v p.drag s (relA l s)) p.mass d.x p.tilt.x (relA l s).x hpu hdr2 hp.mass (by omega) hp.tx hrel.1 w)) rfl ?_)
   rintro _ _ ⟨rfl, rfl⟩
   refine ⟨(.cons rfl (.plain rfl) (rlA (vs := [_, _]) ag23 sz23 rfl rfl rfl) (.cons rfl (.plain rfl) (rlA (vs := [_, _]) ag23 sz23 rfl rfl rfl) (.cons rfl (.plain rfl) (rl ag3 rfl rfl rfl) (.cons rfl (.plain rfl) (rlA (vs := [_, _]) ag23 sz23 rfl rfl rfl) (.cons rfl (.plain rfl) (rlA (vs := [_, _]) ag23 sz23 rfl rfl rfl) (.cons rfl (.plain rfl) (rlA (vs := [_, _]) ag23 sz23 rfl rfl rfl) (.cons rfl (.plain rfl) (rlA (vs := [_, _]) ag23 sz23 rfl rfl rfl) (.cons rfl (.plain rfl) (rlA (vs := [_, _]) ag23 sz23 rfl rfl rfl) (.cons rfl (.plain rfl) (rl ag3 rfl rfl rfl) (.cons rfl (.plain rfl) (rlA (vs := [_, _]) ag23 sz23 rfl rfl rfl) (.cons rfl (.plain rfl) (rlA (vs := [_, _]) ag23 sz23 rfl rfl rfl) (.cons rfl (.plain rfl) (rlA (vs := [_, _]) ag23 sz23 rfl rfl rfl) .nil)))))))))))), ?_⟩
   refine D_wr2 rfl ?_ ?_
   ·refine (.go (E' := [(31, _), (30, _), (27, _), (25, _), (23, _), (22, _)]) rfl (.plain rfl) (w_callP rfl rfl rfl (fun w hg => raxis_c (pushS p) (dragS v p.drag s (relA l s)) p.mass d.y p.tilt.y (relA l s).y hpu hdr2 hp.mass (by omega) hp.ty hrel.2.1 w)) rfl ?_)
    rintro _ _ ⟨rfl, rfl⟩
    refine ⟨(.cons rfl (.plain rfl) (rlA (vs := [_, _]) ag23 sz23 rfl rfl rfl) (.cons rfl (.plain rfl) (rlA (vs := [_, _]) ag23 sz23 rfl rfl rfl) (.cons rfl (.plain rfl) (rl ag3 rfl rfl rfl) (.cons rfl (.plain rfl) (rlA (vs := [_, _]) ag23 sz23 rfl rfl rfl) (.cons rfl (.plain rfl) (rlA (vs := [_, _]) ag23 sz23 rfl rfl rfl) (.cons rfl (.plain rfl) (rlA (vs := [_, _]) ag23 sz23 rfl rfl rfl) .nil)))))), ?_⟩
    refine D_wr2 rfl ?_ ?_
    ·refine (.go (E' := []) rfl (.plain rfl) (w_callP rfl rfl rfl (fun w hg => raxis_c (pushS p) (dragS v p.drag s (relA l s)) p.mass d.z p.tilt.z s.v.z hpu hdr2 hp.mass (by omega) hp.tz hsz w)) rfl ?_)
     rintro _ _ ⟨rfl, rfl⟩
     refine ⟨.nil, ?_⟩
     refine Dp rfl rfl (p_build (r := [_, _, _, _, _, _]) pl77 zr77 rfl rfl rfl) ?_
     refine D_wr (.go (E' := []) rfl (.plain rfl) (w_alloc zr77 rfl) rfl ?_)
     rintro _ _ ⟨b7, hb7, rfl, rfl⟩
     refine ⟨.nil, ?_⟩
     refine D_wr (.go (E' := []) rfl (.plain rfl) (ws (cs' := [_, _, _, _, _, _]) sz77 rfl rfl rfl rfl rfl rfl rfl) rfl ?_)
     rintro _ _ ⟨rfl, rfl⟩
     refine ⟨.nil, ?_⟩
     refine D_then (kp [5, 10, 18] rfl) ?_
     refine ⟨b7, trivial, (.cons rfl (.cons rfl (.cons rfl (.nil _)))), (by (try dsimp only); repeat (first | exact HSub.nil _ | refine HSub.take (by repeat first | exact Take.head | apply Take.tail) ?_ | exact HSub.refl _ | refine HSub.drop ?_ | refine HSub.app ?_)), rfl⟩
    refine (.go (E' := [(31, _), (30, _), (27, _), (25, _), (23, _), (22, _)]) rfl (.plain rfl) (w_alloc zr77 rfl) rfl ?_)
    rintro _ _ ⟨b7, hb7, rfl, rfl⟩
    refine ⟨(.cons rfl (.plain rfl) (rlA (vs := [_, _]) ag23 sz23 rfl rfl rfl) (.cons rfl (.plain rfl) (rlA (vs := [_, _]) ag23 sz23 rfl rfl rfl) (.cons rfl (.plain rfl) (rl ag3 rfl rfl rfl) (.cons rfl (.plain rfl) (rlA (vs := [_, _]) ag23 sz23 rfl rfl rfl) (.cons rfl (.plain rfl) (rlA (vs := [_, _]) ag23 sz23 rfl rfl rfl) (.cons rfl (.plain rfl) (rlA (vs := [_, _]) ag23 sz23 rfl rfl rfl) .nil)))))), ?_⟩
    refine D_wr (.go (E' := []) rfl (.plain rfl) (w_callP rfl rfl rfl (fun w hg => raxis_c (pushS p) (dragS v p.drag s (relA l s)) p.mass d.z p.tilt.z s.v.z hpu hdr2 hp.mass (by omega) hp.tz hsz w)) rfl ?_)
    rintro _ _ ⟨rfl, rfl⟩
    refine ⟨.nil, ?_⟩
    refine Dp rfl rfl (p_build (r := [_, _, _, _, _, _]) pl77 zr77 rfl rfl rfl) ?_
    refine D_wr (.go (E' := []) rfl (.plain rfl) (ws (cs' := [_, _, _, _, _, _]) sz77 rfl rfl rfl rfl rfl rfl rfl) rfl ?_)
    rintro _ _ ⟨rfl, rfl⟩
    refine ⟨.nil, ?_⟩
    refine D_then (kp [5, 10, 18] rfl) ?_
    refine ⟨b7, trivial, (.cons rfl (.cons rfl (.cons rfl (.nil _)))), (by (try dsimp only); repeat (first | exact HSub.nil _ | refine HSub.take (by repeat first | exact Take.head | apply Take.tail) ?_ | exact HSub.refl _ | refine HSub.drop ?_ | refine HSub.app ?_)), rfl⟩
   refine (.go (E' := [(31, _), (30, _), (27, _), (25, _), (23, _), (22, _), (20, _), (19, _), (16, _), (14, _), (12, _), (11, _)]) rfl (.plain rfl) (w_alloc zr77 rfl) rfl ?_)
   rintro _ _ ⟨b7, hb7, rfl, rfl⟩
   refine ⟨(.cons rfl (.plain rfl) (rlA (vs := [_, _]) ag23 sz23 rfl rfl rfl) (.cons rfl (.plain rfl) (rlA (vs := [_, _]) ag23 sz23 rfl rfl rfl) (.cons rfl (.plain rfl) (rl ag3 rfl rfl rfl) (.cons rfl (.plain rfl) (rlA (vs := [_, _]) ag23 sz23 rfl rfl rfl) (.cons rfl (.plain rfl) (rlA (vs := [_, _]) ag23 sz23 rfl rfl rfl) (.cons rfl (.plain rfl) (rlA (vs := [_, _]) ag23 sz23 rfl rfl rfl) (.cons rfl (.plain rfl) (rlA (vs := [_, _]) ag23 sz23 rfl rfl rfl) (.cons rfl (.plain rfl) (rlA (vs := [_, _]) ag23 sz23 rfl rfl rfl) (.cons rfl (.plain rfl) (rl ag3 rfl rfl rfl) (.cons rfl (.plain rfl) (rlA (vs := [_, _]) ag23 sz23 rfl rfl rfl) (.cons rfl (.plain rfl) (rlA (vs := [_, _]) ag23 sz23 rfl rfl rfl) (.cons rfl (.plain rfl) (rlA (vs := [_, _]) ag23 sz23 rfl rfl rfl) .nil)))))))))))), ?_⟩
   refine D_wr (.go (E' := [(31, _), (30, _), (27, _), (25, _), (23, _), (22, _)]) rfl (.plain rfl) (w_callP rfl rfl rfl (fun w hg => raxis_c (pushS p) (dragS v p.drag s (relA l s)) p.mass d.y p.tilt.y (relA l s).y hpu hdr2 hp.mass (by omega) hp.ty hrel.2.1 w)) rfl ?_)
   rintro _ _ ⟨rfl, rfl⟩
   refine ⟨(.cons rfl (.plain rfl) (rlA (vs := [_, _]) ag23 sz23 rfl rfl rfl) (.cons rfl (.plain rfl) (rlA (vs := [_, _]) ag23 sz23 rfl rfl rfl) (.cons rfl (.plain rfl) (rl ag3 rfl rfl rfl) (.cons rfl (.plain rfl) (rlA (vs := [_, _]) ag23 sz23 rfl rfl rfl) (.cons rfl (.plain rfl) (rlA (vs := [_, _]) ag23 sz23 rfl rfl rfl) (.cons rfl (.plain rfl) (rlA (vs := [_, _]) ag23 sz23 rfl rfl rfl) .nil)))))), ?_⟩
   refine D_wr (.go (E' := []) rfl (.plain rfl) (w_callP rfl rfl rfl (fun w hg => raxis_c (pushS p) (dragS v p.drag s (relA l s)) p.mass d.z p.tilt.z s.v.z hpu hdr2 hp.mass (by omega) hp.tz hsz w)) rfl ?_)
   rintro _ _ ⟨rfl, rfl⟩
   refine ⟨.nil, ?_⟩
   refine Dp rfl rfl (p_build (r := [_, _, _, _, _, _]) pl77 zr77 rfl rfl rfl) ?_
   refine D_wr (.go (E' := []) rfl (.plain rfl) (ws (cs' := [_, _, _, _, _, _]) sz77 rfl rfl rfl rfl rfl rfl rfl) rfl ?_)
   rintro _ _ ⟨rfl, rfl⟩
   refine ⟨.nil, ?_⟩
   refine D_then (kp [5, 10, 18] rfl) ?_
   refine ⟨b7, trivial, (.cons rfl (.cons rfl (.cons rfl (.nil _)))), (by (try dsimp only); repeat (first | exact HSub.nil _ | refine HSub.take (by repeat first | exact Take.head | apply Take.tail) ?_ | exact HSub.refl _ | refine HSub.drop ?_ | refine HSub.app ?_)), rfl⟩
  refine (.go (E' := [(31, _), (30, _), (27, _), (25, _), (23, _), (22, _), (20, _), (19, _), (16, _), (14, _), (12, _), (11, _), (9, _), (8, _), (5, _), (3, _), (1, _), (0, _)]) rfl (.plain rfl) (w_alloc zr77 rfl) rfl ?_)
  rintro _ _ ⟨b7, hb7, rfl, rfl⟩
  refine ⟨(.cons rfl (.plain rfl) (rlA (vs := [_, _]) ag23 sz23 rfl rfl rfl) (.cons rfl (.plain rfl) (rlA (vs := [_, _]) ag23 sz23 rfl rfl rfl) (.cons rfl (.plain rfl) (rl ag3 rfl rfl rfl) (.cons rfl (.plain rfl) (rlA (vs := [_, _]) ag23 sz23 rfl rfl rfl) (.cons rfl (.plain rfl) (rlA (vs := [_, _]) ag23 sz23 rfl rfl rfl) (.cons rfl (.plain rfl) (rlA (vs := [_, _]) ag23 sz23 rfl rfl rfl) (.cons rfl (.plain rfl) (rlA (vs := [_, _]) ag23 sz23 rfl rfl rfl) (.cons rfl (.plain rfl) (rlA (vs := [_, _]) ag23 sz23 rfl rfl rfl) (.cons rfl (.plain rfl) (rl ag3 rfl rfl rfl) (.cons rfl (.plain rfl) (rlA (vs := [_, _]) ag23 sz23 rfl rfl rfl) (.cons rfl (.plain rfl) (rlA (vs := [_, _]) ag23 sz23 rfl rfl rfl) (.cons rfl (.plain rfl) (rlA (vs := [_, _]) ag23 sz23 rfl rfl rfl) (.cons rfl (.plain rfl) (rlA (vs := [_, _]) ag23 sz23 rfl rfl rfl) (.cons rfl (.plain rfl) (rlA (vs := [_, _]) ag23 sz23 rfl rfl rfl) (.cons rfl (.plain rfl) (rl ag3 rfl rfl rfl) (.cons rfl (.plain rfl) (rlA (vs := [_, _]) ag23 sz23 rfl rfl rfl) (.cons rfl (.plain rfl) (rlA (vs := [_, _]) ag23 sz23 rfl rfl rfl) (.cons rfl (.plain rfl) (rlA (vs := [_, _]) ag23 sz23 rfl rfl rfl) .nil)))))))))))))))))), ?_⟩
  refine D_wr (.go (E' := [(31, _), (30, _), (27, _), (25, _), (23, _), (22, _), (20, _), (19, _), (16, _), (14, _), (12, _), (11, _)]) rfl (.plain rfl) (w_callP rfl rfl rfl (fun w hg => raxis_c (pushS p) (dragS v p.drag s (relA l s)) p.mass d.x p.tilt.x (relA l s).x hpu hdr2 hp.mass (by omega) hp.tx hrel.1 w)) rfl ?_)
  rintro _ _ ⟨rfl, rfl⟩
  refine ⟨(.cons rfl (.plain rfl) (rlA (vs := [_, _]) ag23 sz23 rfl rfl rfl) (.cons rfl (.plain rfl) (rlA (vs := [_, _]) ag23 sz23 rfl rfl rfl) (.cons rfl (.plain rfl) (rl ag3 rfl rfl rfl) (.cons rfl (.plain rfl) (rlA (vs := [_, _]) ag23 sz23 rfl rfl rfl) (.cons rfl (.plain rfl) (rlA (vs := [_, _]) ag23 sz23 rfl rfl rfl) (.cons rfl (.plain rfl) (rlA (vs := [_, _]) ag23 sz23 rfl rfl rfl) (.cons rfl (.plain rfl) (rlA (vs := [_, _]) ag23 sz23 rfl rfl rfl) (.cons rfl (.plain rfl) (rlA (vs := [_, _]) ag23 sz23 rfl rfl rfl) (.cons rfl (.plain rfl) (rl ag3 rfl rfl rfl) (.cons rfl (.plain rfl) (rlA (vs := [_, _]) ag23 sz23 rfl rfl rfl) (.cons rfl (.plain rfl) (rlA (vs := [_, _]) ag23 sz23 rfl rfl rfl) (.cons rfl (.plain rfl) (rlA (vs := [_, _]) ag23 sz23 rfl rfl rfl) .nil)))))))))))), ?_⟩
  refine D_wr (.go (E' := [(31, _), (30, _), (27, _), (25, _), (23, _), (22, _)]) rfl (.plain rfl) (w_callP rfl rfl rfl (fun w hg => raxis_c (pushS p) (dragS v p.drag s (relA l s)) p.mass d.y p.tilt.y (relA l s).y hpu hdr2 hp.mass (by omega) hp.ty hrel.2.1 w)) rfl ?_)
  rintro _ _ ⟨rfl, rfl⟩
  refine ⟨(.cons rfl (.plain rfl) (rlA (vs := [_, _]) ag23 sz23 rfl rfl rfl) (.cons rfl (.plain rfl) (rlA (vs := [_, _]) ag23 sz23 rfl rfl rfl) (.cons rfl (.plain rfl) (rl ag3 rfl rfl rfl) (.cons rfl (.plain rfl) (rlA (vs := [_, _]) ag23 sz23 rfl rfl rfl) (.cons rfl (.plain rfl) (rlA (vs := [_, _]) ag23 sz23 rfl rfl rfl) (.cons rfl (.plain rfl) (rlA (vs := [_, _]) ag23 sz23 rfl rfl rfl) .nil)))))), ?_⟩
  refine D_wr (.go (E' := []) rfl (.plain rfl) (w_callP rfl rfl rfl (fun w hg => raxis_c (pushS p) (dragS v p.drag s (relA l s)) p.mass d.z p.tilt.z s.v.z hpu hdr2 hp.mass (by omega) hp.tz hsz w)) rfl ?_)
  rintro _ _ ⟨rfl, rfl⟩
  refine ⟨.nil, ?_⟩
  refine Dp rfl rfl (p_build (r := [_, _, _, _, _, _]) pl77 zr77 rfl rfl rfl) ?_
  refine D_wr (.go (E' := []) rfl (.plain rfl) (ws (cs' := [_, _, _, _, _, _]) sz77 rfl rfl rfl rfl rfl rfl rfl) rfl ?_)
  rintro _ _ ⟨rfl, rfl⟩
  refine ⟨.nil, ?_⟩
  refine D_then (kp [5, 10, 18] rfl) ?_
  refine ⟨b7, trivial, (.cons rfl (.cons rfl (.cons rfl (.nil _)))), (by (try dsimp only); repeat (first | exact HSub.nil _ | refine HSub.take (by repeat first | exact Take.head | apply Take.tail) ?_ | exact HSub.refl _ | refine HSub.drop ?_ | refine HSub.app ?_)), rfl⟩
 rintro x18 _
 refine Vs rfl ?_
 refine Lp rfl (p_fieldo fo77_2 rfl rfl) ?_
 refine Lr rfl (rlA (vs := [_, _]) ag23 sz23 rfl rfl rfl) ?_
 refine Lp rfl (p_fieldo fo28_1 rfl rfl) ?_
 refine Lr rfl (rlA (vs := [_, _]) ag23 sz23 rfl rfl rfl) ?_
 refine Lc rfl rfl rfl rfl (fun w hg => rsub_c (axisS (pushS p) (dragS v p.drag s (relA l s)) p.mass d.z p.tilt.z s.v.z) v.gravity (by omega) w) ?_
 refine Lp rfl (p_fieldo fo77_2 rfl rfl) ?_
 refine Ls (cs' := [_, _, _, _, _, _]) rfl sz23 rfl rfl rfl rfl rfl rfl rfl ?_
 refine L_then (kp [10, 18] rfl) ?_
 refine Vs rfl ?_
 refine Lr rfl (rlA (vs := [_, _, _, _, _, _]) ag77 sz77 rfl rfl rfl) ?_
 refine Ls (cs' := [_, _, _, _, _, _]) rfl sz77 rfl rfl rfl rfl rfl rfl rfl ?_
 refine L_then (kp [10] rfl) ?_
 refine V_ret ?_
 refine Leave.nil (.cellA (us := [_, _, _, _, _, _]) rfl ag77 sz77 (by repeat first | exact mH | apply mT) rfl .nil) ?_
 rw [force_alt hB]; rfl
theorem rasked_c (v : Veh) (d : Dir) (l : List Fl.Band) (bv : Value) (x : Value) (w : World) (hv : VehR w x v) (hl : BdsR w bv l) : FnP Tryz.prog 15 [x, .agg #[.int .i64 d.x, .int .i64 d.y, .int .i64 d.z], bv] w (.int .i64 (askedF v d l)) := by
 have hV := hv
 obtain ⟨av, pv, qv, rfl, hsa, hsp, hsq⟩ := hv.ex
 refine fn_pure Tryz.func15 rfl (by kernel_rfl) Tryz.ntmps15 Tryz.results15 rfl ?_
 refine Vs rfl ?_
 refine Lw rfl (w_box rfl rfl) ?_
 rintro _ _ ⟨b1, hb1, rfl, rfl⟩
 refine Lw rfl (w_box rfl rfl) ?_
 rintro _ _ ⟨b2, hb2, rfl, rfl⟩
 refine La rfl rfl rfl ?_
 refine L_then (kp [2, 3, 4] rfl) ?_
 refine Vs rfl ?_
 refine Lr rfl (rlA (vs := [_, _, _, _, _, _]) ag28 sz28 rfl rfl rfl) ?_
 refine Lc rfl rfl rfl rfl (fun w hg => rCheck_c v _ w (hV.good hg)) ?_
 refine Lm rfl rfl rfl ?_
 iterate 3 refine Lp rfl (p_ext rfl rfl rfl) ?_
 iterate 3 refine La rfl rfl rfl ?_
 refine L_then (kp [2, 4, 9] rfl) ?_
 refine V_seq ?_
 refine Vs rfl ?_
 refine Lm rfl rfl rfl ?_
 refine Lp rfl (p_eql rfl rfl rfl) ?_
 refine L_then (kp [2, 4, 9, 17] rfl) ?_
 refine V_cond rfl ?_ ?_
 ·intro c1; try simp only [td] at c1
  refine V_region rfl ?_
  refine Lr rfl (rlA (vs := [_, _, _]) ag30 sz30 rfl rfl rfl) ?_
  refine Lc rfl rfl rfl rfl (fun w hg => rCheckDir_c d w) ?_
  refine La rfl rfl rfl ?_
  refine L_then (kp [2, 9] rfl) ?_
  refine V_seq ?_
  refine Vs rfl ?_
  refine Lm rfl rfl rfl ?_
  refine Lp rfl (p_eql rfl rfl rfl) ?_
  refine L_then (kp [2, 9, 21] rfl) ?_
  refine V_cond rfl ?_ ?_
  ·intro c2; try simp only [td] at c2
   refine V_region rfl ?_
   refine Lm rfl rfl rfl ?_
   refine Lc rfl rfl rfl rfl (fun w hg => r1bands_c l _ w (hl.good hg)) ?_
   refine Lm rfl rfl rfl ?_
   iterate 2 refine Lp rfl (p_ext rfl rfl rfl) ?_
   refine La rfl rfl rfl ?_
   refine L_then (kp [9] rfl) ?_
   refine Vs rfl ?_
   refine Lm rfl rfl rfl ?_
   refine La rfl rfl rfl ?_
   refine L_then (kp [6] rfl) ?_
   refine V_ret ?_
   refine Leave.nil (.tmp rfl .nil) ?_
   first | (exfalso; omega) | (rw [asked_1 (by omega)]; rfl) | (rw [asked_2 (by omega) (by omega)]; rfl) | (rw [asked_3 (by omega) (by omega)]; rfl)
  intro c2; try simp only [td] at c2
  refine V_skip (then_n ?_)
  refine Vs rfl ?_
  refine Lm rfl rfl rfl ?_
  refine La rfl rfl rfl ?_
  refine L_then (kp [6] rfl) ?_
  refine V_ret ?_
  refine Leave.nil (.tmp rfl .nil) ?_
  first | (exfalso; omega) | (rw [asked_1 (by omega)]; rfl) | (rw [asked_2 (by omega) (by omega)]; rfl) | (rw [asked_3 (by omega) (by omega)]; rfl)
 intro c1; try simp only [td] at c1
 refine V_skip (then_n ?_)
 refine V_seq ?_
 refine Vs rfl ?_
 refine Lm rfl rfl rfl ?_
 refine Lp rfl (p_eql rfl rfl rfl) ?_
 refine L_then (kp [2, 9, 21] rfl) ?_
 refine V_cond rfl ?_ ?_
 ·intro c3; try simp only [td] at c3
  refine V_region rfl ?_
  refine Lm rfl rfl rfl ?_
  refine Lc rfl rfl rfl rfl (fun w hg => r1bands_c l _ w (hl.good hg)) ?_
  refine Lm rfl rfl rfl ?_
  iterate 2 refine Lp rfl (p_ext rfl rfl rfl) ?_
  refine La rfl rfl rfl ?_
  refine L_then (kp [9] rfl) ?_
  refine Vs rfl ?_
  refine Lm rfl rfl rfl ?_
  refine La rfl rfl rfl ?_
  refine L_then (kp [6] rfl) ?_
  refine V_ret ?_
  refine Leave.nil (.tmp rfl .nil) ?_
  first | (exfalso; omega) | (rw [asked_1 (by omega)]; rfl) | (rw [asked_2 (by omega) (by omega)]; rfl) | (rw [asked_3 (by omega) (by omega)]; rfl)
 intro c3; try simp only [td] at c3
 refine V_skip (then_n ?_)
 refine Vs rfl ?_
 refine Lm rfl rfl rfl ?_
 refine La rfl rfl rfl ?_
 refine L_then (kp [6] rfl) ?_
 refine V_ret ?_
 refine Leave.nil (.tmp rfl .nil) ?_
 first | (exfalso; omega) | (rw [asked_1 (by omega)]; rfl) | (rw [asked_2 (by omega) (by omega)]; rfl) | (rw [asked_3 (by omega) (by omega)]; rfl)
end Go.Proofs.YtbncegfgjbdheabGreat
