/- Joined texts. -/
import Derived.Test.YtbncegfgjbdheaaZag
import Derived.Test.YtbncegfgjbdheaaZai
import Derived.Test.YtbncegfgjbdheaaZad
/- Ytbncegfgjbdheaa: spans of package flight. -/
set_option linter.all false
namespace Go.Proofs.Ytbncegfgjbdheaa
open Go.Vc Go.Tk Go.Fl
set_option maxRecDepth 100000
theorem fout_c (n lo hi : Int) (w : World) : FnP Try.prog 38 [.int .i64 n, .int .i64 lo, .int .i64 hi] w (.bool (oP n lo hi)) := by
 refine fn_pure Try.func38 rfl (by kernel_rfl) Try.ntmps38 Try.results38 rfl ?_
 refine Vs rfl ?_
 refine La rfl rfl rfl ?_
 refine L_then (kp [0, 1, 2] rfl) ?_
 refine Vs rfl ?_
 iterate 2 refine Lm rfl rfl rfl ?_
 refine Lp rfl (p_lss rfl rfl rfl) ?_
 refine Lm rfl rfl rfl ?_
 refine L_cases (d := 10) rfl ?_ ?_
 ·intro g1; have g1' := g1; try simp only [td] at g1'
  iterate 3 refine L_no rfl rfl rfl g1 ?_
  refine Lp rfl (p_pick_t rfl rfl g1 rfl) ?_
  refine La rfl rfl rfl ?_
  refine L_then (kp [6] rfl) ?_
  refine V_ret ?_
  refine Leave.nil (.tmp rfl .nil) ?_
  simp [tup, oP, *]
 intro g1; have g1' := g1; try simp only [td] at g1'
 refine L_yes rfl rfl rfl g1 (X_p (p_move rfl rfl) ?_)
 refine L_yes rfl rfl rfl g1 (X_p (p_move rfl rfl) ?_)
 refine L_yes rfl rfl rfl g1 (X_p (p_gtr rfl rfl rfl) ?_)
 refine Lp rfl (p_pick_f rfl rfl g1 rfl) ?_
 refine La rfl rfl rfl ?_
 refine L_then (kp [6] rfl) ?_
 refine V_ret ?_
 refine Leave.nil (.tmp rfl .nil) ?_
 simp [tup, oP, *]
theorem fat_c (n : Int) (w : World) : FnP Try.prog 83 [.int .i64 n] w (.agg #[.int .i64 n, .int .i64 n]) := by
 refine fn_pure Try.func83 rfl (by kernel_rfl) Try.ntmps83 Try.results83 rfl ?_
 refine Vs rfl ?_
 refine Lw rfl (w_alloc zr97 rfl) ?_
 rintro _ _ ⟨b1, hb1, rfl, rfl⟩
 refine L_then (kp [0, 2] rfl) ?_
 refine Vs rfl ?_
 iterate 2 refine Lm rfl rfl rfl ?_
 refine Lp rfl (p_build (r := [_, _]) pl97 zr97 rfl rfl rfl) ?_
 refine Ls (cs' := [_, _]) rfl sz97 rfl rfl rfl rfl rfl rfl rfl ?_
 refine L_then (kp [2] rfl) ?_
 refine V_ret ?_
 refine Leave.nil (.cellA (us := [_, _]) rfl ag97 sz97 (by repeat first | exact mH | apply mT) rfl .nil) ?_
 rfl
theorem fbeyond_c (s : Span) (lo hi : Int) (w : World) : FnP Try.prog 37 [.agg #[.int .i64 s.lo, .int .i64 s.hi], .int .i64 lo, .int .i64 hi] w (.bool (beyond s lo hi)) := by
 refine fn_pure Try.func37 rfl (by kernel_rfl) Try.ntmps37 Try.results37 rfl ?_
 refine Vs rfl ?_
 refine Lw rfl (w_box rfl rfl) ?_
 rintro _ _ ⟨b1, hb1, rfl, rfl⟩
 refine La rfl rfl rfl ?_
 refine L_then (kp [1, 2, 3] rfl) ?_
 refine Vs rfl ?_
 refine Lp rfl (p_fieldo fo97_0 rfl rfl) ?_
 refine Lr rfl (rl ag3 rfl rfl rfl) ?_
 refine Lm rfl rfl rfl ?_
 refine Lp rfl (p_lss rfl rfl rfl) ?_
 refine Lm rfl rfl rfl ?_
 refine L_cases (d := 11) rfl ?_ ?_
 ·intro g1; have g1' := g1; try simp only [td] at g1'
  iterate 4 refine L_no rfl rfl rfl g1 ?_
  refine Lp rfl (p_pick_t rfl rfl g1 rfl) ?_
  refine Lm rfl rfl rfl ?_
  iterate 5 refine L_no rfl rfl rfl rfl ?_
  refine Lp rfl (p_pick_t rfl rfl rfl rfl) ?_
  refine La rfl rfl rfl ?_
  refine L_then (kp [6] rfl) ?_
  refine V_ret ?_
  refine Leave.nil (.tmp rfl .nil) ?_
  simp [tup, beyond, *]
 intro g1; have g1' := g1; try simp only [td] at g1'
 refine L_yes rfl rfl rfl g1 (X_p (p_fieldo fo97_1 rfl rfl) ?_)
 refine L_yes rfl rfl rfl g1 (X_rd (rl ag3 rfl rfl rfl) ?_)
 refine L_yes rfl rfl rfl g1 (X_p (p_move rfl rfl) ?_)
 refine L_yes rfl rfl rfl g1 (X_p (p_gtr rfl rfl rfl) ?_)
 refine Lp rfl (p_pick_f rfl rfl g1 rfl) ?_
 refine Lm rfl rfl rfl ?_
 refine L_cases (d := 17) rfl ?_ ?_
 ·intro g2; have g2' := g2; try simp only [td] at g2'
  iterate 5 refine L_no rfl rfl rfl g2 ?_
  refine Lp rfl (p_pick_t rfl rfl g2 rfl) ?_
  refine La rfl rfl rfl ?_
  refine L_then (kp [6] rfl) ?_
  refine V_ret ?_
  refine Leave.nil (.tmp rfl .nil) ?_
  simp [tup, beyond, *]
 intro g2; have g2' := g2; try simp only [td] at g2'
 refine L_yes rfl rfl rfl g2 (X_p (p_fieldo fo97_0 rfl rfl) ?_)
 refine L_yes rfl rfl rfl g2 (X_rd (rl ag3 rfl rfl rfl) ?_)
 refine L_yes rfl rfl rfl g2 (X_p (p_fieldo fo97_1 rfl rfl) ?_)
 refine L_yes rfl rfl rfl g2 (X_rd (rl ag3 rfl rfl rfl) ?_)
 refine L_yes rfl rfl rfl g2 (X_p (p_gtr rfl rfl rfl) ?_)
 refine Lp rfl (p_pick_f rfl rfl g2 rfl) ?_
 refine La rfl rfl rfl ?_
 refine L_then (kp [6] rfl) ?_
 refine V_ret ?_
 refine Leave.nil (.tmp rfl .nil) ?_
 simp [tup, beyond, *]
theorem fplus_c (a b : Span) (h : (-4611686018427387904 ≤ a.lo ∧ a.lo ≤ 4611686018427387903) ∧ (-4611686018427387904 ≤ a.hi ∧ a.hi ≤ 4611686018427387903) ∧ (-4611686018427387904 ≤ b.lo ∧ b.lo ≤ 4611686018427387903) ∧ (-4611686018427387904 ≤ b.hi ∧ b.hi ≤ 4611686018427387903)) (w : World) : FnP Try.prog 92 [.agg #[.int .i64 a.lo, .int .i64 a.hi], .agg #[.int .i64 b.lo, .int .i64 b.hi]] w (.agg #[.int .i64 (Fl.addS a b).lo, .int .i64 (Fl.addS a b).hi]) := by
 refine fn_pure Try.func92 rfl (by kernel_rfl) Try.ntmps92 Try.results92 rfl ?_
 refine Vs rfl ?_
 refine Lw rfl (w_box rfl rfl) ?_
 rintro _ _ ⟨b1, hb1, rfl, rfl⟩
 refine Lw rfl (w_box rfl rfl) ?_
 rintro _ _ ⟨b2, hb2, rfl, rfl⟩
 refine Lw rfl (w_alloc zr97 rfl) ?_
 rintro _ _ ⟨b3, hb3, rfl, rfl⟩
 refine L_then (kp [2, 3, 4] rfl) ?_
 refine Vs rfl ?_
 refine Lp rfl (p_fieldo fo97_0 rfl rfl) ?_
 refine Lr rfl (rl ag3 rfl rfl rfl) ?_
 refine Lp rfl (p_fieldo fo97_0 rfl rfl) ?_
 refine Lr rfl (rl ag3 rfl rfl rfl) ?_
 first | refine Lp rfl (p_add' rfl rfl rfl (by unfold InI; omega)) ?_ | refine Lp rfl (p_add rfl rfl rfl) ?_
 refine Lp rfl (p_fieldo fo97_1 rfl rfl) ?_
 refine Lr rfl (rl ag3 rfl rfl rfl) ?_
 refine Lp rfl (p_fieldo fo97_1 rfl rfl) ?_
 refine Lr rfl (rl ag3 rfl rfl rfl) ?_
 first | refine Lp rfl (p_add' rfl rfl rfl (by unfold InI; omega)) ?_ | refine Lp rfl (p_add rfl rfl rfl) ?_
 refine Lp rfl (p_build (r := [_, _]) pl97 zr97 rfl rfl rfl) ?_
 refine Ls (cs' := [_, _]) rfl sz97 rfl rfl rfl rfl rfl rfl rfl ?_
 refine L_then (kp [4] rfl) ?_
 refine V_ret ?_
 refine Leave.nil (.cellA (us := [_, _]) rfl ag97 sz97 (by repeat first | exact mH | apply mT) rfl .nil) ?_
 rfl
theorem fminus_c (a b : Span) (h : (-4611686018427387904 ≤ a.lo ∧ a.lo ≤ 4611686018427387903) ∧ (-4611686018427387904 ≤ a.hi ∧ a.hi ≤ 4611686018427387903) ∧ (-4611686018427387904 ≤ b.lo ∧ b.lo ≤ 4611686018427387903) ∧ (-4611686018427387904 ≤ b.hi ∧ b.hi ≤ 4611686018427387903)) (w : World) : FnP Try.prog 100 [.agg #[.int .i64 a.lo, .int .i64 a.hi], .agg #[.int .i64 b.lo, .int .i64 b.hi]] w (.agg #[.int .i64 (Fl.subS a b).lo, .int .i64 (Fl.subS a b).hi]) := by
 refine fn_pure Try.func100 rfl (by kernel_rfl) Try.ntmps100 Try.results100 rfl ?_
 refine Vs rfl ?_
 refine Lw rfl (w_box rfl rfl) ?_
 rintro _ _ ⟨b1, hb1, rfl, rfl⟩
 refine Lw rfl (w_box rfl rfl) ?_
 rintro _ _ ⟨b2, hb2, rfl, rfl⟩
 refine Lw rfl (w_alloc zr97 rfl) ?_
 rintro _ _ ⟨b3, hb3, rfl, rfl⟩
 refine L_then (kp [2, 3, 4] rfl) ?_
 refine Vs rfl ?_
 refine Lp rfl (p_fieldo fo97_0 rfl rfl) ?_
 refine Lr rfl (rl ag3 rfl rfl rfl) ?_
 refine Lp rfl (p_fieldo fo97_1 rfl rfl) ?_
 refine Lr rfl (rl ag3 rfl rfl rfl) ?_
 first | refine Lp rfl (p_sub' rfl rfl rfl (by unfold InI; omega)) ?_ | refine Lp rfl (p_sub rfl rfl rfl) ?_
 refine Lp rfl (p_fieldo fo97_1 rfl rfl) ?_
 refine Lr rfl (rl ag3 rfl rfl rfl) ?_
 refine Lp rfl (p_fieldo fo97_0 rfl rfl) ?_
 refine Lr rfl (rl ag3 rfl rfl rfl) ?_
 first | refine Lp rfl (p_sub' rfl rfl rfl (by unfold InI; omega)) ?_ | refine Lp rfl (p_sub rfl rfl rfl) ?_
 refine Lp rfl (p_build (r := [_, _]) pl97 zr97 rfl rfl rfl) ?_
 refine Ls (cs' := [_, _]) rfl sz97 rfl rfl rfl rfl rfl rfl rfl ?_
 refine L_then (kp [4] rfl) ?_
 refine V_ret ?_
 refine Leave.nil (.cellA (us := [_, _]) rfl ag97 sz97 (by repeat first | exact mH | apply mT) rfl .nil) ?_
 rfl
theorem fhull_c (a b : Span) (w : World) : FnP Try.prog 112 [.agg #[.int .i64 a.lo, .int .i64 a.hi], .agg #[.int .i64 b.lo, .int .i64 b.hi]] w (.agg #[.int .i64 (Fl.hullS a b).lo, .int .i64 (Fl.hullS a b).hi]) := by
 refine fn_pure Try.func112 rfl (by kernel_rfl) Try.ntmps112 Try.results112 rfl ?_
 refine Vs rfl ?_
 refine Lw rfl (w_box rfl rfl) ?_
 rintro _ _ ⟨b1, hb1, rfl, rfl⟩
 refine Lw rfl (w_box rfl rfl) ?_
 rintro _ _ ⟨b2, hb2, rfl, rfl⟩
 refine Lw rfl (w_alloc zr97 rfl) ?_
 rintro _ _ ⟨b3, hb3, rfl, rfl⟩
 refine L_then (kp [2, 3, 4] rfl) ?_
 refine Vs rfl ?_
 refine Lp rfl (p_fieldo fo97_0 rfl rfl) ?_
 refine Lr rfl (rl ag3 rfl rfl rfl) ?_
 refine Lp rfl (p_fieldo fo97_0 rfl rfl) ?_
 refine Lr rfl (rl ag3 rfl rfl rfl) ?_
 refine Lp rfl (p_min rfl rfl rfl) ?_
 refine Lp rfl (p_fieldo fo97_1 rfl rfl) ?_
 refine Lr rfl (rl ag3 rfl rfl rfl) ?_
 refine Lp rfl (p_fieldo fo97_1 rfl rfl) ?_
 refine Lr rfl (rl ag3 rfl rfl rfl) ?_
 refine Lp rfl (p_max rfl rfl rfl) ?_
 refine Lp rfl (p_build (r := [_, _]) pl97 zr97 rfl rfl rfl) ?_
 refine Ls (cs' := [_, _]) rfl sz97 rfl rfl rfl rfl rfl rfl rfl ?_
 refine L_then (kp [4] rfl) ?_
 refine V_ret ?_
 refine Leave.nil (.cellA (us := [_, _]) rfl ag97 sz97 (by repeat first | exact mH | apply mT) rfl .nil) ?_
 rfl
theorem fsq_c (s : Span) (h : SpB 1020000 s) (w : World) : FnP Try.prog 101 [.agg #[.int .i64 s.lo, .int .i64 s.hi]] w (.agg #[.int .i64 (sqS s).lo, .int .i64 (sqS s).hi]) := by
 obtain ⟨h1, h2, h3⟩ := h
 have hq1 := mul_abs (a := sqLo s) (b := sqLo s) (A := 1020000) (B := 1020000) (by omega) (by unfold sqLo; omega) (by unfold sqLo; omega)
 have hq2 := mul_abs (a := sqHi s) (b := sqHi s) (A := 1020000) (B := 1020000) (by omega) (by unfold sqHi; omega) (by unfold sqHi; omega)
 simp only [sqLo, sqHi] at hq1 hq2
 refine fn_pure Try.func101 rfl (by kernel_rfl) Try.ntmps101 Try.results101 rfl ?_
 refine Vs rfl ?_
 refine Lw rfl (w_box rfl rfl) ?_
 rintro _ _ ⟨b1, hb1, rfl, rfl⟩
 refine Lw rfl (w_alloc zr97 rfl) ?_
 rintro _ _ ⟨b2, hb2, rfl, rfl⟩
 refine L_then (kp [1, 2] rfl) ?_
 refine Vs rfl ?_
 refine Lp rfl (p_fieldo fo97_0 rfl rfl) ?_
 refine Lr rfl (rl ag3 rfl rfl rfl) ?_
 refine Lp rfl (p_fieldo fo97_1 rfl rfl) ?_
 refine Lr rfl (rl ag3 rfl rfl rfl) ?_
 first | refine Lp rfl (p_neg' rfl rfl (by unfold InI; omega)) ?_ | refine Lp rfl (p_neg rfl rfl) ?_
 refine Lp rfl (p_max3 rfl rfl rfl rfl) ?_
 refine La rfl rfl rfl ?_
 refine L_then (kp [1, 2, 3] rfl) ?_
 refine Vs rfl ?_
 refine Lp rfl (p_fieldo fo97_0 rfl rfl) ?_
 refine Lr rfl (rl ag3 rfl rfl rfl) ?_
 first | refine Lp rfl (p_neg' rfl rfl (by unfold InI; omega)) ?_ | refine Lp rfl (p_neg rfl rfl) ?_
 refine Lp rfl (p_fieldo fo97_1 rfl rfl) ?_
 refine Lr rfl (rl ag3 rfl rfl rfl) ?_
 refine Lp rfl (p_max rfl rfl rfl) ?_
 refine La rfl rfl rfl ?_
 refine L_then (kp [2, 3, 4] rfl) ?_
 refine Vs rfl ?_
 iterate 2 refine Lm rfl rfl rfl ?_
 first | refine Lp rfl (p_mul' rfl rfl rfl (by unfold InI; omega)) ?_ | refine Lp rfl (p_mul rfl rfl rfl) ?_
 iterate 2 refine Lm rfl rfl rfl ?_
 first | refine Lp rfl (p_mul' rfl rfl rfl (by unfold InI; omega)) ?_ | refine Lp rfl (p_mul rfl rfl rfl) ?_
 refine Lp rfl (p_build (r := [_, _]) pl97 zr97 rfl rfl rfl) ?_
 refine Ls (cs' := [_, _]) rfl sz97 rfl rfl rfl rfl rfl rfl rfl ?_
 refine L_then (kp [2] rfl) ?_
 refine V_ret ?_
 refine Leave.nil (.cellA (us := [_, _]) rfl ag97 sz97 (by repeat first | exact mH | apply mT) rfl .nil) ?_
 rfl

end Go.Proofs.Ytbncegfgjbdheaa

/- Ytbncegfgjbdheaa: axes, products, quotients, roots. -/
set_option linter.all false
namespace Go.Proofs.Ytbncegfgjbdheaa
open Go.Vc Go.Tk Go.Fl
set_option maxRecDepth 100000
theorem idxSp_c (l : List Span) (v : Value) (fid : Nat) (cap : Array Value) (p : Span → Bool) (w : World) (hv : SliceR w 2 v (l.map spC)) (hl : (l.length : Int) ≤ 9223372036854775806) (hf : ∀ j : Nat, j < l.length → ∀ w', Ext w w' → FnP Try.prog fid (.agg (spC (l.getD j Fl.spZ)).toArray :: cap.toList) w' (.bool (p (l.getD j Fl.spZ)))) : FnP Try.prog 109 [v, .func (.func fid) #[] cap] w (.int .i64 (Tk.firstIdx (fun i => p (l.getD i Fl.spZ)) 0 l.length)) := by
 obtain ⟨a, ca, rfl, hcap, hel⟩ := hv.ex
 simp only [List.length_map]
 refine fn_pure Try.func109 rfl (by kernel_rfl) Try.ntmps109 Try.results109 rfl ?_
 refine Vs rfl ?_
 refine La rfl rfl rfl ?_
 refine L_then (kp [0, 1] rfl) ?_
 refine V_seq ?_
 refine Vs rfl ?_
 refine Lm rfl rfl rfl ?_
 refine Lp rfl (p_len isl146 rfl rfl) ?_
 refine Lm rfl rfl rfl ?_
 refine L_then (kp [0, 1, 7, 8] rfl) ?_
 refine V_block ?_
 refine V_loop0 (γ := Int) (kp [0, 1, 7] rfl) (fun k => [(8, .int .i64 k)]) (fun k => 0 ≤ k ∧ k ≤ l.length ∧ ∀ j : Nat, (j : Int) < k → p (l.getD j Fl.spZ) = false) (fun k => (l.length - k).toNat) (0) (.cons rfl (.nil _)) (⟨by omega, by omega, fun j hj => by omega⟩) ?_
 rintro k hi
 obtain ⟨hk0, hk1, hkp⟩ := hi
 refine Vs rfl ?_
 refine Lp rfl (p_lss rfl rfl rfl) ?_
 refine L_then (kp [0, 1, 7, 8, 9] rfl) ?_
 refine V_seq ?_
 refine V_cond rfl ?_ ?_
 ·intro c1; try simp only [td] at c1
  obtain ⟨b, rfl, hc⟩ := hel k.toNat _ (getD_cells (d := Fl.spZ) (by omega))
  refine V_skip (then_n ?_)
  refine V_seq ?_
  refine V_block ?_
  refine Vs rfl ?_
  refine Lm rfl rfl rfl ?_
  refine La rfl rfl rfl ?_
  refine L_then (kp [0, 1, 5, 7, 8] rfl) ?_
  refine Vs rfl ?_
  iterate 3 refine Lm rfl rfl rfl ?_
  refine Lp rfl (p_idx es146 rfl rfl rfl (by omega) (by omega)) ?_
  refine Lr rfl (r_loadBA ag97 sz97 rfl rfl hc rfl List.not_mem_nil) ?_
  refine Lc rfl rfl rfl rfl (fun w hg => hf k.toNat (by omega) _ hg.toExt) ?_
  refine L_then (kp [0, 1, 5, 7, 8, 16] rfl) ?_
  refine V_cond rfl ?_ ?_
  ·intro c2; try simp only [td] at c2
   refine Vs rfl ?_
   refine Lm rfl rfl rfl ?_
   refine La rfl rfl rfl ?_
   refine L_then (kp [4] rfl) ?_
   refine V_ret (blk_r (then_r (then_r (blk_r (then_r ?_)))))
   refine Leave.nil (.tmp rfl .nil) ?_
   show Value.int .i64 k = _
   rw [firstIdx_hit (p := fun i => p (l.getD i Fl.spZ)) (k := k.toNat) (by omega) c2 (fun j hj => hkp j (by omega))]
   congr 1; omega
  intro c2; try simp only [td] at c2
  refine V_skip (blk_n (then_n ?_))
  refine V_region rfl ?_
  first | refine Lp rfl (p_add' rfl rfl rfl (by unfold InI; omega)) ?_ | refine Lp rfl (p_add rfl rfl rfl) ?_
  refine Lm rfl rfl rfl ?_
  refine L_keep (kp [0, 1, 7, 8] rfl) (then_n ?_)
  refine ⟨k + 1, ?_, ?_, (.cons rfl (.cons rfl (.cons rfl (.cons rfl (.nil _))))), (by repeat (first | exact List.Sublist.refl _ | apply List.Sublist.cons_cons | apply List.Sublist.cons | apply List.sublist_append_of_sublist_right)), rfl⟩
  ·refine ⟨by omega, by omega, fun j hj => ?_⟩; by_cases e : (j : Int) < k
   ·exact hkp j e
   have : j = k.toNat := by omega
   rw [this]; exact c2
  omega
 intro c1; try simp only [td] at c1
 refine V_exit (then_e (then_e (blk_e rfl (then_n ?_))))
 refine Vs rfl ?_
 refine La rfl rfl rfl ?_
 refine L_then (kp [4] rfl) ?_
 refine V_ret ?_
 refine Leave.nil (.tmp rfl .nil) ?_
 show Value.int .i64 (-1) = _
 rw [firstIdx_none (p := fun i => p (l.getD i Fl.spZ)) (fun j hj => hkp j (by omega))]
theorem contSp_c (l : List Span) (v : Value) (fid : Nat) (cap : Array Value) (p : Span → Bool) (w : World) (hv : SliceR w 2 v (l.map spC)) (hl : (l.length : Int) ≤ 9223372036854775806) (hf : ∀ j : Nat, j < l.length → ∀ w', Ext w w' → FnP Try.prog fid (.agg (spC (l.getD j Fl.spZ)).toArray :: cap.toList) w' (.bool (p (l.getD j Fl.spZ)))) : FnP Try.prog 78 [v, .func (.func fid) #[] cap] w (.bool (l.any p)) := by
 refine fn_pure Try.func78 rfl (by kernel_rfl) Try.ntmps78 Try.results78 rfl ?_
 refine Vs rfl ?_
 refine La rfl rfl rfl ?_
 refine L_then (kp [0, 1] rfl) ?_
 refine Vs rfl ?_
 iterate 2 refine Lm rfl rfl rfl ?_
 refine Lc rfl rfl rfl rfl (fun w hg => idxSp_c l _ _ _ p w (hv.good hg) hl (fun j hj w' he => hf j hj w' (hg.toExt.trans he))) ?_
 refine Lp rfl (p_geq rfl rfl rfl) ?_
 refine La rfl rfl rfl ?_
 refine L_then (kp [4] rfl) ?_
 refine V_ret ?_
 refine Leave.nil (.tmp rfl .nil) ?_
 show Value.bool _ = _
 rw [firstIdx_any, anyIdx_list]
theorem idxPc_c (l : List Fl.Piece) (v : Value) (fid : Nat) (cap : Array Value) (p : Fl.Piece → Bool) (w : World) (hv : SliceR w 13 v (l.map Fl.Piece.cells)) (hl : (l.length : Int) ≤ 9223372036854775806) (hf : ∀ j : Nat, j < l.length → ∀ w', Ext w w' → FnP Try.prog fid (.agg (Fl.Piece.cells (l.getD j pcZ)).toArray :: cap.toList) w' (.bool (p (l.getD j pcZ)))) : FnP Try.prog 80 [v, .func (.func fid) #[] cap] w (.int .i64 (Tk.firstIdx (fun i => p (l.getD i pcZ)) 0 l.length)) := by
 obtain ⟨a, ca, rfl, hcap, hel⟩ := hv.ex
 simp only [List.length_map]
 refine fn_pure Try.func80 rfl (by kernel_rfl) Try.ntmps80 Try.results80 rfl ?_
 refine Vs rfl ?_
 refine La rfl rfl rfl ?_
 refine L_then (kp [0, 1] rfl) ?_
 refine V_seq ?_
 refine Vs rfl ?_
 refine Lm rfl rfl rfl ?_
 refine Lp rfl (p_len isl26 rfl rfl) ?_
 refine Lm rfl rfl rfl ?_
 refine L_then (kp [0, 1, 7, 8] rfl) ?_
 refine V_block ?_
 refine V_loop0 (γ := Int) (kp [0, 1, 7] rfl) (fun k => [(8, .int .i64 k)]) (fun k => 0 ≤ k ∧ k ≤ l.length ∧ ∀ j : Nat, (j : Int) < k → p (l.getD j pcZ) = false) (fun k => (l.length - k).toNat) (0) (.cons rfl (.nil _)) (⟨by omega, by omega, fun j hj => by omega⟩) ?_
 rintro k hi
 obtain ⟨hk0, hk1, hkp⟩ := hi
 refine Vs rfl ?_
 refine Lp rfl (p_lss rfl rfl rfl) ?_
 refine L_then (kp [0, 1, 7, 8, 9] rfl) ?_
 refine V_seq ?_
 refine V_cond rfl ?_ ?_
 ·intro c1; try simp only [td] at c1
  obtain ⟨b, rfl, hc⟩ := hel k.toNat _ (getD_cells (d := pcZ) (by omega))
  refine V_skip (then_n ?_)
  refine V_seq ?_
  refine V_block ?_
  refine Vs rfl ?_
  refine Lm rfl rfl rfl ?_
  refine La rfl rfl rfl ?_
  refine L_then (kp [0, 1, 5, 7, 8] rfl) ?_
  refine Vs rfl ?_
  iterate 3 refine Lm rfl rfl rfl ?_
  refine Lp rfl (p_idx es26 rfl rfl rfl (by omega) (by omega)) ?_
  refine Lr rfl (r_loadBA ag49 sz49 rfl rfl hc rfl List.not_mem_nil) ?_
  refine Lc rfl rfl rfl rfl (fun w hg => hf k.toNat (by omega) _ hg.toExt) ?_
  refine L_then (kp [0, 1, 5, 7, 8, 16] rfl) ?_
  refine V_cond rfl ?_ ?_
  ·intro c2; try simp only [td] at c2
   refine Vs rfl ?_
   refine Lm rfl rfl rfl ?_
   refine La rfl rfl rfl ?_
   refine L_then (kp [4] rfl) ?_
   refine V_ret (blk_r (then_r (then_r (blk_r (then_r ?_)))))
   refine Leave.nil (.tmp rfl .nil) ?_
   show Value.int .i64 k = _
   rw [firstIdx_hit (p := fun i => p (l.getD i pcZ)) (k := k.toNat) (by omega) c2 (fun j hj => hkp j (by omega))]
   congr 1; omega
  intro c2; try simp only [td] at c2
  refine V_skip (blk_n (then_n ?_))
  refine V_region rfl ?_
  first | refine Lp rfl (p_add' rfl rfl rfl (by unfold InI; omega)) ?_ | refine Lp rfl (p_add rfl rfl rfl) ?_
  refine Lm rfl rfl rfl ?_
  refine L_keep (kp [0, 1, 7, 8] rfl) (then_n ?_)
  refine ⟨k + 1, ?_, ?_, (.cons rfl (.cons rfl (.cons rfl (.cons rfl (.nil _))))), (by repeat (first | exact List.Sublist.refl _ | apply List.Sublist.cons_cons | apply List.Sublist.cons | apply List.sublist_append_of_sublist_right)), rfl⟩
  ·refine ⟨by omega, by omega, fun j hj => ?_⟩; by_cases e : (j : Int) < k
   ·exact hkp j e
   have : j = k.toNat := by omega
   rw [this]; exact c2
  omega
 intro c1; try simp only [td] at c1
 refine V_exit (then_e (then_e (blk_e rfl (then_n ?_))))
 refine Vs rfl ?_
 refine La rfl rfl rfl ?_
 refine L_then (kp [4] rfl) ?_
 refine V_ret ?_
 refine Leave.nil (.tmp rfl .nil) ?_
 show Value.int .i64 (-1) = _
 rw [firstIdx_none (p := fun i => p (l.getD i pcZ)) (fun j hj => hkp j (by omega))]
theorem contPc_c (l : List Fl.Piece) (v : Value) (fid : Nat) (cap : Array Value) (p : Fl.Piece → Bool) (w : World) (hv : SliceR w 13 v (l.map Fl.Piece.cells)) (hl : (l.length : Int) ≤ 9223372036854775806) (hf : ∀ j : Nat, j < l.length → ∀ w', Ext w w' → FnP Try.prog fid (.agg (Fl.Piece.cells (l.getD j pcZ)).toArray :: cap.toList) w' (.bool (p (l.getD j pcZ)))) : FnP Try.prog 42 [v, .func (.func fid) #[] cap] w (.bool (l.any p)) := by
 refine fn_pure Try.func42 rfl (by kernel_rfl) Try.ntmps42 Try.results42 rfl ?_
 refine Vs rfl ?_
 refine La rfl rfl rfl ?_
 refine L_then (kp [0, 1] rfl) ?_
 refine Vs rfl ?_
 iterate 2 refine Lm rfl rfl rfl ?_
 refine Lc rfl rfl rfl rfl (fun w hg => idxPc_c l _ _ _ p w (hv.good hg) hl (fun j hj w' he => hf j hj w' (hg.toExt.trans he))) ?_
 refine Lp rfl (p_geq rfl rfl rfl) ?_
 refine La rfl rfl rfl ?_
 refine L_then (kp [4] rfl) ?_
 refine V_ret ?_
 refine Leave.nil (.tmp rfl .nil) ?_
 show Value.bool _ = _
 rw [firstIdx_any, anyIdx_list]
theorem idxPt_c (l : List Fl.Pt) (v : Value) (fid : Nat) (cap : Array Value) (p : Fl.Pt → Bool) (w : World) (hv : SliceR w 6 v (l.map Fl.Pt.cells)) (hl : (l.length : Int) ≤ 9223372036854775806) (hf : ∀ j : Nat, j < l.length → ∀ w', Ext w w' → FnP Try.prog fid (.agg (Fl.Pt.cells (l.getD j ptZ)).toArray :: cap.toList) w' (.bool (p (l.getD j ptZ)))) : FnP Try.prog 107 [v, .func (.func fid) #[] cap] w (.int .i64 (Tk.firstIdx (fun i => p (l.getD i ptZ)) 0 l.length)) := by
 obtain ⟨a, ca, rfl, hcap, hel⟩ := hv.ex
 simp only [List.length_map]
 refine fn_pure Try.func107 rfl (by kernel_rfl) Try.ntmps107 Try.results107 rfl ?_
 refine Vs rfl ?_
 refine La rfl rfl rfl ?_
 refine L_then (kp [0, 1] rfl) ?_
 refine V_seq ?_
 refine Vs rfl ?_
 refine Lm rfl rfl rfl ?_
 refine Lp rfl (p_len isl89 rfl rfl) ?_
 refine Lm rfl rfl rfl ?_
 refine L_then (kp [0, 1, 7, 8] rfl) ?_
 refine V_block ?_
 refine V_loop0 (γ := Int) (kp [0, 1, 7] rfl) (fun k => [(8, .int .i64 k)]) (fun k => 0 ≤ k ∧ k ≤ l.length ∧ ∀ j : Nat, (j : Int) < k → p (l.getD j ptZ) = false) (fun k => (l.length - k).toNat) (0) (.cons rfl (.nil _)) (⟨by omega, by omega, fun j hj => by omega⟩) ?_
 rintro k hi
 obtain ⟨hk0, hk1, hkp⟩ := hi
 refine Vs rfl ?_
 refine Lp rfl (p_lss rfl rfl rfl) ?_
 refine L_then (kp [0, 1, 7, 8, 9] rfl) ?_
 refine V_seq ?_
 refine V_cond rfl ?_ ?_
 ·intro c1; try simp only [td] at c1
  obtain ⟨b, rfl, hc⟩ := hel k.toNat _ (getD_cells (d := ptZ) (by omega))
  refine V_skip (then_n ?_)
  refine V_seq ?_
  refine V_block ?_
  refine Vs rfl ?_
  refine Lm rfl rfl rfl ?_
  refine La rfl rfl rfl ?_
  refine L_then (kp [0, 1, 5, 7, 8] rfl) ?_
  refine Vs rfl ?_
  iterate 3 refine Lm rfl rfl rfl ?_
  refine Lp rfl (p_idx es89 rfl rfl rfl (by omega) (by omega)) ?_
  refine Lr rfl (r_loadBA ag88 sz88 rfl rfl hc rfl List.not_mem_nil) ?_
  refine Lc rfl rfl rfl rfl (fun w hg => hf k.toNat (by omega) _ hg.toExt) ?_
  refine L_then (kp [0, 1, 5, 7, 8, 16] rfl) ?_
  refine V_cond rfl ?_ ?_
  ·intro c2; try simp only [td] at c2
   refine Vs rfl ?_
   refine Lm rfl rfl rfl ?_
   refine La rfl rfl rfl ?_
   refine L_then (kp [4] rfl) ?_
   refine V_ret (blk_r (then_r (then_r (blk_r (then_r ?_)))))
   refine Leave.nil (.tmp rfl .nil) ?_
   show Value.int .i64 k = _
   rw [firstIdx_hit (p := fun i => p (l.getD i ptZ)) (k := k.toNat) (by omega) c2 (fun j hj => hkp j (by omega))]
   congr 1; omega
  intro c2; try simp only [td] at c2
  refine V_skip (blk_n (then_n ?_))
  refine V_region rfl ?_
  first | refine Lp rfl (p_add' rfl rfl rfl (by unfold InI; omega)) ?_ | refine Lp rfl (p_add rfl rfl rfl) ?_
  refine Lm rfl rfl rfl ?_
  refine L_keep (kp [0, 1, 7, 8] rfl) (then_n ?_)
  refine ⟨k + 1, ?_, ?_, (.cons rfl (.cons rfl (.cons rfl (.cons rfl (.nil _))))), (by repeat (first | exact List.Sublist.refl _ | apply List.Sublist.cons_cons | apply List.Sublist.cons | apply List.sublist_append_of_sublist_right)), rfl⟩
  ·refine ⟨by omega, by omega, fun j hj => ?_⟩; by_cases e : (j : Int) < k
   ·exact hkp j e
   have : j = k.toNat := by omega
   rw [this]; exact c2
  omega
 intro c1; try simp only [td] at c1
 refine V_exit (then_e (then_e (blk_e rfl (then_n ?_))))
 refine Vs rfl ?_
 refine La rfl rfl rfl ?_
 refine L_then (kp [4] rfl) ?_
 refine V_ret ?_
 refine Leave.nil (.tmp rfl .nil) ?_
 show Value.int .i64 (-1) = _
 rw [firstIdx_none (p := fun i => p (l.getD i ptZ)) (fun j hj => hkp j (by omega))]
theorem contPt_c (l : List Fl.Pt) (v : Value) (fid : Nat) (cap : Array Value) (p : Fl.Pt → Bool) (w : World) (hv : SliceR w 6 v (l.map Fl.Pt.cells)) (hl : (l.length : Int) ≤ 9223372036854775806) (hf : ∀ j : Nat, j < l.length → ∀ w', Ext w w' → FnP Try.prog fid (.agg (Fl.Pt.cells (l.getD j ptZ)).toArray :: cap.toList) w' (.bool (p (l.getD j ptZ)))) : FnP Try.prog 117 [v, .func (.func fid) #[] cap] w (.bool (l.any p)) := by
 refine fn_pure Try.func117 rfl (by kernel_rfl) Try.ntmps117 Try.results117 rfl ?_
 refine Vs rfl ?_
 refine La rfl rfl rfl ?_
 refine L_then (kp [0, 1] rfl) ?_
 refine Vs rfl ?_
 iterate 2 refine Lm rfl rfl rfl ?_
 refine Lc rfl rfl rfl rfl (fun w hg => idxPt_c l _ _ _ p w (hv.good hg) hl (fun j hj w' he => hf j hj w' (hg.toExt.trans he))) ?_
 refine Lp rfl (p_geq rfl rfl rfl) ?_
 refine La rfl rfl rfl ?_
 refine L_then (kp [4] rfl) ?_
 refine V_ret ?_
 refine Leave.nil (.tmp rfl .nil) ?_
 show Value.bool _ = _
 rw [firstIdx_any, anyIdx_list]
theorem fheavy_c (m d : Span) (w : World) : FnP Try.prog 39 [.agg #[.int .i64 m.lo, .int .i64 m.hi], .agg #[.int .i64 d.lo, .int .i64 d.hi]] w (.bool (heavyB m d)) := by
 refine fn_pure Try.func39 rfl (by kernel_rfl) Try.ntmps39 Try.results39 rfl ?_
 refine Vs rfl ?_
 refine Lw rfl (w_box rfl rfl) ?_
 rintro _ _ ⟨b1, hb1, rfl, rfl⟩
 refine Lw rfl (w_box rfl rfl) ?_
 rintro _ _ ⟨b2, hb2, rfl, rfl⟩
 refine La rfl rfl rfl ?_
 refine L_then (kp [2, 3] rfl) ?_
 refine Vs rfl ?_
 refine Lr rfl (rlA (vs := [_, _]) ag23 sz23 rfl rfl rfl) ?_
 refine Lc rfl rfl rfl rfl (fun w hg => fbeyond_c m _ _ w) ?_
 refine Lm rfl rfl rfl ?_
 refine L_cases (d := 7) rfl ?_ ?_
 ·intro g1; have g1' := g1; try simp only [td] at g1'
  iterate 2 refine L_no rfl rfl rfl g1 ?_
  refine Lp rfl (p_pick_t rfl rfl g1 rfl) ?_
  refine La rfl rfl rfl ?_
  refine L_then (kp [4] rfl) ?_
  refine V_ret ?_
  refine Leave.nil (.tmp rfl .nil) ?_
  simp [tup, heavyB, *]
 intro g1; have g1' := g1; try simp only [td] at g1'
 refine L_yes rfl rfl rfl g1 (X_rd (rlA (vs := [_, _]) ag23 sz23 rfl rfl rfl) ?_)
 refine L_yes rfl rfl rfl g1 (X_wr (w_callP rfl rfl rfl (fun w hg => fbeyond_c d _ _ w)) ?_)
 rintro _ _ ⟨rfl, rfl⟩
 refine Lp rfl (p_pick_f rfl rfl g1 rfl) ?_
 refine La rfl rfl rfl ?_
 refine L_then (kp [4] rfl) ?_
 refine V_ret ?_
 refine Leave.nil (.tmp rfl .nil) ?_
 simp [tup, heavyB, *]
theorem ftilted_c (a : Ax) (w : World) : FnP Try.prog 40 [.agg #[.int .i64 a.x.lo, .int .i64 a.x.hi, .int .i64 a.y.lo, .int .i64 a.y.hi, .int .i64 a.z.lo, .int .i64 a.z.hi]] w (.agg #[.int .i64 a.x.lo, .int .i64 a.x.hi, .int .i64 a.y.lo, .int .i64 a.y.hi, .int .i64 a.z.lo, .int .i64 a.z.hi]) := by
 refine fn_pure Try.func40 rfl (by kernel_rfl) Try.ntmps40 Try.results40 rfl ?_
 refine Vs rfl ?_
 refine Lw rfl (w_box rfl rfl) ?_
 rintro _ _ ⟨b1, hb1, rfl, rfl⟩
 refine Lw rfl (w_alloc zr103 rfl) ?_
 rintro _ _ ⟨b2, hb2, rfl, rfl⟩
 refine L_then (kp [1, 2] rfl) ?_
 refine Vs rfl ?_
 refine Lp rfl (p_fieldo fo44_0 rfl rfl) ?_
 refine Lr rfl (rlA (vs := [_, _]) ag23 sz23 rfl rfl rfl) ?_
 refine Lp rfl (p_fieldo fo44_1 rfl rfl) ?_
 refine Lr rfl (rlA (vs := [_, _]) ag23 sz23 rfl rfl rfl) ?_
 refine Lp rfl (p_fieldo fo44_2 rfl rfl) ?_
 refine Lr rfl (rlA (vs := [_, _]) ag23 sz23 rfl rfl rfl) ?_
 refine Lp rfl (p_buildA (r := [_, _, _, _, _, _]) ar103 zr103 rfl rfl rfl) ?_
 refine Ls (cs' := [_, _, _, _, _, _]) rfl sz103 rfl rfl rfl rfl rfl rfl rfl ?_
 refine L_then (kp [2] rfl) ?_
 refine V_ret ?_
 refine Leave.nil (.cellA (us := [_, _, _, _, _, _]) rfl ag103 sz103 (by repeat first | exact mH | apply mT) rfl .nil) ?_
 rfl
theorem fwide1_c (s : Span) (m : Int) (hm : 0 ≤ m ∧ m ≤ 1000000000000000000) (b ty : Nat) (fr : Nat × Nat) (w : World) (hb : w.heap[b]? = some (.cells #[.int .i64 m] ty fr)) : FnP Try.prog 79 [.agg #[.int .i64 s.lo, .int .i64 s.hi], .pointer (some ⟨b, 0, none⟩)] w (.bool (beyond s (-m) m)) := by
 refine fn_pure Try.func79 rfl (by kernel_rfl) Try.ntmps79 Try.results79 rfl ?_
 refine Vs rfl ?_
 refine Lw rfl (w_box rfl rfl) ?_
 rintro _ _ ⟨b1, hb1, rfl, rfl⟩
 refine La rfl rfl rfl ?_
 refine L_then (kp [1, 2] rfl) ?_
 refine Vs rfl ?_
 refine Lr rfl (rlA (vs := [_, _]) ag97 sz97 rfl rfl rfl) ?_
 refine Lr rfl (r_loadB ag3 rfl rfl (own_cell hb _) List.not_mem_nil) ?_
 first | refine Lp rfl (p_neg' rfl rfl (by unfold InI; omega)) ?_ | refine Lp rfl (p_neg rfl rfl) ?_
 refine Lr rfl (r_loadB ag3 rfl rfl (own_cell hb _) List.not_mem_nil) ?_
 refine Lc rfl rfl rfl rfl (fun w hg => fbeyond_c s _ _ w) ?_
 refine La rfl rfl rfl ?_
 refine L_then (kp [3] rfl) ?_
 refine V_ret ?_
 refine Leave.nil (.tmp rfl .nil) ?_
 rfl
theorem fwide_c (a : Ax) (m : Int) (hm : 0 ≤ m ∧ m ≤ 1000000000000000000) (w : World) : FnP Try.prog 41 [.agg #[.int .i64 a.x.lo, .int .i64 a.x.hi, .int .i64 a.y.lo, .int .i64 a.y.hi, .int .i64 a.z.lo, .int .i64 a.z.hi], .int .i64 m] w (.bool (wideA a m)) := by
 refine fn_pure Try.func41 rfl (by kernel_rfl) Try.ntmps41 Try.results41 rfl ?_
 refine Vs rfl ?_
 refine Lw rfl (w_box rfl rfl) ?_
 rintro _ _ ⟨b1, hb1, rfl, rfl⟩
 refine Lw rfl (w_box rfl rfl) ?_
 rintro _ _ ⟨b2, hb2, rfl, rfl⟩
 refine La rfl rfl rfl ?_
 refine L_then (kp [2, 3] rfl) ?_
 refine Vs rfl ?_
 refine Lp rfl (p_slArr ar103 rfl rfl (by decide)) ?_
 refine Lp rfl (p_func rfl rfl rfl) ?_
 refine Lc rfl rfl rfl rfl (fun w hg => contSp_c [a.x, a.y, a.z] _ _ _ (fun s => beyond s (-m) m) w (own_rows (els := [a.x, a.y, a.z].map spC) (hg.own (b1, _) (by repeat first | exact mH | apply mT)) rfl (by intro e he; obtain ⟨x, _, rfl⟩ := List.mem_map.1 he; rfl) rfl (by decide)) (by simp) (fun j hj w' he => fwide1_c _ m hm _ _ _ w' (he.heap (hg.own (b2, _) (by repeat first | exact mH | apply mT))))) ?_
 refine La rfl rfl rfl ?_
 refine L_then (kp [4] rfl) ?_
 refine V_ret ?_
 refine Leave.nil (.tmp rfl .nil) ?_
 show Value.bool _ = _
 simp [wideA]
theorem fmin_c (l : List Int) (v : Value) (w : World) (hv : SliceR w 1 v (l.map fun n => [Value.int .i64 n])) (hl : 1 ≤ l.length) (hl2 : (l.length : Int) ≤ 9223372036854775806) : FnP Try.prog 110 [v] w (.int .i64 (minN l (l.length - 1))) := by
 obtain ⟨a, ca, rfl, hcap, hel⟩ := hv.ex
 simp only [List.length_map]
 refine fn_pure Try.func110 rfl (by kernel_rfl) Try.ntmps110 Try.results110 rfl ?_
 refine Vs rfl ?_
 refine La rfl rfl rfl ?_
 refine L_then (kp [0] rfl) ?_
 refine V_seq ?_
 refine Vs rfl ?_
 refine Lm rfl rfl rfl ?_
 refine Lp rfl (p_len isl166 rfl rfl) ?_
 refine Lp rfl (p_lss rfl rfl rfl) ?_
 refine L_then (kp [0, 7] rfl) ?_
 refine V_cond rfl ?_ ?_
 ·intro c1; try simp only [td] at c1
  exfalso; omega
 intro c1; try simp only [td] at c1
 refine V_skip (then_n ?_)
 refine Vs rfl ?_
 obtain ⟨b0, rfl, hc0⟩ := hel 0 _ (getD_cells (f := fun n : Int => [Value.int .i64 n]) (d := 0) (i := 0) (by omega))
 refine Lm rfl rfl rfl ?_
 refine Lp rfl (p_idx es166 rfl rfl rfl (by omega) (by omega)) ?_
 refine Lr rfl (r_loadB ag3 rfl rfl hc0.zero List.not_mem_nil) ?_
 refine La rfl rfl rfl ?_
 refine L_then (kp [0, 3] rfl) ?_
 refine V_seq ?_
 refine Vs rfl ?_
 refine La rfl rfl rfl ?_
 refine L_then (kp [0, 3, 4] rfl) ?_
 refine V_block ?_
 refine V_loop0 (γ := Int × Int) (kp [0] rfl) (fun (k, m) => [(4, .int .i64 k), (3, .int .i64 m)]) (fun (k, m) => 1 ≤ k ∧ k ≤ l.length ∧ m = minN l (k - 1).toNat) (fun (k, m) => (l.length - k).toNat) ((1, l.getD 0 0)) (.cons rfl (.cons rfl (.nil _))) (⟨by omega, by omega, rfl⟩) ?_
 rintro ⟨k, m⟩ hi
 obtain ⟨hk0, hk1, hm⟩ := hi
 dsimp only at hk0 hk1 hm ⊢
 refine V_seq ?_
 refine Vs rfl ?_
 iterate 2 refine Lm rfl rfl rfl ?_
 refine Lp rfl (p_len isl166 rfl rfl) ?_
 refine Lp rfl (p_lss rfl rfl rfl) ?_
 refine L_then (kp [0, 3, 4, 15] rfl) ?_
 refine V_cond rfl ?_ ?_
 ·intro c2; try simp only [td] at c2
  obtain ⟨bk, hbk, hc⟩ := hel k.toNat _ (getD_cells (f := fun n : Int => [Value.int .i64 n]) (d := 0) (i := k.toNat) (by omega))
  injection hbk with hbk
  subst hbk
  have hst : minN l (k + 1 - 1).toNat = min (minN l (k - 1).toNat) (l.getD k.toNat 0) := by
   have e1 : (k + 1 - 1).toNat = (k - 1).toNat + 1 := by omega
   have e2 : k.toNat = (k - 1).toNat + 1 := by omega
   rw [e1, e2]; rfl
  refine V_skip (then_n ?_)
  refine V_seq ?_
  refine V_block ?_
  refine V_region rfl ?_
  iterate 3 refine Lm rfl rfl rfl ?_
  refine Lp rfl (p_idx es166 rfl rfl rfl (by omega) (by omega)) ?_
  refine Lr rfl (r_loadB ag3 rfl rfl hc.zero List.not_mem_nil) ?_
  refine Lp rfl (p_min rfl rfl rfl) ?_
  refine La rfl rfl rfl ?_
  refine L_keep (kp [0, 3, 4] rfl) (blk_n (then_n ?_))
  refine V_region rfl ?_
  refine Lm rfl rfl rfl ?_
  first | refine Lp rfl (p_add' rfl rfl rfl (by unfold InI; omega)) ?_ | refine Lp rfl (p_add rfl rfl rfl) ?_
  refine La rfl rfl rfl ?_
  refine L_keep (kp [0, 3, 4] rfl) (then_n ?_)
  refine ⟨(k + 1, min m (l.getD k.toNat 0)), ?_, ?_, (.cons rfl (.cons rfl (.cons rfl (.nil _)))), (by repeat (first | exact List.Sublist.refl _ | apply List.Sublist.cons_cons | apply List.Sublist.cons | apply List.sublist_append_of_sublist_right)), rfl⟩
  ·exact ⟨by omega, by omega, by rw [hst, hm]⟩
  dsimp only; omega
 intro c2; try simp only [td] at c2
 refine V_exit (then_e (then_e (blk_e rfl (then_n ?_))))
 refine Vs rfl ?_
 refine Lm rfl rfl rfl ?_
 refine La rfl rfl rfl ?_
 refine L_then (kp [2] rfl) ?_
 refine V_ret ?_
 refine Leave.nil (.tmp rfl .nil) ?_
 have ek : (k - 1).toNat = l.length - 1 := by omega
 rw [hm, ek]; rfl
theorem fmax_c (l : List Int) (v : Value) (w : World) (hv : SliceR w 1 v (l.map fun n => [Value.int .i64 n])) (hl : 1 ≤ l.length) (hl2 : (l.length : Int) ≤ 9223372036854775806) : FnP Try.prog 111 [v] w (.int .i64 (maxN l (l.length - 1))) := by
 obtain ⟨a, ca, rfl, hcap, hel⟩ := hv.ex
 simp only [List.length_map]
 refine fn_pure Try.func111 rfl (by kernel_rfl) Try.ntmps111 Try.results111 rfl ?_
 refine Vs rfl ?_
 refine La rfl rfl rfl ?_
 refine L_then (kp [0] rfl) ?_
 refine V_seq ?_
 refine Vs rfl ?_
 refine Lm rfl rfl rfl ?_
 refine Lp rfl (p_len isl166 rfl rfl) ?_
 refine Lp rfl (p_lss rfl rfl rfl) ?_
 refine L_then (kp [0, 7] rfl) ?_
 refine V_cond rfl ?_ ?_
 ·intro c1; try simp only [td] at c1
  exfalso; omega
 intro c1; try simp only [td] at c1
 refine V_skip (then_n ?_)
 refine Vs rfl ?_
 obtain ⟨b0, rfl, hc0⟩ := hel 0 _ (getD_cells (f := fun n : Int => [Value.int .i64 n]) (d := 0) (i := 0) (by omega))
 refine Lm rfl rfl rfl ?_
 refine Lp rfl (p_idx es166 rfl rfl rfl (by omega) (by omega)) ?_
 refine Lr rfl (r_loadB ag3 rfl rfl hc0.zero List.not_mem_nil) ?_
 refine La rfl rfl rfl ?_
 refine L_then (kp [0, 3] rfl) ?_
 refine V_seq ?_
 refine Vs rfl ?_
 refine La rfl rfl rfl ?_
 refine L_then (kp [0, 3, 4] rfl) ?_
 refine V_block ?_
 refine V_loop0 (γ := Int × Int) (kp [0] rfl) (fun (k, m) => [(4, .int .i64 k), (3, .int .i64 m)]) (fun (k, m) => 1 ≤ k ∧ k ≤ l.length ∧ m = maxN l (k - 1).toNat) (fun (k, m) => (l.length - k).toNat) ((1, l.getD 0 0)) (.cons rfl (.cons rfl (.nil _))) (⟨by omega, by omega, rfl⟩) ?_
 rintro ⟨k, m⟩ hi
 obtain ⟨hk0, hk1, hm⟩ := hi
 dsimp only at hk0 hk1 hm ⊢
 refine V_seq ?_
 refine Vs rfl ?_
 iterate 2 refine Lm rfl rfl rfl ?_
 refine Lp rfl (p_len isl166 rfl rfl) ?_
 refine Lp rfl (p_lss rfl rfl rfl) ?_
 refine L_then (kp [0, 3, 4, 15] rfl) ?_
 refine V_cond rfl ?_ ?_
 ·intro c2; try simp only [td] at c2
  obtain ⟨bk, hbk, hc⟩ := hel k.toNat _ (getD_cells (f := fun n : Int => [Value.int .i64 n]) (d := 0) (i := k.toNat) (by omega))
  injection hbk with hbk
  subst hbk
  have hst : maxN l (k + 1 - 1).toNat = max (maxN l (k - 1).toNat) (l.getD k.toNat 0) := by
   have e1 : (k + 1 - 1).toNat = (k - 1).toNat + 1 := by omega
   have e2 : k.toNat = (k - 1).toNat + 1 := by omega
   rw [e1, e2]; rfl
  refine V_skip (then_n ?_)
  refine V_seq ?_
  refine V_block ?_
  refine V_region rfl ?_
  iterate 3 refine Lm rfl rfl rfl ?_
  refine Lp rfl (p_idx es166 rfl rfl rfl (by omega) (by omega)) ?_
  refine Lr rfl (r_loadB ag3 rfl rfl hc.zero List.not_mem_nil) ?_
  refine Lp rfl (p_max rfl rfl rfl) ?_
  refine La rfl rfl rfl ?_
  refine L_keep (kp [0, 3, 4] rfl) (blk_n (then_n ?_))
  refine V_region rfl ?_
  refine Lm rfl rfl rfl ?_
  first | refine Lp rfl (p_add' rfl rfl rfl (by unfold InI; omega)) ?_ | refine Lp rfl (p_add rfl rfl rfl) ?_
  refine La rfl rfl rfl ?_
  refine L_keep (kp [0, 3, 4] rfl) (then_n ?_)
  refine ⟨(k + 1, max m (l.getD k.toNat 0)), ?_, ?_, (.cons rfl (.cons rfl (.cons rfl (.nil _)))), (by repeat (first | exact List.Sublist.refl _ | apply List.Sublist.cons_cons | apply List.Sublist.cons | apply List.sublist_append_of_sublist_right)), rfl⟩
  ·exact ⟨by omega, by omega, by rw [hst, hm]⟩
  dsimp only; omega
 intro c2; try simp only [td] at c2
 refine V_exit (then_e (then_e (blk_e rfl (then_n ?_))))
 refine Vs rfl ?_
 refine Lm rfl rfl rfl ?_
 refine La rfl rfl rfl ?_
 refine L_then (kp [2] rfl) ?_
 refine V_ret ?_
 refine Leave.nil (.tmp rfl .nil) ?_
 have ek : (k - 1).toNat = l.length - 1 := by omega
 rw [hm, ek]; rfl
theorem ffloor_c (a b : Int) (hb : 0 < b) (hb2 : b ≤ 4611686018427387903) (ha : -4611686018427387904 ≤ a ∧ a ≤ 4611686018427387903) (w : World) : FnP Try.prog 116 [.int .i64 a, .int .i64 b] w (.int .i64 (a / b)) := by
 have hf := floor_bnd (a := a) hb
 refine fn_pure Try.func116 rfl (by kernel_rfl) Try.ntmps116 Try.results116 rfl ?_
 refine Vs rfl ?_
 refine La rfl rfl rfl ?_
 refine L_then (kp [0, 1] rfl) ?_
 refine Vs rfl ?_
 iterate 2 refine Lm rfl rfl rfl ?_
 refine Lp rfl (p_quo' rfl rfl rfl (by first | decide | omega) (by unfold InI; omega)) ?_
 refine La rfl rfl rfl ?_
 refine L_then (kp [0, 1, 5] rfl) ?_
 refine V_seq ?_
 refine Vs rfl ?_
 iterate 2 refine Lm rfl rfl rfl ?_
 refine Lp rfl (p_mul' rfl rfl rfl (by unfold InI; omega)) ?_
 refine Lm rfl rfl rfl ?_
 refine Lp rfl (p_gtr rfl rfl rfl) ?_
 refine L_then (kp [5, 13] rfl) ?_
 refine V_cond rfl ?_ ?_
 ·intro c1; try simp only [td] at c1
  refine V_region rfl ?_
  refine Lm rfl rfl rfl ?_
  first | refine Lp rfl (p_sub' rfl rfl rfl (by unfold InI; omega)) ?_ | refine Lp rfl (p_sub rfl rfl rfl) ?_
  refine La rfl rfl rfl ?_
  refine L_then (kp [5] rfl) ?_
  refine Vs rfl ?_
  refine Lm rfl rfl rfl ?_
  refine La rfl rfl rfl ?_
  refine L_then (kp [4] rfl) ?_
  refine V_ret ?_
  refine Leave.nil (.tmp rfl .nil) ?_
  rw [← floor_is hb, if_pos (by omega)]; rfl
 intro c1; try simp only [td] at c1
 refine V_skip (then_n ?_)
 refine Vs rfl ?_
 refine Lm rfl rfl rfl ?_
 refine La rfl rfl rfl ?_
 refine L_then (kp [4] rfl) ?_
 refine V_ret ?_
 refine Leave.nil (.tmp rfl .nil) ?_
 rw [← floor_is hb, if_neg (by omega)]; rfl
theorem froot_c (n : Int) (h0 : 0 ≤ n) (h1 : n ≤ 4611686018427387903) (w : World) : FnP Try.prog 115 [.int .i64 n] w (.int .i64 (rootI n)) := by
 have e0 : (n + 1).tdiv 2 = (n + 1) / 2 := Int.tdiv_eq_ediv_of_nonneg (by omega)
 refine fn_pure Try.func115 rfl (by kernel_rfl) Try.ntmps115 Try.results115 rfl ?_
 refine Vs rfl ?_
 refine La rfl rfl rfl ?_
 refine L_then (kp [0] rfl) ?_
 refine Vs rfl ?_
 iterate 2 refine Lm rfl rfl rfl ?_
 first | refine Lp rfl (p_add' rfl rfl rfl (by unfold InI; omega)) ?_ | refine Lp rfl (p_add rfl rfl rfl) ?_
 refine Lp rfl (p_quo' rfl rfl rfl (by first | decide | omega) (by unfold InI; omega)) ?_
 iterate 2 refine La rfl rfl rfl ?_
 refine L_then (kp [0, 3, 4] rfl) ?_
 refine V_seq ?_
 refine V_block ?_
 refine V_loop0 (γ := Int × Int) (kp [0] rfl) (fun (x, y) => [(3, .int .i64 x), (4, .int .i64 y)]) (fun (x, y) => NewI n x y) (fun (x, y) => x.toNat) ((n, (n + 1).tdiv 2)) (.cons rfl (.cons rfl (.nil _))) ((by rw [e0]; exact NewI.start h0 (by omega))) ?_
 rintro ⟨x, y⟩ hi
 have hnb := hi.bnd
 try dsimp only at hnb
 refine V_seq ?_
 refine Vs rfl ?_
 iterate 2 refine Lm rfl rfl rfl ?_
 refine Lp rfl (p_lss rfl rfl rfl) ?_
 refine L_then (kp [0, 3, 4, 11] rfl) ?_
 refine V_cond rfl ?_ ?_
 ·intro c1; try simp only [td] at c1
  obtain ⟨hy1, hn1⟩ := hi.pos (by omega) (by omega)
  try dsimp only at hy1
  have e1 : n.tdiv y = n / y := Int.tdiv_eq_ediv_of_nonneg h0
  have hd1 := Int.ediv_nonneg h0 (show 0 ≤ y by omega)
  have hd2 := Int.ediv_le_self y h0
  have e2 : (y + n / y).tdiv 2 = (y + n / y) / 2 := Int.tdiv_eq_ediv_of_nonneg (by omega)
  refine V_skip (then_n ?_)
  refine V_block ?_
  refine V_draw (.rd 0 (.rd 1 (.rd 2 (.rd 3 (.rd 4 (.rd 5 (.rd 6 (.rd 7 (.wr 8 [] .done))))))))) mixed (by kernel_rfl) rfl ?_
  iterate 4 refine Dm rfl rfl rfl rfl ?_
  refine Dp rfl rfl (p_quo' rfl rfl rfl (by first | decide | omega) (by unfold InI; omega)) ?_
  first | refine Dp rfl rfl (p_add' rfl rfl rfl (by unfold InI; omega)) ?_ | refine Dp rfl rfl (p_add rfl rfl rfl) ?_
  refine Dp rfl rfl (p_quo' rfl rfl rfl (by first | decide | omega) (by rw [e1, e2]; unfold InI; omega)) ?_
  refine Dp rfl rfl (p_assign rfl rfl) ?_
  refine D_wr (.go (E' := []) rfl (.plain rfl) (rd_wr (RdP.rd (p_assign rfl rfl))) rfl ?_)
  rintro _ _ ⟨rfl, rfl⟩
  refine ⟨.nil, ?_⟩
  refine D_keep (kp [0, 3, 4] rfl) (blk_n (then_n ?_))
  refine ⟨(y, (y + n.tdiv y).tdiv 2), ?_, ?_, (.cons rfl (.cons rfl (.cons rfl (.nil _)))), (by repeat (first | exact List.Sublist.refl _ | apply List.Sublist.cons_cons | apply List.Sublist.cons | apply List.sublist_append_of_sublist_right)), rfl⟩
  ·rw [e1, e2]; exact hi.next (by omega) (by omega)
  dsimp only; omega
 intro c1; try simp only [td] at c1
 refine V_exit (then_e (then_e (blk_e rfl (then_n ?_))))
 refine Vs rfl ?_
 refine Lm rfl rfl rfl ?_
 refine La rfl rfl rfl ?_
 refine L_then (kp [2] rfl) ?_
 refine V_ret ?_
 refine Leave.nil (.tmp rfl .nil) ?_
 rw [← hi.end (by omega) (by omega)]; rfl

end Go.Proofs.Ytbncegfgjbdheaa

/- Ytbncegfgjbdheaa: products, quotients and roots of spans; each. -/
set_option linter.all false
namespace Go.Proofs.Ytbncegfgjbdheaa
open Go.Vc Go.Tk Go.Fl
set_option maxRecDepth 100000
theorem ftimes_c (a b : Span) {A B : Int} (ha : SpB A a) (hb : SpB B b) (hAB : A * B ≤ 4611686018427387903) (w : World) : FnP Try.prog 88 [.agg #[.int .i64 a.lo, .int .i64 a.hi], .agg #[.int .i64 b.lo, .int .i64 b.hi]] w (.agg #[.int .i64 (Fl.mulS a b).lo, .int .i64 (Fl.mulS a b).hi]) := by
 obtain ⟨a1, a2, a3⟩ := ha
 obtain ⟨b1, b2, b3⟩ := hb
 have hA0 : 0 ≤ A := by omega
 have m0 := mul_abs (a := a.lo) (b := b.lo) (A := A) (B := B) hA0 (by omega) (by omega)
 have m1 := mul_abs (a := a.lo) (b := b.hi) (A := A) (B := B) hA0 (by omega) (by omega)
 have m2 := mul_abs (a := a.hi) (b := b.lo) (A := A) (B := B) hA0 (by omega) (by omega)
 have m3 := mul_abs (a := a.hi) (b := b.hi) (A := A) (B := B) hA0 (by omega) (by omega)
 refine fn_pure Try.func88 rfl (by kernel_rfl) Try.ntmps88 Try.results88 rfl ?_
 refine Vs rfl ?_
 refine Lw rfl (w_box rfl rfl) ?_
 rintro _ _ ⟨b1, hb1, rfl, rfl⟩
 refine Lw rfl (w_box rfl rfl) ?_
 rintro _ _ ⟨b2, hb2, rfl, rfl⟩
 refine Lw rfl (w_alloc zr97 rfl) ?_
 rintro _ _ ⟨b3, hb3, rfl, rfl⟩
 refine L_then (kp [2, 3, 4] rfl) ?_
 refine Vs rfl ?_
 refine Lp rfl (p_fieldo fo97_0 rfl rfl) ?_
 refine Lr rfl (rl ag3 rfl rfl rfl) ?_
 refine Lp rfl (p_fieldo fo97_0 rfl rfl) ?_
 refine Lr rfl (rl ag3 rfl rfl rfl) ?_
 refine Lp rfl (p_mul' rfl rfl rfl (by unfold InI; omega)) ?_
 refine Lp rfl (p_fieldo fo97_0 rfl rfl) ?_
 refine Lr rfl (rl ag3 rfl rfl rfl) ?_
 refine Lp rfl (p_fieldo fo97_1 rfl rfl) ?_
 refine Lr rfl (rl ag3 rfl rfl rfl) ?_
 refine Lp rfl (p_mul' rfl rfl rfl (by unfold InI; omega)) ?_
 refine Lp rfl (p_fieldo fo97_1 rfl rfl) ?_
 refine Lr rfl (rl ag3 rfl rfl rfl) ?_
 refine Lp rfl (p_fieldo fo97_0 rfl rfl) ?_
 refine Lr rfl (rl ag3 rfl rfl rfl) ?_
 refine Lp rfl (p_mul' rfl rfl rfl (by unfold InI; omega)) ?_
 refine Lp rfl (p_fieldo fo97_1 rfl rfl) ?_
 refine Lr rfl (rl ag3 rfl rfl rfl) ?_
 refine Lp rfl (p_fieldo fo97_1 rfl rfl) ?_
 refine Lr rfl (rl ag3 rfl rfl rfl) ?_
 refine Lp rfl (p_mul' rfl rfl rfl (by unfold InI; omega)) ?_
 refine Lp rfl (p_buildA (r := [_, _, _, _]) ar178 zr178 rfl rfl rfl) ?_
 refine Lw rfl (w_alloc zr178 rfl) ?_
 rintro _ _ ⟨b4, hb4, rfl, rfl⟩
 refine Ls (cs' := [_, _, _, _]) rfl sz178 rfl rfl rfl rfl rfl rfl rfl ?_
 refine L_then (kp [4, 5] rfl) ?_
 refine V_seq (V_draw (.rd 0 (.rd 2 (.wr 1 [2] (.wr 3 [0] (.rd 4 (.wr 5 [] .done)))))) mixed (by kernel_rfl) rfl ?_)
 iterate 2 refine Dp rfl rfl (p_slArr ar178 rfl rfl (by decide)) ?_
 refine D_wr (.go (E' := []) rfl (.plain rfl) (w_callP rfl rfl rfl (fun w hg => fmin_c [a.lo * b.lo, a.lo * b.hi, a.hi * b.lo, a.hi * b.hi] _ w (own_ints (l := [a.lo * b.lo, a.lo * b.hi, a.hi * b.lo, a.hi * b.hi]) (hg.own (b4, _) (by repeat first | exact mH | apply mT)) rfl (by decide)) (by simp) (by simp))) rfl ?_)
 rintro _ _ ⟨rfl, rfl⟩
 refine ⟨.nil, ?_⟩
 refine D_wr (.go (E' := []) rfl (.plain rfl) (w_callP rfl rfl rfl (fun w hg => fmax_c [a.lo * b.lo, a.lo * b.hi, a.hi * b.lo, a.hi * b.hi] _ w (own_ints (l := [a.lo * b.lo, a.lo * b.hi, a.hi * b.lo, a.hi * b.hi]) (hg.own (b4, _) (by repeat first | exact mH | apply mT)) rfl (by decide)) (by simp) (by simp))) rfl ?_)
 rintro _ _ ⟨rfl, rfl⟩
 refine ⟨.nil, ?_⟩
 refine Dp rfl rfl (p_build (r := [_, _]) pl97 zr97 rfl rfl rfl) ?_
 refine D_wr (.go (E' := []) rfl (.plain rfl) (ws (cs' := [_, _]) sz97 rfl rfl rfl rfl rfl rfl rfl) rfl ?_)
 rintro _ _ ⟨rfl, rfl⟩
 refine ⟨.nil, ?_⟩
 refine D_then (kp [4] rfl) ?_
 refine V_ret ?_
 refine Leave.nil (.cellA (us := [_, _]) rfl ag97 sz97 (by repeat first | exact mH | apply mT) rfl .nil) ?_
 rfl
theorem fover_c (s m : Span) (n : Int) {A : Int} (hs : SpB A s) (hA : A ≤ 4611686018427387903) (hm : 1 ≤ m.lo ∧ m.lo ≤ m.hi ∧ m.hi ≤ 100000) (hn : 1 ≤ n ∧ n ≤ 1000000000) (w : World) : FnP Try.prog 104 [.agg #[.int .i64 s.lo, .int .i64 s.hi], .agg #[.int .i64 m.lo, .int .i64 m.hi], .int .i64 n] w (.agg #[.int .i64 (divS s m n).lo, .int .i64 (divS s m n).hi]) := by
 obtain ⟨h1, h2, h3⟩ := hs
 have p1 := mul_bnd (show 0 ≤ m.lo ∧ m.lo ≤ 100000 by omega) (show 0 ≤ n ∧ n ≤ 1000000000 by omega)
 have p2 := mul_bnd (show 0 ≤ m.hi ∧ m.hi ≤ 100000 by omega) (show 0 ≤ n ∧ n ≤ 1000000000 by omega)
 have q1 : 0 < m.lo * n := Int.mul_pos (by omega) (by omega)
 have q2 : 0 < m.hi * n := Int.mul_pos (by omega) (by omega)
 have d1 := div_size (a := -s.hi) (b := m.lo * n) (by assumption)
 have d2 := div_size (a := -s.hi) (b := m.hi * n) (by assumption)
 refine fn_pure Try.func104 rfl (by kernel_rfl) Try.ntmps104 Try.results104 rfl ?_
 refine Vs rfl ?_
 refine Lw rfl (w_box rfl rfl) ?_
 rintro _ _ ⟨b1, hb1, rfl, rfl⟩
 refine Lw rfl (w_box rfl rfl) ?_
 rintro _ _ ⟨b2, hb2, rfl, rfl⟩
 refine Lw rfl (w_alloc zr97 rfl) ?_
 rintro _ _ ⟨b3, hb3, rfl, rfl⟩
 refine L_then (kp [2, 3, 4, 6] rfl) ?_
 refine V_seq (V_draw (.rd 0 (.rd 1 (.rd 2 (.rd 3 (.rd 4 (.rd 5 .done)))))) mixed (by kernel_rfl) rfl ?_)
 refine Dp rfl rfl (p_fieldo fo97_0 rfl rfl) ?_
 refine Dr rfl rfl (rl ag3 rfl rfl rfl) ?_
 refine Dp rfl rfl (p_fieldo fo97_0 rfl rfl) ?_
 refine Dr rfl rfl (rl ag3 rfl rfl rfl) ?_
 iterate 2 refine Dp rfl rfl (p_assign rfl rfl) ?_
 refine D_then (kp [2, 3, 4, 6, 7, 8] rfl) ?_
 refine V_seq ?_
 refine Vs rfl ?_
 refine Lp rfl (p_fieldo fo97_0 rfl rfl) ?_
 refine Lr rfl (rl ag3 rfl rfl rfl) ?_
 refine Lp rfl (p_gtr rfl rfl rfl) ?_
 refine L_then (kp [2, 3, 4, 6, 7, 8, 15] rfl) ?_
 refine V_cond rfl ?_ ?_
 ·intro c1; try simp only [td] at c1
  refine V_region rfl ?_
  refine Lp rfl (p_fieldo fo97_1 rfl rfl) ?_
  refine Lr rfl (rl ag3 rfl rfl rfl) ?_
  refine La rfl rfl rfl ?_
  refine L_then (kp [2, 3, 4, 6, 7, 8] rfl) ?_
  refine V_seq ?_
  refine Vs rfl ?_
  refine Lp rfl (p_fieldo fo97_1 rfl rfl) ?_
  refine Lr rfl (rl ag3 rfl rfl rfl) ?_
  refine Lp rfl (p_lss rfl rfl rfl) ?_
  refine L_then (kp [2, 3, 4, 6, 7, 8, 20] rfl) ?_
  refine V_cond rfl ?_ ?_
  ·intro c2; try simp only [td] at c2
   refine V_region rfl ?_
   refine Lp rfl (p_fieldo fo97_1 rfl rfl) ?_
   refine Lr rfl (rl ag3 rfl rfl rfl) ?_
   refine La rfl rfl rfl ?_
   refine L_then (kp [2, 3, 6, 7, 8] rfl) ?_
   refine V_seq (V_draw (.rd 0 (.rd 1 (.rd 2 (.rd 3 (.rd 4 (.rd 6 (.rd 7 (.rd 8 (.rd 9 (.rd 10 (.rd 11 (.wr 5 [11, 10, 9, 8, 7, 6, 3, 2, 0] (.wr 12 [10, 9, 7, 6, 4, 3, 2, 1, 0] (.rd 13 (.rd 14 (.wr 15 [] .done)))))))))))))))) mixed (by kernel_rfl) rfl ?_)
   refine Dp rfl rfl (p_fieldo fo97_0 rfl rfl) ?_
   refine Dr rfl rfl (rl ag3 rfl rfl rfl) ?_
   iterate 2 refine Dm rfl rfl rfl rfl ?_
   refine Dp rfl rfl (p_mul' rfl rfl rfl (by unfold InI; omega)) ?_
   refine Dp rfl rfl (p_fieldo fo97_1 rfl rfl) ?_
   refine Dr rfl rfl (rl ag3 rfl rfl rfl) ?_
   first | refine Dp rfl rfl (p_neg' rfl rfl (by unfold InI; omega)) ?_ | refine Dp rfl rfl (p_neg rfl rfl) ?_
   iterate 2 refine Dm rfl rfl rfl rfl ?_
   refine Dp rfl rfl (p_mul' rfl rfl rfl (by unfold InI; omega)) ?_
   refine D_wr (.go (E' := [(7, _)]) rfl (.plain rfl) (w_callP rfl rfl rfl (fun w hg => ffloor_c _ _ (by omega) (by omega) (by omega) w)) rfl ?_)
   rintro _ _ ⟨rfl, rfl⟩
   refine ⟨(.cons rfl (.plain rfl) (rl ag3 rfl rfl rfl) .nil), ?_⟩
   refine D_wr (.go (E' := [(7, _)]) rfl (.plain rfl) (w_callP rfl rfl rfl (fun w hg => ffloor_c _ _ (by omega) (by omega) (by omega) w)) rfl ?_)
   rintro _ _ ⟨rfl, rfl⟩
   refine ⟨(.cons rfl (.plain rfl) (rl ag3 rfl rfl rfl) .nil), ?_⟩
   first | refine Dp rfl rfl (p_neg' rfl rfl (by unfold InI; omega)) ?_ | refine Dp rfl rfl (p_neg rfl rfl) ?_
   refine Dp rfl rfl (p_build (r := [_, _]) pl97 zr97 rfl rfl rfl) ?_
   refine D_wr (.go (E' := []) rfl (.plain rfl) (ws (cs' := [_, _]) sz97 rfl rfl rfl rfl rfl rfl rfl) rfl ?_)
   rintro _ _ ⟨rfl, rfl⟩
   refine ⟨.nil, ?_⟩
   refine D_then (kp [6] rfl) ?_
   refine V_ret ?_
   refine Leave.nil (.cellA (us := [_, _]) rfl ag97 sz97 (by repeat first | exact mH | apply mT) rfl .nil) ?_
   show Value.agg _ = _
   unfold divS
   rw [if_pos (by omega), if_pos (by omega)]
  intro c2; try simp only [td] at c2
  refine V_skip (then_n ?_)
  refine V_seq (V_draw (.rd 0 (.rd 1 (.rd 2 (.rd 3 (.rd 4 (.rd 6 (.rd 7 (.rd 8 (.rd 9 (.rd 10 (.rd 11 (.wr 5 [11, 10, 9, 8, 7, 6, 3, 2, 0] (.wr 12 [10, 9, 7, 6, 4, 3, 2, 1, 0] (.rd 13 (.rd 14 (.wr 15 [] .done)))))))))))))))) mixed (by kernel_rfl) rfl ?_)
  refine Dp rfl rfl (p_fieldo fo97_0 rfl rfl) ?_
  refine Dr rfl rfl (rl ag3 rfl rfl rfl) ?_
  iterate 2 refine Dm rfl rfl rfl rfl ?_
  refine Dp rfl rfl (p_mul' rfl rfl rfl (by unfold InI; omega)) ?_
  refine Dp rfl rfl (p_fieldo fo97_1 rfl rfl) ?_
  refine Dr rfl rfl (rl ag3 rfl rfl rfl) ?_
  first | refine Dp rfl rfl (p_neg' rfl rfl (by unfold InI; omega)) ?_ | refine Dp rfl rfl (p_neg rfl rfl) ?_
  iterate 2 refine Dm rfl rfl rfl rfl ?_
  refine Dp rfl rfl (p_mul' rfl rfl rfl (by unfold InI; omega)) ?_
  refine D_wr (.go (E' := [(7, _)]) rfl (.plain rfl) (w_callP rfl rfl rfl (fun w hg => ffloor_c _ _ (by omega) (by omega) (by omega) w)) rfl ?_)
  rintro _ _ ⟨rfl, rfl⟩
  refine ⟨(.cons rfl (.plain rfl) (rl ag3 rfl rfl rfl) .nil), ?_⟩
  refine D_wr (.go (E' := [(7, _)]) rfl (.plain rfl) (w_callP rfl rfl rfl (fun w hg => ffloor_c _ _ (by omega) (by omega) (by omega) w)) rfl ?_)
  rintro _ _ ⟨rfl, rfl⟩
  refine ⟨(.cons rfl (.plain rfl) (rl ag3 rfl rfl rfl) .nil), ?_⟩
  first | refine Dp rfl rfl (p_neg' rfl rfl (by unfold InI; omega)) ?_ | refine Dp rfl rfl (p_neg rfl rfl) ?_
  refine Dp rfl rfl (p_build (r := [_, _]) pl97 zr97 rfl rfl rfl) ?_
  refine D_wr (.go (E' := []) rfl (.plain rfl) (ws (cs' := [_, _]) sz97 rfl rfl rfl rfl rfl rfl rfl) rfl ?_)
  rintro _ _ ⟨rfl, rfl⟩
  refine ⟨.nil, ?_⟩
  refine D_then (kp [6] rfl) ?_
  refine V_ret ?_
  refine Leave.nil (.cellA (us := [_, _]) rfl ag97 sz97 (by repeat first | exact mH | apply mT) rfl .nil) ?_
  show Value.agg _ = _
  unfold divS
  rw [if_pos (by omega), if_neg (by omega)]
 intro c1; try simp only [td] at c1
 refine V_skip (then_n ?_)
 refine V_seq ?_
 refine Vs rfl ?_
 refine Lp rfl (p_fieldo fo97_1 rfl rfl) ?_
 refine Lr rfl (rl ag3 rfl rfl rfl) ?_
 refine Lp rfl (p_lss rfl rfl rfl) ?_
 refine L_then (kp [2, 3, 4, 6, 7, 8, 20] rfl) ?_
 refine V_cond rfl ?_ ?_
 ·intro c3; try simp only [td] at c3
  refine V_region rfl ?_
  refine Lp rfl (p_fieldo fo97_1 rfl rfl) ?_
  refine Lr rfl (rl ag3 rfl rfl rfl) ?_
  refine La rfl rfl rfl ?_
  refine L_then (kp [2, 3, 6, 7, 8] rfl) ?_
  refine V_seq (V_draw (.rd 0 (.rd 1 (.rd 2 (.rd 3 (.rd 4 (.rd 6 (.rd 7 (.rd 8 (.rd 9 (.rd 10 (.rd 11 (.wr 5 [11, 10, 9, 8, 7, 6, 3, 2, 0] (.wr 12 [10, 9, 7, 6, 4, 3, 2, 1, 0] (.rd 13 (.rd 14 (.wr 15 [] .done)))))))))))))))) mixed (by kernel_rfl) rfl ?_)
  refine Dp rfl rfl (p_fieldo fo97_0 rfl rfl) ?_
  refine Dr rfl rfl (rl ag3 rfl rfl rfl) ?_
  iterate 2 refine Dm rfl rfl rfl rfl ?_
  refine Dp rfl rfl (p_mul' rfl rfl rfl (by unfold InI; omega)) ?_
  refine Dp rfl rfl (p_fieldo fo97_1 rfl rfl) ?_
  refine Dr rfl rfl (rl ag3 rfl rfl rfl) ?_
  first | refine Dp rfl rfl (p_neg' rfl rfl (by unfold InI; omega)) ?_ | refine Dp rfl rfl (p_neg rfl rfl) ?_
  iterate 2 refine Dm rfl rfl rfl rfl ?_
  refine Dp rfl rfl (p_mul' rfl rfl rfl (by unfold InI; omega)) ?_
  refine D_wr (.go (E' := [(7, _)]) rfl (.plain rfl) (w_callP rfl rfl rfl (fun w hg => ffloor_c _ _ (by omega) (by omega) (by omega) w)) rfl ?_)
  rintro _ _ ⟨rfl, rfl⟩
  refine ⟨(.cons rfl (.plain rfl) (rl ag3 rfl rfl rfl) .nil), ?_⟩
  refine D_wr (.go (E' := [(7, _)]) rfl (.plain rfl) (w_callP rfl rfl rfl (fun w hg => ffloor_c _ _ (by omega) (by omega) (by omega) w)) rfl ?_)
  rintro _ _ ⟨rfl, rfl⟩
  refine ⟨(.cons rfl (.plain rfl) (rl ag3 rfl rfl rfl) .nil), ?_⟩
  first | refine Dp rfl rfl (p_neg' rfl rfl (by unfold InI; omega)) ?_ | refine Dp rfl rfl (p_neg rfl rfl) ?_
  refine Dp rfl rfl (p_build (r := [_, _]) pl97 zr97 rfl rfl rfl) ?_
  refine D_wr (.go (E' := []) rfl (.plain rfl) (ws (cs' := [_, _]) sz97 rfl rfl rfl rfl rfl rfl rfl) rfl ?_)
  rintro _ _ ⟨rfl, rfl⟩
  refine ⟨.nil, ?_⟩
  refine D_then (kp [6] rfl) ?_
  refine V_ret ?_
  refine Leave.nil (.cellA (us := [_, _]) rfl ag97 sz97 (by repeat first | exact mH | apply mT) rfl .nil) ?_
  show Value.agg _ = _
  unfold divS
  rw [if_neg (by omega), if_pos (by omega)]
 intro c3; try simp only [td] at c3
 refine V_skip (then_n ?_)
 refine V_seq (V_draw (.rd 0 (.rd 1 (.rd 2 (.rd 3 (.rd 4 (.rd 6 (.rd 7 (.rd 8 (.rd 9 (.rd 10 (.rd 11 (.wr 5 [11, 10, 9, 8, 7, 6, 3, 2, 0] (.wr 12 [10, 9, 7, 6, 4, 3, 2, 1, 0] (.rd 13 (.rd 14 (.wr 15 [] .done)))))))))))))))) mixed (by kernel_rfl) rfl ?_)
 refine Dp rfl rfl (p_fieldo fo97_0 rfl rfl) ?_
 refine Dr rfl rfl (rl ag3 rfl rfl rfl) ?_
 iterate 2 refine Dm rfl rfl rfl rfl ?_
 refine Dp rfl rfl (p_mul' rfl rfl rfl (by unfold InI; omega)) ?_
 refine Dp rfl rfl (p_fieldo fo97_1 rfl rfl) ?_
 refine Dr rfl rfl (rl ag3 rfl rfl rfl) ?_
 first | refine Dp rfl rfl (p_neg' rfl rfl (by unfold InI; omega)) ?_ | refine Dp rfl rfl (p_neg rfl rfl) ?_
 iterate 2 refine Dm rfl rfl rfl rfl ?_
 refine Dp rfl rfl (p_mul' rfl rfl rfl (by unfold InI; omega)) ?_
 refine D_wr (.go (E' := [(7, _)]) rfl (.plain rfl) (w_callP rfl rfl rfl (fun w hg => ffloor_c _ _ (by omega) (by omega) (by omega) w)) rfl ?_)
 rintro _ _ ⟨rfl, rfl⟩
 refine ⟨(.cons rfl (.plain rfl) (rl ag3 rfl rfl rfl) .nil), ?_⟩
 refine D_wr (.go (E' := [(7, _)]) rfl (.plain rfl) (w_callP rfl rfl rfl (fun w hg => ffloor_c _ _ (by omega) (by omega) (by omega) w)) rfl ?_)
 rintro _ _ ⟨rfl, rfl⟩
 refine ⟨(.cons rfl (.plain rfl) (rl ag3 rfl rfl rfl) .nil), ?_⟩
 first | refine Dp rfl rfl (p_neg' rfl rfl (by unfold InI; omega)) ?_ | refine Dp rfl rfl (p_neg rfl rfl) ?_
 refine Dp rfl rfl (p_build (r := [_, _]) pl97 zr97 rfl rfl rfl) ?_
 refine D_wr (.go (E' := []) rfl (.plain rfl) (ws (cs' := [_, _]) sz97 rfl rfl rfl rfl rfl rfl rfl) rfl ?_)
 rintro _ _ ⟨rfl, rfl⟩
 refine ⟨.nil, ?_⟩
 refine D_then (kp [6] rfl) ?_
 refine V_ret ?_
 refine Leave.nil (.cellA (us := [_, _]) rfl ag97 sz97 (by repeat first | exact mH | apply mT) rfl .nil) ?_
 show Value.agg _ = _
 unfold divS
 rw [if_neg (by omega), if_neg (by omega)]
theorem frooted_c (s : Span) (h : 0 ≤ s.lo ∧ s.lo ≤ s.hi ∧ s.hi ≤ 3121200000000) (w : World) : FnP Try.prog 102 [.agg #[.int .i64 s.lo, .int .i64 s.hi]] w (.agg #[.int .i64 (rootS s).lo, .int .i64 (rootS s).hi]) := by
 have r1 := root_bnd (n := s.hi) (B := 1766692) (by omega) (by omega) (by omega) (by omega)
 have r2 := mul_bnd r1 r1
 refine fn_pure Try.func102 rfl (by kernel_rfl) Try.ntmps102 Try.results102 rfl ?_
 refine Vs rfl ?_
 refine Lw rfl (w_box rfl rfl) ?_
 rintro _ _ ⟨b1, hb1, rfl, rfl⟩
 refine Lw rfl (w_alloc zr97 rfl) ?_
 rintro _ _ ⟨b2, hb2, rfl, rfl⟩
 refine L_then (kp [1, 2] rfl) ?_
 refine V_seq (V_draw (.rd 0 (.rd 1 (.rd 3 (.rd 4 (.wr2 2 [4, 3, 0] (.wr2 5 [3, 1, 0] (.rd 6 (.wr 7 [6, 4, 3, 1, 0] (.wr 8 [] .done))) 7 [4, 3, 1, 0] (.wr 5 [3, 1, 0] (.rd 6 (.wr 8 [] .done)))) 7 [4, 3, 1, 0] (.wr 2 [4, 3, 0] (.wr 5 [3, 1, 0] (.rd 6 (.wr 8 [] .done))))))))) mixed (by kernel_rfl) rfl ?_)
 refine Dp rfl rfl (p_fieldo fo97_0 rfl rfl) ?_
 refine Dr rfl rfl (rl ag3 rfl rfl rfl) ?_
 refine Dp rfl rfl (p_fieldo fo97_1 rfl rfl) ?_
 refine Dr rfl rfl (rl ag3 rfl rfl rfl) ?_
 refine D_wr2 rfl ?_ ?_
 ·refine (.go (E' := [(4, _)]) rfl (.plain rfl) (w_callP rfl rfl rfl (fun w hg => froot_c s.lo (by omega) (by omega) w)) rfl ?_)
  rintro _ _ ⟨rfl, rfl⟩
  refine ⟨(.cons rfl (.plain rfl) (rl ag3 rfl rfl rfl) .nil), ?_⟩
  refine D_wr2 rfl ?_ ?_
  ·refine (.go (E' := []) rfl (.plain rfl) (w_callP rfl rfl rfl (fun w hg => froot_c s.hi (by omega) (by omega) w)) rfl ?_)
   rintro _ _ ⟨rfl, rfl⟩
   refine ⟨.nil, ?_⟩
   refine Dp rfl rfl (p_build (r := [_, _]) pl97 zr97 rfl rfl rfl) ?_
   refine D_wr (.go (E' := []) rfl (.plain rfl) (w_alloc zr97 rfl) rfl ?_)
   rintro _ _ ⟨b3, hb3, rfl, rfl⟩
   refine ⟨.nil, ?_⟩
   refine D_wr (.go (E' := []) rfl (.plain rfl) (ws (cs' := [_, _]) sz97 rfl rfl rfl rfl rfl rfl rfl) rfl ?_)
   rintro _ _ ⟨rfl, rfl⟩
   refine ⟨.nil, ?_⟩
   refine D_then (kp [1, 2, 3] rfl) ?_
   refine V_seq ?_
   refine Vs rfl ?_
   refine Lp rfl (p_fieldo fo97_1 rfl rfl) ?_
   refine Lr rfl (rl ag3 rfl rfl rfl) ?_
   refine Lp rfl (p_fieldo fo97_1 rfl rfl) ?_
   refine Lr rfl (rl ag3 rfl rfl rfl) ?_
   refine Lp rfl (p_mul' rfl rfl rfl (by unfold InI; omega)) ?_
   refine Lp rfl (p_fieldo fo97_1 rfl rfl) ?_
   refine Lr rfl (rl ag3 rfl rfl rfl) ?_
   refine Lp rfl (p_lss rfl rfl rfl) ?_
   refine L_then (kp [2, 3, 18] rfl) ?_
   refine V_cond rfl ?_ ?_
   ·intro c1; try simp only [td] at c1
    refine V_region rfl ?_
    refine Lp rfl (p_fieldo fo97_1 rfl rfl) ?_
    refine Lr rfl (rl ag3 rfl rfl rfl) ?_
    first | refine Lp rfl (p_add' rfl rfl rfl (by unfold InI; omega)) ?_ | refine Lp rfl (p_add rfl rfl rfl) ?_
    refine Lp rfl (p_fieldo fo97_1 rfl rfl) ?_
    refine Ls (cs' := [_, _]) rfl sz3 rfl rfl rfl rfl rfl rfl rfl ?_
    refine L_then (kp [2, 3] rfl) ?_
    refine Vs rfl ?_
    refine Lr rfl (rlA (vs := [_, _]) ag97 sz97 rfl rfl rfl) ?_
    refine Ls (cs' := [_, _]) rfl sz97 rfl rfl rfl rfl rfl rfl rfl ?_
    refine L_then (kp [2] rfl) ?_
    refine V_ret ?_
    refine Leave.nil (.cellA (us := [_, _]) rfl ag97 sz97 (by repeat first | exact mH | apply mT) rfl .nil) ?_
    show Value.agg _ = _
    simp only [rootS, rootUp]
    first | rw [if_pos (by omega)] | rw [if_neg (by omega)]
   intro c1; try simp only [td] at c1
   refine V_skip (then_n ?_)
   refine Vs rfl ?_
   refine Lr rfl (rlA (vs := [_, _]) ag97 sz97 rfl rfl rfl) ?_
   refine Ls (cs' := [_, _]) rfl sz97 rfl rfl rfl rfl rfl rfl rfl ?_
   refine L_then (kp [2] rfl) ?_
   refine V_ret ?_
   refine Leave.nil (.cellA (us := [_, _]) rfl ag97 sz97 (by repeat first | exact mH | apply mT) rfl .nil) ?_
   show Value.agg _ = _
   simp only [rootS, rootUp]
   first | rw [if_pos (by omega)] | rw [if_neg (by omega)]
  refine (.go (E' := [(4, _)]) rfl (.plain rfl) (w_alloc zr97 rfl) rfl ?_)
  rintro _ _ ⟨b3, hb3, rfl, rfl⟩
  refine ⟨(.cons rfl (.plain rfl) (rl ag3 rfl rfl rfl) .nil), ?_⟩
  refine D_wr (.go (E' := []) rfl (.plain rfl) (w_callP rfl rfl rfl (fun w hg => froot_c s.hi (by omega) (by omega) w)) rfl ?_)
  rintro _ _ ⟨rfl, rfl⟩
  refine ⟨.nil, ?_⟩
  refine Dp rfl rfl (p_build (r := [_, _]) pl97 zr97 rfl rfl rfl) ?_
  refine D_wr (.go (E' := []) rfl (.plain rfl) (ws (cs' := [_, _]) sz97 rfl rfl rfl rfl rfl rfl rfl) rfl ?_)
  rintro _ _ ⟨rfl, rfl⟩
  refine ⟨.nil, ?_⟩
  refine D_then (kp [1, 2, 3] rfl) ?_
  refine V_seq ?_
  refine Vs rfl ?_
  refine Lp rfl (p_fieldo fo97_1 rfl rfl) ?_
  refine Lr rfl (rl ag3 rfl rfl rfl) ?_
  refine Lp rfl (p_fieldo fo97_1 rfl rfl) ?_
  refine Lr rfl (rl ag3 rfl rfl rfl) ?_
  refine Lp rfl (p_mul' rfl rfl rfl (by unfold InI; omega)) ?_
  refine Lp rfl (p_fieldo fo97_1 rfl rfl) ?_
  refine Lr rfl (rl ag3 rfl rfl rfl) ?_
  refine Lp rfl (p_lss rfl rfl rfl) ?_
  refine L_then (kp [2, 3, 18] rfl) ?_
  refine V_cond rfl ?_ ?_
  ·intro c2; try simp only [td] at c2
   refine V_region rfl ?_
   refine Lp rfl (p_fieldo fo97_1 rfl rfl) ?_
   refine Lr rfl (rl ag3 rfl rfl rfl) ?_
   first | refine Lp rfl (p_add' rfl rfl rfl (by unfold InI; omega)) ?_ | refine Lp rfl (p_add rfl rfl rfl) ?_
   refine Lp rfl (p_fieldo fo97_1 rfl rfl) ?_
   refine Ls (cs' := [_, _]) rfl sz3 rfl rfl rfl rfl rfl rfl rfl ?_
   refine L_then (kp [2, 3] rfl) ?_
   refine Vs rfl ?_
   refine Lr rfl (rlA (vs := [_, _]) ag97 sz97 rfl rfl rfl) ?_
   refine Ls (cs' := [_, _]) rfl sz97 rfl rfl rfl rfl rfl rfl rfl ?_
   refine L_then (kp [2] rfl) ?_
   refine V_ret ?_
   refine Leave.nil (.cellA (us := [_, _]) rfl ag97 sz97 (by repeat first | exact mH | apply mT) rfl .nil) ?_
   show Value.agg _ = _
   simp only [rootS, rootUp]
   first | rw [if_pos (by omega)] | rw [if_neg (by omega)]
  intro c2; try simp only [td] at c2
  refine V_skip (then_n ?_)
  refine Vs rfl ?_
  refine Lr rfl (rlA (vs := [_, _]) ag97 sz97 rfl rfl rfl) ?_
  refine Ls (cs' := [_, _]) rfl sz97 rfl rfl rfl rfl rfl rfl rfl ?_
  refine L_then (kp [2] rfl) ?_
  refine V_ret ?_
  refine Leave.nil (.cellA (us := [_, _]) rfl ag97 sz97 (by repeat first | exact mH | apply mT) rfl .nil) ?_
  show Value.agg _ = _
  simp only [rootS, rootUp]
  first | rw [if_pos (by omega)] | rw [if_neg (by omega)]
 refine (.go (E' := [(4, _), (1, _)]) rfl (.plain rfl) (w_alloc zr97 rfl) rfl ?_)
 rintro _ _ ⟨b3, hb3, rfl, rfl⟩
 refine ⟨(.cons rfl (.plain rfl) (rl ag3 rfl rfl rfl) (.cons rfl (.plain rfl) (rl ag3 rfl rfl rfl) .nil)), ?_⟩
 refine D_wr (.go (E' := [(4, _)]) rfl (.plain rfl) (w_callP rfl rfl rfl (fun w hg => froot_c s.lo (by omega) (by omega) w)) rfl ?_)
 rintro _ _ ⟨rfl, rfl⟩
 refine ⟨(.cons rfl (.plain rfl) (rl ag3 rfl rfl rfl) .nil), ?_⟩
 refine D_wr (.go (E' := []) rfl (.plain rfl) (w_callP rfl rfl rfl (fun w hg => froot_c s.hi (by omega) (by omega) w)) rfl ?_)
 rintro _ _ ⟨rfl, rfl⟩
 refine ⟨.nil, ?_⟩
 refine Dp rfl rfl (p_build (r := [_, _]) pl97 zr97 rfl rfl rfl) ?_
 refine D_wr (.go (E' := []) rfl (.plain rfl) (ws (cs' := [_, _]) sz97 rfl rfl rfl rfl rfl rfl rfl) rfl ?_)
 rintro _ _ ⟨rfl, rfl⟩
 refine ⟨.nil, ?_⟩
 refine D_then (kp [1, 2, 3] rfl) ?_
 refine V_seq ?_
 refine Vs rfl ?_
 refine Lp rfl (p_fieldo fo97_1 rfl rfl) ?_
 refine Lr rfl (rl ag3 rfl rfl rfl) ?_
 refine Lp rfl (p_fieldo fo97_1 rfl rfl) ?_
 refine Lr rfl (rl ag3 rfl rfl rfl) ?_
 refine Lp rfl (p_mul' rfl rfl rfl (by unfold InI; omega)) ?_
 refine Lp rfl (p_fieldo fo97_1 rfl rfl) ?_
 refine Lr rfl (rl ag3 rfl rfl rfl) ?_
 refine Lp rfl (p_lss rfl rfl rfl) ?_
 refine L_then (kp [2, 3, 18] rfl) ?_
 refine V_cond rfl ?_ ?_
 ·intro c3; try simp only [td] at c3
  refine V_region rfl ?_
  refine Lp rfl (p_fieldo fo97_1 rfl rfl) ?_
  refine Lr rfl (rl ag3 rfl rfl rfl) ?_
  first | refine Lp rfl (p_add' rfl rfl rfl (by unfold InI; omega)) ?_ | refine Lp rfl (p_add rfl rfl rfl) ?_
  refine Lp rfl (p_fieldo fo97_1 rfl rfl) ?_
  refine Ls (cs' := [_, _]) rfl sz3 rfl rfl rfl rfl rfl rfl rfl ?_
  refine L_then (kp [2, 3] rfl) ?_
  refine Vs rfl ?_
  refine Lr rfl (rlA (vs := [_, _]) ag97 sz97 rfl rfl rfl) ?_
  refine Ls (cs' := [_, _]) rfl sz97 rfl rfl rfl rfl rfl rfl rfl ?_
  refine L_then (kp [2] rfl) ?_
  refine V_ret ?_
  refine Leave.nil (.cellA (us := [_, _]) rfl ag97 sz97 (by repeat first | exact mH | apply mT) rfl .nil) ?_
  show Value.agg _ = _
  simp only [rootS, rootUp]
  first | rw [if_pos (by omega)] | rw [if_neg (by omega)]
 intro c3; try simp only [td] at c3
 refine V_skip (then_n ?_)
 refine Vs rfl ?_
 refine Lr rfl (rlA (vs := [_, _]) ag97 sz97 rfl rfl rfl) ?_
 refine Ls (cs' := [_, _]) rfl sz97 rfl rfl rfl rfl rfl rfl rfl ?_
 refine L_then (kp [2] rfl) ?_
 refine V_ret ?_
 refine Leave.nil (.cellA (us := [_, _]) rfl ag97 sz97 (by repeat first | exact mH | apply mT) rfl .nil) ?_
 show Value.agg _ = _
 simp only [rootS, rootUp]
 first | rw [if_pos (by omega)] | rw [if_neg (by omega)]
theorem feach_c (a b r : Ax) (fid : Nat) (cap : Array Value) (w : World) (hx : ∀ w', Ext w w' → FnP Try.prog fid ([.agg #[.int .i64 a.x.lo, .int .i64 a.x.hi], .agg #[.int .i64 b.x.lo, .int .i64 b.x.hi]] ++ cap.toList) w' (.agg #[.int .i64 r.x.lo, .int .i64 r.x.hi])) (hy : ∀ w', Ext w w' → FnP Try.prog fid ([.agg #[.int .i64 a.y.lo, .int .i64 a.y.hi], .agg #[.int .i64 b.y.lo, .int .i64 b.y.hi]] ++ cap.toList) w' (.agg #[.int .i64 r.y.lo, .int .i64 r.y.hi])) (hz : ∀ w', Ext w w' → FnP Try.prog fid ([.agg #[.int .i64 a.z.lo, .int .i64 a.z.hi], .agg #[.int .i64 b.z.lo, .int .i64 b.z.hi]] ++ cap.toList) w' (.agg #[.int .i64 r.z.lo, .int .i64 r.z.hi])) : FnP Try.prog 91 [.agg #[.int .i64 a.x.lo, .int .i64 a.x.hi, .int .i64 a.y.lo, .int .i64 a.y.hi, .int .i64 a.z.lo, .int .i64 a.z.hi], .agg #[.int .i64 b.x.lo, .int .i64 b.x.hi, .int .i64 b.y.lo, .int .i64 b.y.hi, .int .i64 b.z.lo, .int .i64 b.z.hi], .func (.func fid) #[] cap] w (.agg #[.int .i64 r.x.lo, .int .i64 r.x.hi, .int .i64 r.y.lo, .int .i64 r.y.hi, .int .i64 r.z.lo, .int .i64 r.z.hi]) := by
 refine fn_pure Try.func91 rfl (by kernel_rfl) Try.ntmps91 Try.results91 rfl ?_
 refine Vs rfl ?_
 refine Lw rfl (w_box rfl rfl) ?_
 rintro _ _ ⟨b1, hb1, rfl, rfl⟩
 refine Lw rfl (w_box rfl rfl) ?_
 rintro _ _ ⟨b2, hb2, rfl, rfl⟩
 refine Lw rfl (w_alloc zr103 rfl) ?_
 rintro _ _ ⟨b3, hb3, rfl, rfl⟩
 refine L_then (kp [2, 3, 4, 6] rfl) ?_
 refine V_seq ?_
 refine Vs rfl ?_
 refine Lm rfl rfl rfl ?_
 refine L_then (kp [2, 3, 4, 6, 8] rfl) ?_
 refine V_block ?_
 refine V_loopU ?_
 refine LU_step ?_
 refine Vs rfl ?_
 refine Lp rfl (p_lss rfl rfl rfl) ?_
 refine L_then (kp [2, 3, 4, 6, 8, 9] rfl) ?_
 refine V_seq ?_
 refine V_cond_t rfl rfl ?_
 refine V_skip (then_n ?_)
 refine V_seq ?_
 refine V_block ?_
 refine Vs rfl ?_
 refine Lm rfl rfl rfl ?_
 refine La rfl rfl rfl ?_
 refine L_then (kp [2, 3, 4, 6, 7, 8] rfl) ?_
 refine V_draw (.rd 0 (.rd 1 (.rd 2 (.rd 3 (.rd 4 (.rd 5 (.rd 6 (.rd 7 (.wr 8 [6, 5, 3, 2, 0] (.rd 9 (.wr 10 [] .done))))))))))) mixed (by kernel_rfl) rfl ?_
 iterate 3 refine Dm rfl rfl rfl rfl ?_
 refine Dp rfl rfl (p_idxao ar103 rfl rfl rfl (by omega) (by omega)) ?_
 refine Dr rfl rfl (rlA (vs := [_, _]) ag97 sz97 rfl rfl rfl) ?_
 refine Dm rfl rfl rfl rfl ?_
 refine Dp rfl rfl (p_idxao ar103 rfl rfl rfl (by omega) (by omega)) ?_
 refine Dr rfl rfl (rlA (vs := [_, _]) ag97 sz97 rfl rfl rfl) ?_
 refine D_wr (.go (E' := []) rfl (.plain rfl) (w_callP rfl rfl rfl (fun w hg => hx _ hg.toExt)) rfl ?_)
 rintro _ _ ⟨rfl, rfl⟩
 refine ⟨.nil, ?_⟩
 refine Dp rfl rfl (p_idxao ar103 rfl rfl rfl (by omega) (by omega)) ?_
 refine D_wr (.go (E' := []) rfl (.plain rfl) (ws (cs' := [_, _, _, _, _, _]) sz97 rfl rfl rfl rfl rfl rfl rfl) rfl ?_)
 rintro _ _ ⟨rfl, rfl⟩
 refine ⟨.nil, ?_⟩
 refine D_keep (kp [2, 3, 4, 6, 8] rfl) (blk_n (then_n ?_))
 refine V_region rfl ?_
 first | refine Lp rfl (p_add' rfl rfl rfl (by unfold InI; omega)) ?_ | refine Lp rfl (p_add rfl rfl rfl) ?_
 refine Lm rfl rfl rfl ?_
 refine L_keep (kp [2, 3, 4, 6, 8] rfl) (then_n ?_)
 refine LU_step ?_
 refine Vs rfl ?_
 refine Lp rfl (p_lss rfl rfl rfl) ?_
 refine L_then (kp [2, 3, 4, 6, 8, 9] rfl) ?_
 refine V_seq ?_
 refine V_cond_t rfl rfl ?_
 refine V_skip (then_n ?_)
 refine V_seq ?_
 refine V_block ?_
 refine Vs rfl ?_
 refine Lm rfl rfl rfl ?_
 refine La rfl rfl rfl ?_
 refine L_then (kp [2, 3, 4, 6, 7, 8] rfl) ?_
 refine V_draw (.rd 0 (.rd 1 (.rd 2 (.rd 3 (.rd 4 (.rd 5 (.rd 6 (.rd 7 (.wr 8 [6, 5, 3, 2, 0] (.rd 9 (.wr 10 [] .done))))))))))) mixed (by kernel_rfl) rfl ?_
 iterate 3 refine Dm rfl rfl rfl rfl ?_
 refine Dp rfl rfl (p_idxao ar103 rfl rfl rfl (by omega) (by omega)) ?_
 refine Dr rfl rfl (rlA (vs := [_, _]) ag97 sz97 rfl rfl rfl) ?_
 refine Dm rfl rfl rfl rfl ?_
 refine Dp rfl rfl (p_idxao ar103 rfl rfl rfl (by omega) (by omega)) ?_
 refine Dr rfl rfl (rlA (vs := [_, _]) ag97 sz97 rfl rfl rfl) ?_
 refine D_wr (.go (E' := []) rfl (.plain rfl) (w_callP rfl rfl rfl (fun w hg => hy _ hg.toExt)) rfl ?_)
 rintro _ _ ⟨rfl, rfl⟩
 refine ⟨.nil, ?_⟩
 refine Dp rfl rfl (p_idxao ar103 rfl rfl rfl (by omega) (by omega)) ?_
 refine D_wr (.go (E' := []) rfl (.plain rfl) (ws (cs' := [_, _, _, _, _, _]) sz97 rfl rfl rfl rfl rfl rfl rfl) rfl ?_)
 rintro _ _ ⟨rfl, rfl⟩
 refine ⟨.nil, ?_⟩
 refine D_keep (kp [2, 3, 4, 6, 8] rfl) (blk_n (then_n ?_))
 refine V_region rfl ?_
 first | refine Lp rfl (p_add' rfl rfl rfl (by unfold InI; omega)) ?_ | refine Lp rfl (p_add rfl rfl rfl) ?_
 refine Lm rfl rfl rfl ?_
 refine L_keep (kp [2, 3, 4, 6, 8] rfl) (then_n ?_)
 refine LU_step ?_
 refine Vs rfl ?_
 refine Lp rfl (p_lss rfl rfl rfl) ?_
 refine L_then (kp [2, 3, 4, 6, 8, 9] rfl) ?_
 refine V_seq ?_
 refine V_cond_t rfl rfl ?_
 refine V_skip (then_n ?_)
 refine V_seq ?_
 refine V_block ?_
 refine Vs rfl ?_
 refine Lm rfl rfl rfl ?_
 refine La rfl rfl rfl ?_
 refine L_then (kp [2, 3, 4, 6, 7, 8] rfl) ?_
 refine V_draw (.rd 0 (.rd 1 (.rd 2 (.rd 3 (.rd 4 (.rd 5 (.rd 6 (.rd 7 (.wr 8 [6, 5, 3, 2, 0] (.rd 9 (.wr 10 [] .done))))))))))) mixed (by kernel_rfl) rfl ?_
 iterate 3 refine Dm rfl rfl rfl rfl ?_
 refine Dp rfl rfl (p_idxao ar103 rfl rfl rfl (by omega) (by omega)) ?_
 refine Dr rfl rfl (rlA (vs := [_, _]) ag97 sz97 rfl rfl rfl) ?_
 refine Dm rfl rfl rfl rfl ?_
 refine Dp rfl rfl (p_idxao ar103 rfl rfl rfl (by omega) (by omega)) ?_
 refine Dr rfl rfl (rlA (vs := [_, _]) ag97 sz97 rfl rfl rfl) ?_
 refine D_wr (.go (E' := []) rfl (.plain rfl) (w_callP rfl rfl rfl (fun w hg => hz _ hg.toExt)) rfl ?_)
 rintro _ _ ⟨rfl, rfl⟩
 refine ⟨.nil, ?_⟩
 refine Dp rfl rfl (p_idxao ar103 rfl rfl rfl (by omega) (by omega)) ?_
 refine D_wr (.go (E' := []) rfl (.plain rfl) (ws (cs' := [_, _, _, _, _, _]) sz97 rfl rfl rfl rfl rfl rfl rfl) rfl ?_)
 rintro _ _ ⟨rfl, rfl⟩
 refine ⟨.nil, ?_⟩
 refine D_keep (kp [2, 3, 4, 6, 8] rfl) (blk_n (then_n ?_))
 refine V_region rfl ?_
 first | refine Lp rfl (p_add' rfl rfl rfl (by unfold InI; omega)) ?_ | refine Lp rfl (p_add rfl rfl rfl) ?_
 refine Lm rfl rfl rfl ?_
 refine L_keep (kp [2, 3, 4, 6, 8] rfl) (then_n ?_)
 refine LU_step ?_
 refine Vs rfl ?_
 refine Lp rfl (p_lss rfl rfl rfl) ?_
 refine L_then (kp [2, 3, 4, 6, 8, 9] rfl) ?_
 refine V_seq ?_
 refine V_cond_f rfl rfl ?_
 refine V_exit (then_e (then_e (blk_e rfl (then_n ?_))))
 refine Vs rfl ?_
 refine Lr rfl (rlA (vs := [_, _, _, _, _, _]) ag103 sz103 rfl rfl rfl) ?_
 refine Ls (cs' := [_, _, _, _, _, _]) rfl sz103 rfl rfl rfl rfl rfl rfl rfl ?_
 refine L_then (kp [6] rfl) ?_
 refine V_ret ?_
 refine Leave.nil (.cellA (us := [_, _, _, _, _, _]) rfl ag103 sz103 (by repeat first | exact mH | apply mT) rfl .nil) ?_
 rfl

end Go.Proofs.Ytbncegfgjbdheaa

/- Ytbncegfgjbdheaa: vehicles, directions and bands checked. -/
set_option linter.all false
namespace Go.Proofs.Ytbncegfgjbdheaa
open Go.Vc Go.Tk Go.Fl
set_option maxRecDepth 100000
theorem fchk1_c (y x : Fl.Piece) (b ty : Nat) (fr : Nat × Nat) (w : World) (hb : w.heap[b]? = some (.cells (Fl.Piece.cells x).toArray ty fr)) : FnP Try.prog 43 [.agg (Fl.Piece.cells y).toArray, .pointer (some ⟨b, 0, none⟩)] w (.bool (decide (y.name = x.name))) := by
 refine fn_pure Try.func43 rfl (by kernel_rfl) Try.ntmps43 Try.results43 rfl ?_
 refine Vs rfl ?_
 refine Lw rfl (w_box rfl rfl) ?_
 rintro _ _ ⟨b1, hb1, rfl, rfl⟩
 refine La rfl rfl rfl ?_
 refine L_then (kp [1, 2] rfl) ?_
 refine Vs rfl ?_
 refine Lp rfl (p_fieldo fo49_0 rfl rfl) ?_
 refine Lr rfl (rl ag9 rfl rfl rfl) ?_
 refine Lp rfl (p_fieldo fo49_0 rfl rfl) ?_
 refine Lr rfl (r_loadB ag9 rfl rfl (own_cell hb _) List.not_mem_nil) ?_
 refine Lp rfl (p_eqls rfl rfl rfl) ?_
 refine La rfl rfl rfl ?_
 refine L_then (kp [3] rfl) ?_
 refine V_ret ?_
 refine Leave.nil (.tmp rfl .nil) ?_
 rfl
set_option maxHeartbeats 8000000 in
theorem fcheck_c (v : Veh) (x : Value) (w : World) (hv : VehR w x v) : FnP Try.prog 11 [x] w (.tuple #[.int .i64 (checkV v).1, .int .i64 (checkV v).2.1, .int .i64 (checkV v).2.2]) := by
 have hV := hv
 obtain ⟨av, pv, qv, rfl, hsa, hsp, hsq⟩ := hv.ex
 obtain ⟨aa, ac, rfl, hac, hae⟩ := hsa.ex
 obtain ⟨pa, pc, rfl, hpc, hpe⟩ := hsp.ex
 obtain ⟨qa, qc, rfl, hqc, hqe⟩ := hsq.ex
 have hla := hV.la
 have hlp := hV.lp
 have hlq := hV.lq
 have hnm := hV.name
 simp only [List.length_map] at hV hac hpc hqc hsq hsp hsa ⊢
 refine fn_pure Try.func11 rfl (by kernel_rfl) Try.ntmps11 Try.results11 rfl ?_
 refine Vs rfl ?_
 refine Lw rfl (w_box rfl rfl) ?_
 rintro _ _ ⟨b1, hb1, rfl, rfl⟩
 iterate 3 refine La rfl rfl rfl ?_
 refine L_then (kp [1] rfl) ?_
 refine V_seq ?_
 refine V_block ?_
 refine Vs rfl ?_
 refine Lp rfl (p_fieldo fo28_0 rfl rfl) ?_
 refine Lr rfl (rl ag9 rfl rfl rfl) ?_
 refine Lc rfl rfl rfl rfl (fun w hg => wname_c _ (by first | exact hnm | exact hV.pname _) w) ?_
 refine Lp rfl (p_not rfl rfl) ?_
 refine La rfl rfl rfl ?_
 refine L_then (kp [1, 11] rfl) ?_
 refine V_cond rfl ?_ ?_
 ·intro c1; try simp only [td] at c1
  refine Vs rfl ?_
  iterate 3 refine La rfl rfl rfl ?_
  refine L_then (kp [2, 3, 4] rfl) ?_
  refine V_ret (blk_r (then_r ?_))
  refine Leave.nil (.tmp rfl (.tmp rfl (.tmp rfl .nil))) ?_
  rw [checkV_name (by assumption)]; rfl
 intro c1; try simp only [td] at c1
 refine Vs rfl ?_
 refine Lp rfl (p_fieldo fo28_1 rfl rfl) ?_
 refine Lr rfl (rlA (vs := [_, _]) ag23 sz23 rfl rfl rfl) ?_
 refine Lc rfl rfl rfl rfl (fun w hg => fbeyond_c v.gravity _ _ w) ?_
 refine La rfl rfl rfl ?_
 refine L_then (kp [1, 16] rfl) ?_
 refine V_cond rfl ?_ ?_
 ·intro c2; try simp only [td] at c2
  refine Vs rfl ?_
  iterate 3 refine La rfl rfl rfl ?_
  refine L_then (kp [2, 3, 4] rfl) ?_
  refine V_ret (blk_r (then_r ?_))
  refine Leave.nil (.tmp rfl (.tmp rfl (.tmp rfl .nil))) ?_
  rw [checkV_grav (by assumption) (by assumption)]; rfl
 intro c2; try simp only [td] at c2
 refine Vs rfl ?_
 refine Lp rfl (p_fieldo fo28_2 rfl rfl) ?_
 refine Lr rfl (rl ag24 rfl rfl rfl) ?_
 refine Lp rfl (p_len isl24 rfl rfl) ?_
 refine Lp rfl (p_gtr rfl rfl rfl) ?_
 refine La rfl rfl rfl ?_
 refine L_then (kp [1, 20] rfl) ?_
 refine V_cond rfl ?_ ?_
 ·intro c3; try simp only [td] at c3
  refine Vs rfl ?_
  iterate 3 refine La rfl rfl rfl ?_
  refine L_then (kp [2, 3, 4] rfl) ?_
  refine V_ret (blk_r (then_r ?_))
  refine Leave.nil (.tmp rfl (.tmp rfl (.tmp rfl .nil))) ?_
  rw [checkV_long (by assumption) (by assumption) (by omega)]; rfl
 intro c3; try simp only [td] at c3
 have hd : HeadV v := ⟨by assumption, by assumption, by omega⟩
 refine V_skip (blk_n (then_n ?_))
 refine V_seq ?_
 refine Vs rfl ?_
 refine Lp rfl (p_fieldo fo28_2 rfl rfl) ?_
 refine Lr rfl (rl ag24 rfl rfl rfl) ?_
 refine Lp rfl (p_len isl24 rfl rfl) ?_
 refine Lm rfl rfl rfl ?_
 refine L_then (kp [1, 26, 27, 28] rfl) ?_
 refine V_block ?_
 refine V_loop0 (γ := Int) (kp [1, 26, 27] rfl) (fun k => [(28, .int .i64 k)]) (fun k => 0 ≤ k ∧ k ≤ v.air.length ∧ ∀ j : Nat, (j : Int) < k → errAir v j = 0) (fun k => (v.air.length - k).toNat) (0) (.cons rfl (.nil _)) (⟨by omega, by omega, fun j hj => by omega⟩) ?_
 rintro k hi
 obtain ⟨hk0, hk1, hkp⟩ := hi
 refine Vs rfl ?_
 refine Lp rfl (p_lss rfl rfl rfl) ?_
 refine L_then (kp [1, 26, 27, 28, 29] rfl) ?_
 refine V_seq ?_
 refine V_cond rfl ?_ ?_
 ·intro c4; try simp only [td] at c4
  obtain ⟨tb, rfl, hc⟩ := hae k.toNat _ (getD_cells (d := airZ) (by omega))
  have hc2 : 0 < k → cellsAt w (tb.add ((k - 1).toNat * 2)) (AirE.cells (v.air.getD (k - 1).toNat airZ)) := fun h => by
   obtain ⟨b9, e9, h9⟩ := hae (k - 1).toNat _ (getD_cells (d := airZ) (by omega))
   injection e9 with e9
   subst e9; exact h9
  refine V_skip (then_n ?_)
  refine V_seq ?_
  refine V_block ?_
  refine Vs rfl ?_
  refine Lm rfl rfl rfl ?_
  refine Lp rfl (p_idx es24 rfl rfl rfl (by omega) (by omega)) ?_
  refine Lr rfl (r_loadBA ag100 sz100 rfl rfl hc rfl List.not_mem_nil) ?_
  refine Lw rfl (w_alloc zr100 rfl) ?_
  rintro _ _ ⟨b2, hb2, rfl, rfl⟩
  refine La rfl rfl rfl ?_
  refine Ls (cs' := [_, _]) rfl sz100 rfl rfl rfl rfl rfl rfl rfl ?_
  refine L_then (kp [1, 5, 6, 26, 27, 28] rfl) ?_
  refine V_block ?_
  refine V_seq (V_draw (.rd 0 (.rd 1 (.rd 2 (.rd 3 (.rd 4 (.rd 5 (.rd 6 (.rd 7 (.rd 8 (.rd 9 (.rd 10 (.rd 11 (.rd 12 (.rd 13 (.rd 14 (.rd 15 (.rd 16 (.rd 17 (.rd 18 (.rd 19 (.rd 20 (.rd 21 (.rd 22 (.rd 23 .done)))))))))))))))))))))))) mixed (by kernel_rfl) rfl ?_)
  refine Dm rfl rfl rfl rfl ?_
  refine Dp rfl rfl (p_eql rfl rfl rfl) ?_
  refine Dm rfl rfl rfl rfl ?_
  refine D_cases (d := 36) rfl ?_ ?_
  ·intro g1; have g1' := g1; try simp only [td] at g1'
   refine D_p rfl (.yes rfl rfl rfl g1) (p_fieldo fo100_0 rfl rfl) ?_
   refine D_rd rfl (.yes rfl rfl rfl g1) (rl ag3 rfl rfl rfl) ?_
   refine D_p rfl (.yes rfl rfl rfl g1) (p_neq rfl rfl rfl) ?_
   refine Dp rfl rfl (p_pick_t rfl rfl g1 rfl) ?_
   refine Dm rfl rfl rfl rfl ?_
   refine D_cases (d := 41) rfl ?_ ?_
   ·intro g2; have g2' := g2; try simp only [td] at g2'
    iterate 3 refine D_no rfl (.mk' rfl rfl rfl g2) ?_
    iterate 10 refine D_no rfl (.und rfl rfl rfl) ?_
    refine D_no rfl (.mk' rfl rfl rfl g2) ?_
    refine Dp rfl rfl (p_pick_t rfl rfl g2 rfl) ?_
    refine Dp rfl rfl (p_assign rfl rfl) ?_
    refine D_then (kp [1, 5, 6, 26, 27, 28, 33] rfl) ?_
    refine V_cond_t rfl rfl ?_
    refine Vs rfl ?_
    refine Lm rfl rfl rfl ?_
    iterate 3 refine La rfl rfl rfl ?_
    refine L_then (kp [2, 3, 4] rfl) ?_
    refine V_ret (blk_r (blk_r (then_r (then_r (blk_r (then_r ?_))))))
    refine Leave.nil (.tmp rfl (.tmp rfl (.tmp rfl .nil))) ?_
    first | (rw [ck_air (e := 2) hd hk0 (by omega) hkp (by unfold errAir Veh.ar; rw [if_pos (by first | exact .inl ⟨by omega, by omega⟩ | exact .inr ⟨by omega, by rw [show k.toNat - 1 = (k - 1).toNat by omega]; omega⟩)]) (by decide)]; rfl) | (have hne : ¬((k.toNat = 0 ∧ (v.air.getD k.toNat airZ).frm ≠ 0) ∨ (0 < k.toNat ∧ (v.air.getD k.toNat airZ).frm ≤ (v.air.getD (k.toNat - 1) airZ).frm)) := (by rw [show k.toNat - 1 = (k - 1).toNat by omega]; rintro (⟨h1, h2⟩ | ⟨h1, h2⟩) <;> omega); rw [ck_air (e := 7) hd hk0 (by omega) hkp (by unfold errAir Veh.ar; rw [if_neg hne, if_pos (by first | exact .inl (by omega) | exact .inr (by assumption))]) (by decide)]; rfl) | (rw [ck_ph hd hk0 ha0 hp12 (by omega) hkp (errPh_7 (by simp only [phBad, Veh.ph, Bool.or_eq_true, Bool.or_eq_false_iff, Bool.false_eq_true, or_true, true_or, or_false, false_or, and_true, true_and, and_self, *]))]; rfl) | (rw [ck_pc (e := 6) hd hk0 ha0 hp12 hp0 hq6 (by omega) hkp (errPc_6 (by assumption)) (by decide)]; rfl) | (rw [ck_pc (e := 5) hd hk0 ha0 hp12 hp0 hq6 (by omega) hkp (errPc_5 (by assumption) hdu) (by decide)]; rfl) | (rw [ck_pc (e := 7) hd hk0 ha0 hp12 hp0 hq6 (by omega) hkp (errPc_7 (by assumption) hdu (by simp only [pcBad, Veh.pc, Bool.or_eq_true, Bool.or_eq_false_iff, Bool.false_eq_true, or_true, true_or, or_false, false_or, and_true, true_and, and_self, *])) (by decide)]; rfl) | (rw [checkV_phs hd ha0 (by assumption)]; rfl) | (rw [checkV_pcs hd ha0 hp12 hp0 (by omega)]; rfl) | (rw [checkV_ok hd ha0 hp12 hp0 hq6 hq0]; rfl)
   intro g2; have g2' := g2; try simp only [td] at g2'
   refine D_p rfl (.yes rfl rfl rfl g2) (p_move rfl rfl) ?_
   refine D_p rfl (.yes rfl rfl rfl g2) (p_gtr rfl rfl rfl) ?_
   refine D_p rfl (.yes rfl rfl rfl g2) (p_move rfl rfl) ?_
   refine D_cases (d := 44) rfl ?_ ?_
   ·intro g3; have g3' := g3; try simp only [td] at g3'
    refine D_p rfl (.yes rfl rfl rfl g3) (p_fieldo fo100_0 rfl rfl) ?_
    refine D_rd rfl (.yes rfl rfl rfl g3) (rl ag3 rfl rfl rfl) ?_
    refine D_p rfl (.yes rfl rfl rfl g3) (p_fieldo fo28_2 rfl rfl) ?_
    refine D_rd rfl (.yes rfl rfl rfl g3) (rl ag24 rfl rfl rfl) ?_
    refine D_p rfl (.yes rfl rfl rfl g3) (p_move rfl rfl) ?_
    first | refine D_p rfl (.yes rfl rfl rfl g3) (p_sub' rfl rfl rfl (by unfold InI; omega)) ?_ | refine D_p rfl (.yes rfl rfl rfl g3) (p_sub rfl rfl rfl) ?_
    refine D_p rfl (.yes rfl rfl rfl g3) (p_idx es24 rfl rfl rfl (by omega) (by omega)) ?_
    refine D_p rfl (.yes rfl rfl rfl g3) (p_field fo100_0 rfl rfl) ?_
    refine D_rd rfl (.yes rfl rfl rfl g3) (r_loadB ag3 rfl rfl (hc2 (by omega) 0 _ rfl) List.not_mem_nil) ?_
    refine D_p rfl (.yes rfl rfl rfl g3) (p_leq rfl rfl rfl) ?_
    refine D_p rfl (.yes rfl rfl rfl g2) (p_pick_t rfl rfl g3 rfl) ?_
    refine Dp rfl rfl (p_pick_f rfl rfl g2 rfl) ?_
    refine Dp rfl rfl (p_assign rfl rfl) ?_
    refine D_then (kp [1, 5, 6, 26, 27, 28, 33] rfl) ?_
    refine V_cond rfl ?_ ?_
    ·intro c5; try simp only [td] at c5
     refine Vs rfl ?_
     refine Lm rfl rfl rfl ?_
     iterate 3 refine La rfl rfl rfl ?_
     refine L_then (kp [2, 3, 4] rfl) ?_
     refine V_ret (blk_r (blk_r (then_r (then_r (blk_r (then_r ?_))))))
     refine Leave.nil (.tmp rfl (.tmp rfl (.tmp rfl .nil))) ?_
     first | (rw [ck_air (e := 2) hd hk0 (by omega) hkp (by unfold errAir Veh.ar; rw [if_pos (by first | exact .inl ⟨by omega, by omega⟩ | exact .inr ⟨by omega, by rw [show k.toNat - 1 = (k - 1).toNat by omega]; omega⟩)]) (by decide)]; rfl) | (have hne : ¬((k.toNat = 0 ∧ (v.air.getD k.toNat airZ).frm ≠ 0) ∨ (0 < k.toNat ∧ (v.air.getD k.toNat airZ).frm ≤ (v.air.getD (k.toNat - 1) airZ).frm)) := (by rw [show k.toNat - 1 = (k - 1).toNat by omega]; rintro (⟨h1, h2⟩ | ⟨h1, h2⟩) <;> omega); rw [ck_air (e := 7) hd hk0 (by omega) hkp (by unfold errAir Veh.ar; rw [if_neg hne, if_pos (by first | exact .inl (by omega) | exact .inr (by assumption))]) (by decide)]; rfl) | (rw [ck_ph hd hk0 ha0 hp12 (by omega) hkp (errPh_7 (by simp only [phBad, Veh.ph, Bool.or_eq_true, Bool.or_eq_false_iff, Bool.false_eq_true, or_true, true_or, or_false, false_or, and_true, true_and, and_self, *]))]; rfl) | (rw [ck_pc (e := 6) hd hk0 ha0 hp12 hp0 hq6 (by omega) hkp (errPc_6 (by assumption)) (by decide)]; rfl) | (rw [ck_pc (e := 5) hd hk0 ha0 hp12 hp0 hq6 (by omega) hkp (errPc_5 (by assumption) hdu) (by decide)]; rfl) | (rw [ck_pc (e := 7) hd hk0 ha0 hp12 hp0 hq6 (by omega) hkp (errPc_7 (by assumption) hdu (by simp only [pcBad, Veh.pc, Bool.or_eq_true, Bool.or_eq_false_iff, Bool.false_eq_true, or_true, true_or, or_false, false_or, and_true, true_and, and_self, *])) (by decide)]; rfl) | (rw [checkV_phs hd ha0 (by assumption)]; rfl) | (rw [checkV_pcs hd ha0 hp12 hp0 (by omega)]; rfl) | (rw [checkV_ok hd ha0 hp12 hp0 hq6 hq0]; rfl)
    intro c5; try simp only [td] at c5
    refine Vs rfl ?_
    refine Lp rfl (p_fieldo fo100_0 rfl rfl) ?_
    refine Lr rfl (rl ag3 rfl rfl rfl) ?_
    refine Lp rfl (p_gtr rfl rfl rfl) ?_
    refine Lm rfl rfl rfl ?_
    refine L_cases (d := 62) rfl ?_ ?_
    ·intro g4; have g4' := g4; try simp only [td] at g4'
     iterate 3 refine L_no rfl rfl rfl g4 ?_
     refine Lp rfl (p_pick_t rfl rfl g4 rfl) ?_
     refine La rfl rfl rfl ?_
     refine L_then (kp [1, 5, 26, 27, 28, 58] rfl) ?_
     refine V_cond_t rfl rfl ?_
     refine Vs rfl ?_
     refine Lm rfl rfl rfl ?_
     iterate 3 refine La rfl rfl rfl ?_
     refine L_then (kp [2, 3, 4] rfl) ?_
     refine V_ret (blk_r (blk_r (then_r (then_r (blk_r (then_r ?_))))))
     refine Leave.nil (.tmp rfl (.tmp rfl (.tmp rfl .nil))) ?_
     first | (rw [ck_air (e := 2) hd hk0 (by omega) hkp (by unfold errAir Veh.ar; rw [if_pos (by first | exact .inl ⟨by omega, by omega⟩ | exact .inr ⟨by omega, by rw [show k.toNat - 1 = (k - 1).toNat by omega]; omega⟩)]) (by decide)]; rfl) | (have hne : ¬((k.toNat = 0 ∧ (v.air.getD k.toNat airZ).frm ≠ 0) ∨ (0 < k.toNat ∧ (v.air.getD k.toNat airZ).frm ≤ (v.air.getD (k.toNat - 1) airZ).frm)) := (by rw [show k.toNat - 1 = (k - 1).toNat by omega]; rintro (⟨h1, h2⟩ | ⟨h1, h2⟩) <;> omega); rw [ck_air (e := 7) hd hk0 (by omega) hkp (by unfold errAir Veh.ar; rw [if_neg hne, if_pos (by first | exact .inl (by omega) | exact .inr (by assumption))]) (by decide)]; rfl) | (rw [ck_ph hd hk0 ha0 hp12 (by omega) hkp (errPh_7 (by simp only [phBad, Veh.ph, Bool.or_eq_true, Bool.or_eq_false_iff, Bool.false_eq_true, or_true, true_or, or_false, false_or, and_true, true_and, and_self, *]))]; rfl) | (rw [ck_pc (e := 6) hd hk0 ha0 hp12 hp0 hq6 (by omega) hkp (errPc_6 (by assumption)) (by decide)]; rfl) | (rw [ck_pc (e := 5) hd hk0 ha0 hp12 hp0 hq6 (by omega) hkp (errPc_5 (by assumption) hdu) (by decide)]; rfl) | (rw [ck_pc (e := 7) hd hk0 ha0 hp12 hp0 hq6 (by omega) hkp (errPc_7 (by assumption) hdu (by simp only [pcBad, Veh.pc, Bool.or_eq_true, Bool.or_eq_false_iff, Bool.false_eq_true, or_true, true_or, or_false, false_or, and_true, true_and, and_self, *])) (by decide)]; rfl) | (rw [checkV_phs hd ha0 (by assumption)]; rfl) | (rw [checkV_pcs hd ha0 hp12 hp0 (by omega)]; rfl) | (rw [checkV_ok hd ha0 hp12 hp0 hq6 hq0]; rfl)
    intro g4; have g4' := g4; try simp only [td] at g4'
    refine L_yes rfl rfl rfl g4 (X_p (p_fieldo fo100_1 rfl rfl) ?_)
    refine L_yes rfl rfl rfl g4 (X_rd (rl ag3 rfl rfl rfl) ?_)
    refine L_yes rfl rfl rfl g4 (X_wr (w_callP rfl rfl rfl (fun w hg => fout_c _ _ _ w)) ?_)
    rintro _ _ ⟨rfl, rfl⟩
    refine Lp rfl (p_pick_f rfl rfl g4 rfl) ?_
    refine La rfl rfl rfl ?_
    refine L_then (kp [1, 5, 26, 27, 28, 58] rfl) ?_
    refine V_cond rfl ?_ ?_
    ·intro c6; try simp only [td] at c6
     refine Vs rfl ?_
     refine Lm rfl rfl rfl ?_
     iterate 3 refine La rfl rfl rfl ?_
     refine L_then (kp [2, 3, 4] rfl) ?_
     refine V_ret (blk_r (blk_r (then_r (then_r (blk_r (then_r ?_))))))
     refine Leave.nil (.tmp rfl (.tmp rfl (.tmp rfl .nil))) ?_
     first | (rw [ck_air (e := 2) hd hk0 (by omega) hkp (by unfold errAir Veh.ar; rw [if_pos (by first | exact .inl ⟨by omega, by omega⟩ | exact .inr ⟨by omega, by rw [show k.toNat - 1 = (k - 1).toNat by omega]; omega⟩)]) (by decide)]; rfl) | (have hne : ¬((k.toNat = 0 ∧ (v.air.getD k.toNat airZ).frm ≠ 0) ∨ (0 < k.toNat ∧ (v.air.getD k.toNat airZ).frm ≤ (v.air.getD (k.toNat - 1) airZ).frm)) := (by rw [show k.toNat - 1 = (k - 1).toNat by omega]; rintro (⟨h1, h2⟩ | ⟨h1, h2⟩) <;> omega); rw [ck_air (e := 7) hd hk0 (by omega) hkp (by unfold errAir Veh.ar; rw [if_neg hne, if_pos (by first | exact .inl (by omega) | exact .inr (by assumption))]) (by decide)]; rfl) | (rw [ck_ph hd hk0 ha0 hp12 (by omega) hkp (errPh_7 (by simp only [phBad, Veh.ph, Bool.or_eq_true, Bool.or_eq_false_iff, Bool.false_eq_true, or_true, true_or, or_false, false_or, and_true, true_and, and_self, *]))]; rfl) | (rw [ck_pc (e := 6) hd hk0 ha0 hp12 hp0 hq6 (by omega) hkp (errPc_6 (by assumption)) (by decide)]; rfl) | (rw [ck_pc (e := 5) hd hk0 ha0 hp12 hp0 hq6 (by omega) hkp (errPc_5 (by assumption) hdu) (by decide)]; rfl) | (rw [ck_pc (e := 7) hd hk0 ha0 hp12 hp0 hq6 (by omega) hkp (errPc_7 (by assumption) hdu (by simp only [pcBad, Veh.pc, Bool.or_eq_true, Bool.or_eq_false_iff, Bool.false_eq_true, or_true, true_or, or_false, false_or, and_true, true_and, and_self, *])) (by decide)]; rfl) | (rw [checkV_phs hd ha0 (by assumption)]; rfl) | (rw [checkV_pcs hd ha0 hp12 hp0 (by omega)]; rfl) | (rw [checkV_ok hd ha0 hp12 hp0 hq6 hq0]; rfl)
    intro c6; try simp only [td] at c6
    refine V_skip (blk_n (blk_n (then_n ?_)))
    refine V_region rfl ?_
    first | refine Lp rfl (p_add' rfl rfl rfl (by unfold InI; omega)) ?_ | refine Lp rfl (p_add rfl rfl rfl) ?_
    refine Lm rfl rfl rfl ?_
    refine L_keep (kp [1, 26, 27, 28] rfl) (then_n ?_)
    refine ⟨k + 1, ?_, ?_, (.cons rfl (.cons rfl (.cons rfl (.cons rfl (.nil _))))), (by repeat (first | exact List.Sublist.refl _ | apply List.Sublist.cons_cons | apply List.Sublist.cons | apply List.sublist_append_of_sublist_right)), rfl⟩
    ·refine ⟨by omega, by omega, fun j hj => ?_⟩; by_cases e : (j : Int) < k
     ·exact hkp j e
     have ej : j = k.toNat := by omega
     rw [ej]; exact (by unfold errAir Veh.ar; rw [if_neg (by rw [show k.toNat - 1 = (k - 1).toNat by omega]; rintro (⟨h1, h2⟩ | ⟨h1, h2⟩) <;> omega), if_neg (by rintro (h | h) <;> first | omega | simp_all)])
    omega
   intro g3; have g3' := g3; try simp only [td] at g3'
   iterate 10 refine D_no rfl (.mk' rfl rfl rfl g3) ?_
   refine D_p rfl (.yes rfl rfl rfl g2) (p_pick_f rfl rfl g3 rfl) ?_
   refine Dp rfl rfl (p_pick_f rfl rfl g2 rfl) ?_
   refine Dp rfl rfl (p_assign rfl rfl) ?_
   refine D_then (kp [1, 5, 6, 26, 27, 28, 33] rfl) ?_
   refine V_cond_f rfl rfl ?_
   refine Vs rfl ?_
   refine Lp rfl (p_fieldo fo100_0 rfl rfl) ?_
   refine Lr rfl (rl ag3 rfl rfl rfl) ?_
   refine Lp rfl (p_gtr rfl rfl rfl) ?_
   refine Lm rfl rfl rfl ?_
   refine L_cases (d := 62) rfl ?_ ?_
   ·intro g5; have g5' := g5; try simp only [td] at g5'
    iterate 3 refine L_no rfl rfl rfl g5 ?_
    refine Lp rfl (p_pick_t rfl rfl g5 rfl) ?_
    refine La rfl rfl rfl ?_
    refine L_then (kp [1, 5, 26, 27, 28, 58] rfl) ?_
    refine V_cond_t rfl rfl ?_
    refine Vs rfl ?_
    refine Lm rfl rfl rfl ?_
    iterate 3 refine La rfl rfl rfl ?_
    refine L_then (kp [2, 3, 4] rfl) ?_
    refine V_ret (blk_r (blk_r (then_r (then_r (blk_r (then_r ?_))))))
    refine Leave.nil (.tmp rfl (.tmp rfl (.tmp rfl .nil))) ?_
    first | (rw [ck_air (e := 2) hd hk0 (by omega) hkp (by unfold errAir Veh.ar; rw [if_pos (by first | exact .inl ⟨by omega, by omega⟩ | exact .inr ⟨by omega, by rw [show k.toNat - 1 = (k - 1).toNat by omega]; omega⟩)]) (by decide)]; rfl) | (have hne : ¬((k.toNat = 0 ∧ (v.air.getD k.toNat airZ).frm ≠ 0) ∨ (0 < k.toNat ∧ (v.air.getD k.toNat airZ).frm ≤ (v.air.getD (k.toNat - 1) airZ).frm)) := (by rw [show k.toNat - 1 = (k - 1).toNat by omega]; rintro (⟨h1, h2⟩ | ⟨h1, h2⟩) <;> omega); rw [ck_air (e := 7) hd hk0 (by omega) hkp (by unfold errAir Veh.ar; rw [if_neg hne, if_pos (by first | exact .inl (by omega) | exact .inr (by assumption))]) (by decide)]; rfl) | (rw [ck_ph hd hk0 ha0 hp12 (by omega) hkp (errPh_7 (by simp only [phBad, Veh.ph, Bool.or_eq_true, Bool.or_eq_false_iff, Bool.false_eq_true, or_true, true_or, or_false, false_or, and_true, true_and, and_self, *]))]; rfl) | (rw [ck_pc (e := 6) hd hk0 ha0 hp12 hp0 hq6 (by omega) hkp (errPc_6 (by assumption)) (by decide)]; rfl) | (rw [ck_pc (e := 5) hd hk0 ha0 hp12 hp0 hq6 (by omega) hkp (errPc_5 (by assumption) hdu) (by decide)]; rfl) | (rw [ck_pc (e := 7) hd hk0 ha0 hp12 hp0 hq6 (by omega) hkp (errPc_7 (by assumption) hdu (by simp only [pcBad, Veh.pc, Bool.or_eq_true, Bool.or_eq_false_iff, Bool.false_eq_true, or_true, true_or, or_false, false_or, and_true, true_and, and_self, *])) (by decide)]; rfl) | (rw [checkV_phs hd ha0 (by assumption)]; rfl) | (rw [checkV_pcs hd ha0 hp12 hp0 (by omega)]; rfl) | (rw [checkV_ok hd ha0 hp12 hp0 hq6 hq0]; rfl)
   intro g5; have g5' := g5; try simp only [td] at g5'
   refine L_yes rfl rfl rfl g5 (X_p (p_fieldo fo100_1 rfl rfl) ?_)
   refine L_yes rfl rfl rfl g5 (X_rd (rl ag3 rfl rfl rfl) ?_)
   refine L_yes rfl rfl rfl g5 (X_wr (w_callP rfl rfl rfl (fun w hg => fout_c _ _ _ w)) ?_)
   rintro _ _ ⟨rfl, rfl⟩
   refine Lp rfl (p_pick_f rfl rfl g5 rfl) ?_
   refine La rfl rfl rfl ?_
   refine L_then (kp [1, 5, 26, 27, 28, 58] rfl) ?_
   refine V_cond rfl ?_ ?_
   ·intro c7; try simp only [td] at c7
    refine Vs rfl ?_
    refine Lm rfl rfl rfl ?_
    iterate 3 refine La rfl rfl rfl ?_
    refine L_then (kp [2, 3, 4] rfl) ?_
    refine V_ret (blk_r (blk_r (then_r (then_r (blk_r (then_r ?_))))))
    refine Leave.nil (.tmp rfl (.tmp rfl (.tmp rfl .nil))) ?_
    first | (rw [ck_air (e := 2) hd hk0 (by omega) hkp (by unfold errAir Veh.ar; rw [if_pos (by first | exact .inl ⟨by omega, by omega⟩ | exact .inr ⟨by omega, by rw [show k.toNat - 1 = (k - 1).toNat by omega]; omega⟩)]) (by decide)]; rfl) | (have hne : ¬((k.toNat = 0 ∧ (v.air.getD k.toNat airZ).frm ≠ 0) ∨ (0 < k.toNat ∧ (v.air.getD k.toNat airZ).frm ≤ (v.air.getD (k.toNat - 1) airZ).frm)) := (by rw [show k.toNat - 1 = (k - 1).toNat by omega]; rintro (⟨h1, h2⟩ | ⟨h1, h2⟩) <;> omega); rw [ck_air (e := 7) hd hk0 (by omega) hkp (by unfold errAir Veh.ar; rw [if_neg hne, if_pos (by first | exact .inl (by omega) | exact .inr (by assumption))]) (by decide)]; rfl) | (rw [ck_ph hd hk0 ha0 hp12 (by omega) hkp (errPh_7 (by simp only [phBad, Veh.ph, Bool.or_eq_true, Bool.or_eq_false_iff, Bool.false_eq_true, or_true, true_or, or_false, false_or, and_true, true_and, and_self, *]))]; rfl) | (rw [ck_pc (e := 6) hd hk0 ha0 hp12 hp0 hq6 (by omega) hkp (errPc_6 (by assumption)) (by decide)]; rfl) | (rw [ck_pc (e := 5) hd hk0 ha0 hp12 hp0 hq6 (by omega) hkp (errPc_5 (by assumption) hdu) (by decide)]; rfl) | (rw [ck_pc (e := 7) hd hk0 ha0 hp12 hp0 hq6 (by omega) hkp (errPc_7 (by assumption) hdu (by simp only [pcBad, Veh.pc, Bool.or_eq_true, Bool.or_eq_false_iff, Bool.false_eq_true, or_true, true_or, or_false, false_or, and_true, true_and, and_self, *])) (by decide)]; rfl) | (rw [checkV_phs hd ha0 (by assumption)]; rfl) | (rw [checkV_pcs hd ha0 hp12 hp0 (by omega)]; rfl) | (rw [checkV_ok hd ha0 hp12 hp0 hq6 hq0]; rfl)
   intro c7; try simp only [td] at c7
   refine V_skip (blk_n (blk_n (then_n ?_)))
   refine V_region rfl ?_
   first | refine Lp rfl (p_add' rfl rfl rfl (by unfold InI; omega)) ?_ | refine Lp rfl (p_add rfl rfl rfl) ?_
   refine Lm rfl rfl rfl ?_
   refine L_keep (kp [1, 26, 27, 28] rfl) (then_n ?_)
   refine ⟨k + 1, ?_, ?_, (.cons rfl (.cons rfl (.cons rfl (.cons rfl (.nil _))))), (by repeat (first | exact List.Sublist.refl _ | apply List.Sublist.cons_cons | apply List.Sublist.cons | apply List.sublist_append_of_sublist_right)), rfl⟩
   ·refine ⟨by omega, by omega, fun j hj => ?_⟩; by_cases e : (j : Int) < k
    ·exact hkp j e
    have ej : j = k.toNat := by omega
    rw [ej]; exact (by unfold errAir Veh.ar; rw [if_neg (by rw [show k.toNat - 1 = (k - 1).toNat by omega]; rintro (⟨h1, h2⟩ | ⟨h1, h2⟩) <;> omega), if_neg (by rintro (h | h) <;> first | omega | simp_all)])
   omega
  intro g1; have g1' := g1; try simp only [td] at g1'
  iterate 3 refine D_no rfl (.mk' rfl rfl rfl g1) ?_
  refine Dp rfl rfl (p_pick_f rfl rfl g1 rfl) ?_
  refine Dm rfl rfl rfl rfl ?_
  refine D_p rfl (.yes rfl rfl rfl rfl) (p_move rfl rfl) ?_
  refine D_p rfl (.yes rfl rfl rfl rfl) (p_gtr rfl rfl rfl) ?_
  refine D_p rfl (.yes rfl rfl rfl rfl) (p_move rfl rfl) ?_
  refine D_cases (d := 44) rfl ?_ ?_
  ·intro g6; have g6' := g6; try simp only [td] at g6'
   refine D_p rfl (.yes rfl rfl rfl g6) (p_fieldo fo100_0 rfl rfl) ?_
   refine D_rd rfl (.yes rfl rfl rfl g6) (rl ag3 rfl rfl rfl) ?_
   refine D_p rfl (.yes rfl rfl rfl g6) (p_fieldo fo28_2 rfl rfl) ?_
   refine D_rd rfl (.yes rfl rfl rfl g6) (rl ag24 rfl rfl rfl) ?_
   refine D_p rfl (.yes rfl rfl rfl g6) (p_move rfl rfl) ?_
   first | refine D_p rfl (.yes rfl rfl rfl g6) (p_sub' rfl rfl rfl (by unfold InI; omega)) ?_ | refine D_p rfl (.yes rfl rfl rfl g6) (p_sub rfl rfl rfl) ?_
   refine D_p rfl (.yes rfl rfl rfl g6) (p_idx es24 rfl rfl rfl (by omega) (by omega)) ?_
   refine D_p rfl (.yes rfl rfl rfl g6) (p_field fo100_0 rfl rfl) ?_
   refine D_rd rfl (.yes rfl rfl rfl g6) (r_loadB ag3 rfl rfl (hc2 (by omega) 0 _ rfl) List.not_mem_nil) ?_
   refine D_p rfl (.yes rfl rfl rfl g6) (p_leq rfl rfl rfl) ?_
   refine D_p rfl (.yes rfl rfl rfl rfl) (p_pick_t rfl rfl g6 rfl) ?_
   refine Dp rfl rfl (p_pick_f rfl rfl rfl rfl) ?_
   refine Dp rfl rfl (p_assign rfl rfl) ?_
   refine D_then (kp [1, 5, 6, 26, 27, 28, 33] rfl) ?_
   refine V_cond rfl ?_ ?_
   ·intro c8; try simp only [td] at c8
    refine Vs rfl ?_
    refine Lm rfl rfl rfl ?_
    iterate 3 refine La rfl rfl rfl ?_
    refine L_then (kp [2, 3, 4] rfl) ?_
    refine V_ret (blk_r (blk_r (then_r (then_r (blk_r (then_r ?_))))))
    refine Leave.nil (.tmp rfl (.tmp rfl (.tmp rfl .nil))) ?_
    first | (rw [ck_air (e := 2) hd hk0 (by omega) hkp (by unfold errAir Veh.ar; rw [if_pos (by first | exact .inl ⟨by omega, by omega⟩ | exact .inr ⟨by omega, by rw [show k.toNat - 1 = (k - 1).toNat by omega]; omega⟩)]) (by decide)]; rfl) | (have hne : ¬((k.toNat = 0 ∧ (v.air.getD k.toNat airZ).frm ≠ 0) ∨ (0 < k.toNat ∧ (v.air.getD k.toNat airZ).frm ≤ (v.air.getD (k.toNat - 1) airZ).frm)) := (by rw [show k.toNat - 1 = (k - 1).toNat by omega]; rintro (⟨h1, h2⟩ | ⟨h1, h2⟩) <;> omega); rw [ck_air (e := 7) hd hk0 (by omega) hkp (by unfold errAir Veh.ar; rw [if_neg hne, if_pos (by first | exact .inl (by omega) | exact .inr (by assumption))]) (by decide)]; rfl) | (rw [ck_ph hd hk0 ha0 hp12 (by omega) hkp (errPh_7 (by simp only [phBad, Veh.ph, Bool.or_eq_true, Bool.or_eq_false_iff, Bool.false_eq_true, or_true, true_or, or_false, false_or, and_true, true_and, and_self, *]))]; rfl) | (rw [ck_pc (e := 6) hd hk0 ha0 hp12 hp0 hq6 (by omega) hkp (errPc_6 (by assumption)) (by decide)]; rfl) | (rw [ck_pc (e := 5) hd hk0 ha0 hp12 hp0 hq6 (by omega) hkp (errPc_5 (by assumption) hdu) (by decide)]; rfl) | (rw [ck_pc (e := 7) hd hk0 ha0 hp12 hp0 hq6 (by omega) hkp (errPc_7 (by assumption) hdu (by simp only [pcBad, Veh.pc, Bool.or_eq_true, Bool.or_eq_false_iff, Bool.false_eq_true, or_true, true_or, or_false, false_or, and_true, true_and, and_self, *])) (by decide)]; rfl) | (rw [checkV_phs hd ha0 (by assumption)]; rfl) | (rw [checkV_pcs hd ha0 hp12 hp0 (by omega)]; rfl) | (rw [checkV_ok hd ha0 hp12 hp0 hq6 hq0]; rfl)
   intro c8; try simp only [td] at c8
   refine Vs rfl ?_
   refine Lp rfl (p_fieldo fo100_0 rfl rfl) ?_
   refine Lr rfl (rl ag3 rfl rfl rfl) ?_
   refine Lp rfl (p_gtr rfl rfl rfl) ?_
   refine Lm rfl rfl rfl ?_
   refine L_cases (d := 62) rfl ?_ ?_
   ·intro g7; have g7' := g7; try simp only [td] at g7'
    iterate 3 refine L_no rfl rfl rfl g7 ?_
    refine Lp rfl (p_pick_t rfl rfl g7 rfl) ?_
    refine La rfl rfl rfl ?_
    refine L_then (kp [1, 5, 26, 27, 28, 58] rfl) ?_
    refine V_cond_t rfl rfl ?_
    refine Vs rfl ?_
    refine Lm rfl rfl rfl ?_
    iterate 3 refine La rfl rfl rfl ?_
    refine L_then (kp [2, 3, 4] rfl) ?_
    refine V_ret (blk_r (blk_r (then_r (then_r (blk_r (then_r ?_))))))
    refine Leave.nil (.tmp rfl (.tmp rfl (.tmp rfl .nil))) ?_
    first | (rw [ck_air (e := 2) hd hk0 (by omega) hkp (by unfold errAir Veh.ar; rw [if_pos (by first | exact .inl ⟨by omega, by omega⟩ | exact .inr ⟨by omega, by rw [show k.toNat - 1 = (k - 1).toNat by omega]; omega⟩)]) (by decide)]; rfl) | (have hne : ¬((k.toNat = 0 ∧ (v.air.getD k.toNat airZ).frm ≠ 0) ∨ (0 < k.toNat ∧ (v.air.getD k.toNat airZ).frm ≤ (v.air.getD (k.toNat - 1) airZ).frm)) := (by rw [show k.toNat - 1 = (k - 1).toNat by omega]; rintro (⟨h1, h2⟩ | ⟨h1, h2⟩) <;> omega); rw [ck_air (e := 7) hd hk0 (by omega) hkp (by unfold errAir Veh.ar; rw [if_neg hne, if_pos (by first | exact .inl (by omega) | exact .inr (by assumption))]) (by decide)]; rfl) | (rw [ck_ph hd hk0 ha0 hp12 (by omega) hkp (errPh_7 (by simp only [phBad, Veh.ph, Bool.or_eq_true, Bool.or_eq_false_iff, Bool.false_eq_true, or_true, true_or, or_false, false_or, and_true, true_and, and_self, *]))]; rfl) | (rw [ck_pc (e := 6) hd hk0 ha0 hp12 hp0 hq6 (by omega) hkp (errPc_6 (by assumption)) (by decide)]; rfl) | (rw [ck_pc (e := 5) hd hk0 ha0 hp12 hp0 hq6 (by omega) hkp (errPc_5 (by assumption) hdu) (by decide)]; rfl) | (rw [ck_pc (e := 7) hd hk0 ha0 hp12 hp0 hq6 (by omega) hkp (errPc_7 (by assumption) hdu (by simp only [pcBad, Veh.pc, Bool.or_eq_true, Bool.or_eq_false_iff, Bool.false_eq_true, or_true, true_or, or_false, false_or, and_true, true_and, and_self, *])) (by decide)]; rfl) | (rw [checkV_phs hd ha0 (by assumption)]; rfl) | (rw [checkV_pcs hd ha0 hp12 hp0 (by omega)]; rfl) | (rw [checkV_ok hd ha0 hp12 hp0 hq6 hq0]; rfl)
   intro g7; have g7' := g7; try simp only [td] at g7'
   refine L_yes rfl rfl rfl g7 (X_p (p_fieldo fo100_1 rfl rfl) ?_)
   refine L_yes rfl rfl rfl g7 (X_rd (rl ag3 rfl rfl rfl) ?_)
   refine L_yes rfl rfl rfl g7 (X_wr (w_callP rfl rfl rfl (fun w hg => fout_c _ _ _ w)) ?_)
   rintro _ _ ⟨rfl, rfl⟩
   refine Lp rfl (p_pick_f rfl rfl g7 rfl) ?_
   refine La rfl rfl rfl ?_
   refine L_then (kp [1, 5, 26, 27, 28, 58] rfl) ?_
   refine V_cond rfl ?_ ?_
   ·intro c9; try simp only [td] at c9
    refine Vs rfl ?_
    refine Lm rfl rfl rfl ?_
    iterate 3 refine La rfl rfl rfl ?_
    refine L_then (kp [2, 3, 4] rfl) ?_
    refine V_ret (blk_r (blk_r (then_r (then_r (blk_r (then_r ?_))))))
    refine Leave.nil (.tmp rfl (.tmp rfl (.tmp rfl .nil))) ?_
    first | (rw [ck_air (e := 2) hd hk0 (by omega) hkp (by unfold errAir Veh.ar; rw [if_pos (by first | exact .inl ⟨by omega, by omega⟩ | exact .inr ⟨by omega, by rw [show k.toNat - 1 = (k - 1).toNat by omega]; omega⟩)]) (by decide)]; rfl) | (have hne : ¬((k.toNat = 0 ∧ (v.air.getD k.toNat airZ).frm ≠ 0) ∨ (0 < k.toNat ∧ (v.air.getD k.toNat airZ).frm ≤ (v.air.getD (k.toNat - 1) airZ).frm)) := (by rw [show k.toNat - 1 = (k - 1).toNat by omega]; rintro (⟨h1, h2⟩ | ⟨h1, h2⟩) <;> omega); rw [ck_air (e := 7) hd hk0 (by omega) hkp (by unfold errAir Veh.ar; rw [if_neg hne, if_pos (by first | exact .inl (by omega) | exact .inr (by assumption))]) (by decide)]; rfl) | (rw [ck_ph hd hk0 ha0 hp12 (by omega) hkp (errPh_7 (by simp only [phBad, Veh.ph, Bool.or_eq_true, Bool.or_eq_false_iff, Bool.false_eq_true, or_true, true_or, or_false, false_or, and_true, true_and, and_self, *]))]; rfl) | (rw [ck_pc (e := 6) hd hk0 ha0 hp12 hp0 hq6 (by omega) hkp (errPc_6 (by assumption)) (by decide)]; rfl) | (rw [ck_pc (e := 5) hd hk0 ha0 hp12 hp0 hq6 (by omega) hkp (errPc_5 (by assumption) hdu) (by decide)]; rfl) | (rw [ck_pc (e := 7) hd hk0 ha0 hp12 hp0 hq6 (by omega) hkp (errPc_7 (by assumption) hdu (by simp only [pcBad, Veh.pc, Bool.or_eq_true, Bool.or_eq_false_iff, Bool.false_eq_true, or_true, true_or, or_false, false_or, and_true, true_and, and_self, *])) (by decide)]; rfl) | (rw [checkV_phs hd ha0 (by assumption)]; rfl) | (rw [checkV_pcs hd ha0 hp12 hp0 (by omega)]; rfl) | (rw [checkV_ok hd ha0 hp12 hp0 hq6 hq0]; rfl)
   intro c9; try simp only [td] at c9
   refine V_skip (blk_n (blk_n (then_n ?_)))
   refine V_region rfl ?_
   first | refine Lp rfl (p_add' rfl rfl rfl (by unfold InI; omega)) ?_ | refine Lp rfl (p_add rfl rfl rfl) ?_
   refine Lm rfl rfl rfl ?_
   refine L_keep (kp [1, 26, 27, 28] rfl) (then_n ?_)
   refine ⟨k + 1, ?_, ?_, (.cons rfl (.cons rfl (.cons rfl (.cons rfl (.nil _))))), (by repeat (first | exact List.Sublist.refl _ | apply List.Sublist.cons_cons | apply List.Sublist.cons | apply List.sublist_append_of_sublist_right)), rfl⟩
   ·refine ⟨by omega, by omega, fun j hj => ?_⟩; by_cases e : (j : Int) < k
    ·exact hkp j e
    have ej : j = k.toNat := by omega
    rw [ej]; exact (by unfold errAir Veh.ar; rw [if_neg (by rw [show k.toNat - 1 = (k - 1).toNat by omega]; rintro (⟨h1, h2⟩ | ⟨h1, h2⟩) <;> omega), if_neg (by rintro (h | h) <;> first | omega | simp_all)])
   omega
  intro g6; have g6' := g6; try simp only [td] at g6'
  iterate 10 refine D_no rfl (.mk' rfl rfl rfl g6) ?_
  refine D_p rfl (.yes rfl rfl rfl rfl) (p_pick_f rfl rfl g6 rfl) ?_
  refine Dp rfl rfl (p_pick_f rfl rfl rfl rfl) ?_
  refine Dp rfl rfl (p_assign rfl rfl) ?_
  refine D_then (kp [1, 5, 6, 26, 27, 28, 33] rfl) ?_
  refine V_cond_f rfl rfl ?_
  refine Vs rfl ?_
  refine Lp rfl (p_fieldo fo100_0 rfl rfl) ?_
  refine Lr rfl (rl ag3 rfl rfl rfl) ?_
  refine Lp rfl (p_gtr rfl rfl rfl) ?_
  refine Lm rfl rfl rfl ?_
  refine L_cases (d := 62) rfl ?_ ?_
  ·intro g8; have g8' := g8; try simp only [td] at g8'
   iterate 3 refine L_no rfl rfl rfl g8 ?_
   refine Lp rfl (p_pick_t rfl rfl g8 rfl) ?_
   refine La rfl rfl rfl ?_
   refine L_then (kp [1, 5, 26, 27, 28, 58] rfl) ?_
   refine V_cond_t rfl rfl ?_
   refine Vs rfl ?_
   refine Lm rfl rfl rfl ?_
   iterate 3 refine La rfl rfl rfl ?_
   refine L_then (kp [2, 3, 4] rfl) ?_
   refine V_ret (blk_r (blk_r (then_r (then_r (blk_r (then_r ?_))))))
   refine Leave.nil (.tmp rfl (.tmp rfl (.tmp rfl .nil))) ?_
   first | (rw [ck_air (e := 2) hd hk0 (by omega) hkp (by unfold errAir Veh.ar; rw [if_pos (by first | exact .inl ⟨by omega, by omega⟩ | exact .inr ⟨by omega, by rw [show k.toNat - 1 = (k - 1).toNat by omega]; omega⟩)]) (by decide)]; rfl) | (have hne : ¬((k.toNat = 0 ∧ (v.air.getD k.toNat airZ).frm ≠ 0) ∨ (0 < k.toNat ∧ (v.air.getD k.toNat airZ).frm ≤ (v.air.getD (k.toNat - 1) airZ).frm)) := (by rw [show k.toNat - 1 = (k - 1).toNat by omega]; rintro (⟨h1, h2⟩ | ⟨h1, h2⟩) <;> omega); rw [ck_air (e := 7) hd hk0 (by omega) hkp (by unfold errAir Veh.ar; rw [if_neg hne, if_pos (by first | exact .inl (by omega) | exact .inr (by assumption))]) (by decide)]; rfl) | (rw [ck_ph hd hk0 ha0 hp12 (by omega) hkp (errPh_7 (by simp only [phBad, Veh.ph, Bool.or_eq_true, Bool.or_eq_false_iff, Bool.false_eq_true, or_true, true_or, or_false, false_or, and_true, true_and, and_self, *]))]; rfl) | (rw [ck_pc (e := 6) hd hk0 ha0 hp12 hp0 hq6 (by omega) hkp (errPc_6 (by assumption)) (by decide)]; rfl) | (rw [ck_pc (e := 5) hd hk0 ha0 hp12 hp0 hq6 (by omega) hkp (errPc_5 (by assumption) hdu) (by decide)]; rfl) | (rw [ck_pc (e := 7) hd hk0 ha0 hp12 hp0 hq6 (by omega) hkp (errPc_7 (by assumption) hdu (by simp only [pcBad, Veh.pc, Bool.or_eq_true, Bool.or_eq_false_iff, Bool.false_eq_true, or_true, true_or, or_false, false_or, and_true, true_and, and_self, *])) (by decide)]; rfl) | (rw [checkV_phs hd ha0 (by assumption)]; rfl) | (rw [checkV_pcs hd ha0 hp12 hp0 (by omega)]; rfl) | (rw [checkV_ok hd ha0 hp12 hp0 hq6 hq0]; rfl)
  intro g8; have g8' := g8; try simp only [td] at g8'
  refine L_yes rfl rfl rfl g8 (X_p (p_fieldo fo100_1 rfl rfl) ?_)
  refine L_yes rfl rfl rfl g8 (X_rd (rl ag3 rfl rfl rfl) ?_)
  refine L_yes rfl rfl rfl g8 (X_wr (w_callP rfl rfl rfl (fun w hg => fout_c _ _ _ w)) ?_)
  rintro _ _ ⟨rfl, rfl⟩
  refine Lp rfl (p_pick_f rfl rfl g8 rfl) ?_
  refine La rfl rfl rfl ?_
  refine L_then (kp [1, 5, 26, 27, 28, 58] rfl) ?_
  refine V_cond rfl ?_ ?_
  ·intro c10; try simp only [td] at c10
   refine Vs rfl ?_
   refine Lm rfl rfl rfl ?_
   iterate 3 refine La rfl rfl rfl ?_
   refine L_then (kp [2, 3, 4] rfl) ?_
   refine V_ret (blk_r (blk_r (then_r (then_r (blk_r (then_r ?_))))))
   refine Leave.nil (.tmp rfl (.tmp rfl (.tmp rfl .nil))) ?_
   first | (rw [ck_air (e := 2) hd hk0 (by omega) hkp (by unfold errAir Veh.ar; rw [if_pos (by first | exact .inl ⟨by omega, by omega⟩ | exact .inr ⟨by omega, by rw [show k.toNat - 1 = (k - 1).toNat by omega]; omega⟩)]) (by decide)]; rfl) | (have hne : ¬((k.toNat = 0 ∧ (v.air.getD k.toNat airZ).frm ≠ 0) ∨ (0 < k.toNat ∧ (v.air.getD k.toNat airZ).frm ≤ (v.air.getD (k.toNat - 1) airZ).frm)) := (by rw [show k.toNat - 1 = (k - 1).toNat by omega]; rintro (⟨h1, h2⟩ | ⟨h1, h2⟩) <;> omega); rw [ck_air (e := 7) hd hk0 (by omega) hkp (by unfold errAir Veh.ar; rw [if_neg hne, if_pos (by first | exact .inl (by omega) | exact .inr (by assumption))]) (by decide)]; rfl) | (rw [ck_ph hd hk0 ha0 hp12 (by omega) hkp (errPh_7 (by simp only [phBad, Veh.ph, Bool.or_eq_true, Bool.or_eq_false_iff, Bool.false_eq_true, or_true, true_or, or_false, false_or, and_true, true_and, and_self, *]))]; rfl) | (rw [ck_pc (e := 6) hd hk0 ha0 hp12 hp0 hq6 (by omega) hkp (errPc_6 (by assumption)) (by decide)]; rfl) | (rw [ck_pc (e := 5) hd hk0 ha0 hp12 hp0 hq6 (by omega) hkp (errPc_5 (by assumption) hdu) (by decide)]; rfl) | (rw [ck_pc (e := 7) hd hk0 ha0 hp12 hp0 hq6 (by omega) hkp (errPc_7 (by assumption) hdu (by simp only [pcBad, Veh.pc, Bool.or_eq_true, Bool.or_eq_false_iff, Bool.false_eq_true, or_true, true_or, or_false, false_or, and_true, true_and, and_self, *])) (by decide)]; rfl) | (rw [checkV_phs hd ha0 (by assumption)]; rfl) | (rw [checkV_pcs hd ha0 hp12 hp0 (by omega)]; rfl) | (rw [checkV_ok hd ha0 hp12 hp0 hq6 hq0]; rfl)
  intro c10; try simp only [td] at c10
  refine V_skip (blk_n (blk_n (then_n ?_)))
  refine V_region rfl ?_
  first | refine Lp rfl (p_add' rfl rfl rfl (by unfold InI; omega)) ?_ | refine Lp rfl (p_add rfl rfl rfl) ?_
  refine Lm rfl rfl rfl ?_
  refine L_keep (kp [1, 26, 27, 28] rfl) (then_n ?_)
  refine ⟨k + 1, ?_, ?_, (.cons rfl (.cons rfl (.cons rfl (.cons rfl (.nil _))))), (by repeat (first | exact List.Sublist.refl _ | apply List.Sublist.cons_cons | apply List.Sublist.cons | apply List.sublist_append_of_sublist_right)), rfl⟩
  ·refine ⟨by omega, by omega, fun j hj => ?_⟩; by_cases e : (j : Int) < k
   ·exact hkp j e
   have ej : j = k.toNat := by omega
   rw [ej]; exact (by unfold errAir Veh.ar; rw [if_neg (by rw [show k.toNat - 1 = (k - 1).toNat by omega]; rintro (⟨h1, h2⟩ | ⟨h1, h2⟩) <;> omega), if_neg (by rintro (h | h) <;> first | omega | simp_all)])
  omega
 intro c4; try simp only [td] at c4
 have ha0 : ∀ j : Nat, j < v.air.length → errAir v j = 0 := fun j hj => hkp j (by omega)
 refine V_exit (then_e (then_e (blk_e rfl (then_n ?_))))
 refine V_seq ?_
 refine Vs rfl ?_
 refine Lp rfl (p_fieldo fo28_3 rfl rfl) ?_
 refine Lr rfl (rl ag25 rfl rfl rfl) ?_
 refine Lp rfl (p_len isl25 rfl rfl) ?_
 refine Lc rfl rfl rfl rfl (fun w hg => fout_c _ _ _ w) ?_
 refine L_then (kp [1, 72] rfl) ?_
 refine V_cond rfl ?_ ?_
 ·intro c11; try simp only [td] at c11
  refine Vs rfl ?_
  iterate 3 refine La rfl rfl rfl ?_
  refine L_then (kp [2, 3, 4] rfl) ?_
  refine V_ret (then_r ?_)
  refine Leave.nil (.tmp rfl (.tmp rfl (.tmp rfl .nil))) ?_
  first | (rw [ck_air (e := 2) hd hk0 (by omega) hkp (by unfold errAir Veh.ar; rw [if_pos (by first | exact .inl ⟨by omega, by omega⟩ | exact .inr ⟨by omega, by rw [show k.toNat - 1 = (k - 1).toNat by omega]; omega⟩)]) (by decide)]; rfl) | (have hne : ¬((k.toNat = 0 ∧ (v.air.getD k.toNat airZ).frm ≠ 0) ∨ (0 < k.toNat ∧ (v.air.getD k.toNat airZ).frm ≤ (v.air.getD (k.toNat - 1) airZ).frm)) := (by rw [show k.toNat - 1 = (k - 1).toNat by omega]; rintro (⟨h1, h2⟩ | ⟨h1, h2⟩) <;> omega); rw [ck_air (e := 7) hd hk0 (by omega) hkp (by unfold errAir Veh.ar; rw [if_neg hne, if_pos (by first | exact .inl (by omega) | exact .inr (by assumption))]) (by decide)]; rfl) | (rw [ck_ph hd hk0 ha0 hp12 (by omega) hkp (errPh_7 (by simp only [phBad, Veh.ph, Bool.or_eq_true, Bool.or_eq_false_iff, Bool.false_eq_true, or_true, true_or, or_false, false_or, and_true, true_and, and_self, *]))]; rfl) | (rw [ck_pc (e := 6) hd hk0 ha0 hp12 hp0 hq6 (by omega) hkp (errPc_6 (by assumption)) (by decide)]; rfl) | (rw [ck_pc (e := 5) hd hk0 ha0 hp12 hp0 hq6 (by omega) hkp (errPc_5 (by assumption) hdu) (by decide)]; rfl) | (rw [ck_pc (e := 7) hd hk0 ha0 hp12 hp0 hq6 (by omega) hkp (errPc_7 (by assumption) hdu (by simp only [pcBad, Veh.pc, Bool.or_eq_true, Bool.or_eq_false_iff, Bool.false_eq_true, or_true, true_or, or_false, false_or, and_true, true_and, and_self, *])) (by decide)]; rfl) | (rw [checkV_phs hd ha0 (by assumption)]; rfl) | (rw [checkV_pcs hd ha0 hp12 hp0 (by omega)]; rfl) | (rw [checkV_ok hd ha0 hp12 hp0 hq6 hq0]; rfl)
 intro c11; try simp only [td] at c11
 have hp12 : oP v.phases.length 1 12 = false := by assumption
 refine V_skip (then_n ?_)
 refine V_seq ?_
 refine Vs rfl ?_
 refine Lp rfl (p_fieldo fo28_3 rfl rfl) ?_
 refine Lr rfl (rl ag25 rfl rfl rfl) ?_
 refine Lp rfl (p_len isl25 rfl rfl) ?_
 refine Lm rfl rfl rfl ?_
 refine L_then (kp [1, 74, 75, 76] rfl) ?_
 refine V_block ?_
 refine V_loop0 (γ := Int) (kp [1, 74, 75] rfl) (fun k => [(76, .int .i64 k)]) (fun k => 0 ≤ k ∧ k ≤ v.phases.length ∧ ∀ j : Nat, (j : Int) < k → errPh v j = 0) (fun k => (v.phases.length - k).toNat) (0) (.cons rfl (.nil _)) (⟨by omega, by omega, fun j hj => by omega⟩) ?_
 rintro k hi
 obtain ⟨hk0, hk1, hkp⟩ := hi
 refine Vs rfl ?_
 refine Lp rfl (p_lss rfl rfl rfl) ?_
 refine L_then (kp [1, 74, 75, 76, 77] rfl) ?_
 refine V_seq ?_
 refine V_cond rfl ?_ ?_
 ·intro c12; try simp only [td] at c12
  obtain ⟨tb, rfl, hc⟩ := hpe k.toNat _ (getD_cells (d := phZ) (by omega))
  refine V_skip (then_n ?_)
  refine V_seq ?_
  refine V_block ?_
  refine Vs rfl ?_
  refine Lm rfl rfl rfl ?_
  refine Lp rfl (p_idx es25 rfl rfl rfl (by omega) (by omega)) ?_
  refine Lr rfl (r_loadBA ag46 sz46 rfl rfl hc rfl List.not_mem_nil) ?_
  refine Lw rfl (w_alloc zr46 rfl) ?_
  rintro _ _ ⟨b2, hb2, rfl, rfl⟩
  refine La rfl rfl rfl ?_
  refine Ls (cs' := [_, _, _, _, _, _, _, _, _, _, _, _, _]) rfl sz46 rfl rfl rfl rfl rfl rfl rfl ?_
  refine L_then (kp [1, 7, 8, 74, 75, 76] rfl) ?_
  refine Vs rfl ?_
  refine Lp rfl (p_fieldo fo46_0 rfl rfl) ?_
  refine Lr rfl (rl ag3 rfl rfl rfl) ?_
  refine Lc rfl rfl rfl rfl (fun w hg => fout_c _ _ _ w) ?_
  refine Lm rfl rfl rfl ?_
  refine L_cases (d := 84) rfl ?_ ?_
  ·intro g9; have g9' := g9; try simp only [td] at g9'
   iterate 3 refine L_no rfl rfl rfl g9 ?_
   refine Lp rfl (p_pick_t rfl rfl g9 rfl) ?_
   refine Lm rfl rfl rfl ?_
   iterate 5 refine L_no rfl rfl rfl rfl ?_
   refine Lp rfl (p_pick_t rfl rfl rfl rfl) ?_
   refine Lm rfl rfl rfl ?_
   iterate 4 refine L_no rfl rfl rfl rfl ?_
   refine Lp rfl (p_pick_t rfl rfl rfl rfl) ?_
   refine L_then (kp [1, 7, 74, 75, 76, 101] rfl) ?_
   refine V_cond_t rfl rfl ?_
   refine Vs rfl ?_
   refine Lm rfl rfl rfl ?_
   iterate 3 refine La rfl rfl rfl ?_
   refine L_then (kp [2, 3, 4] rfl) ?_
   refine V_ret (blk_r (then_r (then_r (blk_r (then_r ?_)))))
   refine Leave.nil (.tmp rfl (.tmp rfl (.tmp rfl .nil))) ?_
   first | (rw [ck_air (e := 2) hd hk0 (by omega) hkp (by unfold errAir Veh.ar; rw [if_pos (by first | exact .inl ⟨by omega, by omega⟩ | exact .inr ⟨by omega, by rw [show k.toNat - 1 = (k - 1).toNat by omega]; omega⟩)]) (by decide)]; rfl) | (have hne : ¬((k.toNat = 0 ∧ (v.air.getD k.toNat airZ).frm ≠ 0) ∨ (0 < k.toNat ∧ (v.air.getD k.toNat airZ).frm ≤ (v.air.getD (k.toNat - 1) airZ).frm)) := (by rw [show k.toNat - 1 = (k - 1).toNat by omega]; rintro (⟨h1, h2⟩ | ⟨h1, h2⟩) <;> omega); rw [ck_air (e := 7) hd hk0 (by omega) hkp (by unfold errAir Veh.ar; rw [if_neg hne, if_pos (by first | exact .inl (by omega) | exact .inr (by assumption))]) (by decide)]; rfl) | (rw [ck_ph hd hk0 ha0 hp12 (by omega) hkp (errPh_7 (by simp only [phBad, Veh.ph, Bool.or_eq_true, Bool.or_eq_false_iff, Bool.false_eq_true, or_true, true_or, or_false, false_or, and_true, true_and, and_self, *]))]; rfl) | (rw [ck_pc (e := 6) hd hk0 ha0 hp12 hp0 hq6 (by omega) hkp (errPc_6 (by assumption)) (by decide)]; rfl) | (rw [ck_pc (e := 5) hd hk0 ha0 hp12 hp0 hq6 (by omega) hkp (errPc_5 (by assumption) hdu) (by decide)]; rfl) | (rw [ck_pc (e := 7) hd hk0 ha0 hp12 hp0 hq6 (by omega) hkp (errPc_7 (by assumption) hdu (by simp only [pcBad, Veh.pc, Bool.or_eq_true, Bool.or_eq_false_iff, Bool.false_eq_true, or_true, true_or, or_false, false_or, and_true, true_and, and_self, *])) (by decide)]; rfl) | (rw [checkV_phs hd ha0 (by assumption)]; rfl) | (rw [checkV_pcs hd ha0 hp12 hp0 (by omega)]; rfl) | (rw [checkV_ok hd ha0 hp12 hp0 hq6 hq0]; rfl)
  intro g9; have g9' := g9; try simp only [td] at g9'
  refine L_yes rfl rfl rfl g9 (X_p (p_fieldo fo46_1 rfl rfl) ?_)
  refine L_yes rfl rfl rfl g9 (X_rd (rlA (vs := [_, _]) ag23 sz23 rfl rfl rfl) ?_)
  refine L_yes rfl rfl rfl g9 (X_wr (w_callP rfl rfl rfl (fun w hg => fbeyond_c (v.phases.getD k.toNat phZ).thrust _ _ w)) ?_)
  rintro _ _ ⟨rfl, rfl⟩
  refine Lp rfl (p_pick_f rfl rfl g9 rfl) ?_
  refine Lm rfl rfl rfl ?_
  refine L_cases (d := 89) rfl ?_ ?_
  ·intro g10; have g10' := g10; try simp only [td] at g10'
   iterate 5 refine L_no rfl rfl rfl g10 ?_
   refine Lp rfl (p_pick_t rfl rfl g10 rfl) ?_
   refine Lm rfl rfl rfl ?_
   iterate 4 refine L_no rfl rfl rfl rfl ?_
   refine Lp rfl (p_pick_t rfl rfl rfl rfl) ?_
   refine L_then (kp [1, 7, 74, 75, 76, 101] rfl) ?_
   refine V_cond_t rfl rfl ?_
   refine Vs rfl ?_
   refine Lm rfl rfl rfl ?_
   iterate 3 refine La rfl rfl rfl ?_
   refine L_then (kp [2, 3, 4] rfl) ?_
   refine V_ret (blk_r (then_r (then_r (blk_r (then_r ?_)))))
   refine Leave.nil (.tmp rfl (.tmp rfl (.tmp rfl .nil))) ?_
   first | (rw [ck_air (e := 2) hd hk0 (by omega) hkp (by unfold errAir Veh.ar; rw [if_pos (by first | exact .inl ⟨by omega, by omega⟩ | exact .inr ⟨by omega, by rw [show k.toNat - 1 = (k - 1).toNat by omega]; omega⟩)]) (by decide)]; rfl) | (have hne : ¬((k.toNat = 0 ∧ (v.air.getD k.toNat airZ).frm ≠ 0) ∨ (0 < k.toNat ∧ (v.air.getD k.toNat airZ).frm ≤ (v.air.getD (k.toNat - 1) airZ).frm)) := (by rw [show k.toNat - 1 = (k - 1).toNat by omega]; rintro (⟨h1, h2⟩ | ⟨h1, h2⟩) <;> omega); rw [ck_air (e := 7) hd hk0 (by omega) hkp (by unfold errAir Veh.ar; rw [if_neg hne, if_pos (by first | exact .inl (by omega) | exact .inr (by assumption))]) (by decide)]; rfl) | (rw [ck_ph hd hk0 ha0 hp12 (by omega) hkp (errPh_7 (by simp only [phBad, Veh.ph, Bool.or_eq_true, Bool.or_eq_false_iff, Bool.false_eq_true, or_true, true_or, or_false, false_or, and_true, true_and, and_self, *]))]; rfl) | (rw [ck_pc (e := 6) hd hk0 ha0 hp12 hp0 hq6 (by omega) hkp (errPc_6 (by assumption)) (by decide)]; rfl) | (rw [ck_pc (e := 5) hd hk0 ha0 hp12 hp0 hq6 (by omega) hkp (errPc_5 (by assumption) hdu) (by decide)]; rfl) | (rw [ck_pc (e := 7) hd hk0 ha0 hp12 hp0 hq6 (by omega) hkp (errPc_7 (by assumption) hdu (by simp only [pcBad, Veh.pc, Bool.or_eq_true, Bool.or_eq_false_iff, Bool.false_eq_true, or_true, true_or, or_false, false_or, and_true, true_and, and_self, *])) (by decide)]; rfl) | (rw [checkV_phs hd ha0 (by assumption)]; rfl) | (rw [checkV_pcs hd ha0 hp12 hp0 (by omega)]; rfl) | (rw [checkV_ok hd ha0 hp12 hp0 hq6 hq0]; rfl)
  intro g10; have g10' := g10; try simp only [td] at g10'
  refine L_yes rfl rfl rfl g10 (X_p (p_fieldo fo46_2 rfl rfl) ?_)
  refine L_yes rfl rfl rfl g10 (X_rd (rlA (vs := [_, _]) ag23 sz23 rfl rfl rfl) ?_)
  refine L_yes rfl rfl rfl g10 (X_p (p_fieldo fo46_3 rfl rfl) ?_)
  refine L_yes rfl rfl rfl g10 (X_rd (rlA (vs := [_, _]) ag23 sz23 rfl rfl rfl) ?_)
  refine L_yes rfl rfl rfl g10 (X_wr (w_callP rfl rfl rfl (fun w hg => fheavy_c (v.phases.getD k.toNat phZ).mass (v.phases.getD k.toNat phZ).drag w)) ?_)
  rintro _ _ ⟨rfl, rfl⟩
  refine Lp rfl (p_pick_f rfl rfl g10 rfl) ?_
  refine Lm rfl rfl rfl ?_
  refine L_cases (d := 96) rfl ?_ ?_
  ·intro g11; have g11' := g11; try simp only [td] at g11'
   iterate 4 refine L_no rfl rfl rfl g11 ?_
   refine Lp rfl (p_pick_t rfl rfl g11 rfl) ?_
   refine L_then (kp [1, 7, 74, 75, 76, 101] rfl) ?_
   refine V_cond_t rfl rfl ?_
   refine Vs rfl ?_
   refine Lm rfl rfl rfl ?_
   iterate 3 refine La rfl rfl rfl ?_
   refine L_then (kp [2, 3, 4] rfl) ?_
   refine V_ret (blk_r (then_r (then_r (blk_r (then_r ?_)))))
   refine Leave.nil (.tmp rfl (.tmp rfl (.tmp rfl .nil))) ?_
   first | (rw [ck_air (e := 2) hd hk0 (by omega) hkp (by unfold errAir Veh.ar; rw [if_pos (by first | exact .inl ⟨by omega, by omega⟩ | exact .inr ⟨by omega, by rw [show k.toNat - 1 = (k - 1).toNat by omega]; omega⟩)]) (by decide)]; rfl) | (have hne : ¬((k.toNat = 0 ∧ (v.air.getD k.toNat airZ).frm ≠ 0) ∨ (0 < k.toNat ∧ (v.air.getD k.toNat airZ).frm ≤ (v.air.getD (k.toNat - 1) airZ).frm)) := (by rw [show k.toNat - 1 = (k - 1).toNat by omega]; rintro (⟨h1, h2⟩ | ⟨h1, h2⟩) <;> omega); rw [ck_air (e := 7) hd hk0 (by omega) hkp (by unfold errAir Veh.ar; rw [if_neg hne, if_pos (by first | exact .inl (by omega) | exact .inr (by assumption))]) (by decide)]; rfl) | (rw [ck_ph hd hk0 ha0 hp12 (by omega) hkp (errPh_7 (by simp only [phBad, Veh.ph, Bool.or_eq_true, Bool.or_eq_false_iff, Bool.false_eq_true, or_true, true_or, or_false, false_or, and_true, true_and, and_self, *]))]; rfl) | (rw [ck_pc (e := 6) hd hk0 ha0 hp12 hp0 hq6 (by omega) hkp (errPc_6 (by assumption)) (by decide)]; rfl) | (rw [ck_pc (e := 5) hd hk0 ha0 hp12 hp0 hq6 (by omega) hkp (errPc_5 (by assumption) hdu) (by decide)]; rfl) | (rw [ck_pc (e := 7) hd hk0 ha0 hp12 hp0 hq6 (by omega) hkp (errPc_7 (by assumption) hdu (by simp only [pcBad, Veh.pc, Bool.or_eq_true, Bool.or_eq_false_iff, Bool.false_eq_true, or_true, true_or, or_false, false_or, and_true, true_and, and_self, *])) (by decide)]; rfl) | (rw [checkV_phs hd ha0 (by assumption)]; rfl) | (rw [checkV_pcs hd ha0 hp12 hp0 (by omega)]; rfl) | (rw [checkV_ok hd ha0 hp12 hp0 hq6 hq0]; rfl)
  intro g11; have g11' := g11; try simp only [td] at g11'
  refine L_yes rfl rfl rfl g11 (X_p (p_fieldo fo46_4 rfl rfl) ?_)
  refine L_yes rfl rfl rfl g11 (X_rd (rlA (vs := [_, _, _, _, _, _]) ag44 sz44 rfl rfl rfl) ?_)
  refine L_yes rfl rfl rfl g11 (X_wr (w_callP rfl rfl rfl (fun w hg => ftilted_c (v.phases.getD k.toNat phZ).tilt w)) ?_)
  rintro _ _ ⟨rfl, rfl⟩
  refine L_yes rfl rfl rfl g11 (X_wr (w_callP rfl rfl rfl (fun w hg => fwide_c (v.phases.getD k.toNat phZ).tilt 2000 (by decide) w)) ?_)
  rintro _ _ ⟨rfl, rfl⟩
  refine Lp rfl (p_pick_f rfl rfl g11 rfl) ?_
  refine L_then (kp [1, 7, 74, 75, 76, 101] rfl) ?_
  refine V_cond rfl ?_ ?_
  ·intro c13; try simp only [td] at c13
   refine Vs rfl ?_
   refine Lm rfl rfl rfl ?_
   iterate 3 refine La rfl rfl rfl ?_
   refine L_then (kp [2, 3, 4] rfl) ?_
   refine V_ret (blk_r (then_r (then_r (blk_r (then_r ?_)))))
   refine Leave.nil (.tmp rfl (.tmp rfl (.tmp rfl .nil))) ?_
   first | (rw [ck_air (e := 2) hd hk0 (by omega) hkp (by unfold errAir Veh.ar; rw [if_pos (by first | exact .inl ⟨by omega, by omega⟩ | exact .inr ⟨by omega, by rw [show k.toNat - 1 = (k - 1).toNat by omega]; omega⟩)]) (by decide)]; rfl) | (have hne : ¬((k.toNat = 0 ∧ (v.air.getD k.toNat airZ).frm ≠ 0) ∨ (0 < k.toNat ∧ (v.air.getD k.toNat airZ).frm ≤ (v.air.getD (k.toNat - 1) airZ).frm)) := (by rw [show k.toNat - 1 = (k - 1).toNat by omega]; rintro (⟨h1, h2⟩ | ⟨h1, h2⟩) <;> omega); rw [ck_air (e := 7) hd hk0 (by omega) hkp (by unfold errAir Veh.ar; rw [if_neg hne, if_pos (by first | exact .inl (by omega) | exact .inr (by assumption))]) (by decide)]; rfl) | (rw [ck_ph hd hk0 ha0 hp12 (by omega) hkp (errPh_7 (by simp only [phBad, Veh.ph, Bool.or_eq_true, Bool.or_eq_false_iff, Bool.false_eq_true, or_true, true_or, or_false, false_or, and_true, true_and, and_self, *]))]; rfl) | (rw [ck_pc (e := 6) hd hk0 ha0 hp12 hp0 hq6 (by omega) hkp (errPc_6 (by assumption)) (by decide)]; rfl) | (rw [ck_pc (e := 5) hd hk0 ha0 hp12 hp0 hq6 (by omega) hkp (errPc_5 (by assumption) hdu) (by decide)]; rfl) | (rw [ck_pc (e := 7) hd hk0 ha0 hp12 hp0 hq6 (by omega) hkp (errPc_7 (by assumption) hdu (by simp only [pcBad, Veh.pc, Bool.or_eq_true, Bool.or_eq_false_iff, Bool.false_eq_true, or_true, true_or, or_false, false_or, and_true, true_and, and_self, *])) (by decide)]; rfl) | (rw [checkV_phs hd ha0 (by assumption)]; rfl) | (rw [checkV_pcs hd ha0 hp12 hp0 (by omega)]; rfl) | (rw [checkV_ok hd ha0 hp12 hp0 hq6 hq0]; rfl)
  intro c13; try simp only [td] at c13
  refine V_skip (blk_n (then_n ?_))
  refine V_region rfl ?_
  first | refine Lp rfl (p_add' rfl rfl rfl (by unfold InI; omega)) ?_ | refine Lp rfl (p_add rfl rfl rfl) ?_
  refine Lm rfl rfl rfl ?_
  refine L_keep (kp [1, 74, 75, 76] rfl) (then_n ?_)
  refine ⟨k + 1, ?_, ?_, (.cons rfl (.cons rfl (.cons rfl (.cons rfl (.nil _))))), (by repeat (first | exact List.Sublist.refl _ | apply List.Sublist.cons_cons | apply List.Sublist.cons | apply List.sublist_append_of_sublist_right)), rfl⟩
  ·refine ⟨by omega, by omega, fun j hj => ?_⟩; by_cases e : (j : Int) < k
   ·exact hkp j e
   have ej : j = k.toNat := by omega
   rw [ej]; exact errPh_0 (by simp only [phBad, Veh.ph, Bool.or_eq_true, Bool.or_eq_false_iff, Bool.false_eq_true, or_true, true_or, or_false, false_or, and_true, true_and, and_self, *])
  omega
 intro c12; try simp only [td] at c12
 have hp0 : ∀ j : Nat, j < v.phases.length → errPh v j = 0 := fun j hj => hkp j (by omega)
 refine V_exit (then_e (then_e (blk_e rfl (then_n ?_))))
 refine V_seq ?_
 refine Vs rfl ?_
 refine Lp rfl (p_fieldo fo28_4 rfl rfl) ?_
 refine Lr rfl (rl ag26 rfl rfl rfl) ?_
 refine Lp rfl (p_len isl26 rfl rfl) ?_
 refine Lp rfl (p_gtr rfl rfl rfl) ?_
 refine L_then (kp [1, 107] rfl) ?_
 refine V_cond rfl ?_ ?_
 ·intro c14; try simp only [td] at c14
  refine Vs rfl ?_
  iterate 3 refine La rfl rfl rfl ?_
  refine L_then (kp [2, 3, 4] rfl) ?_
  refine V_ret (then_r ?_)
  refine Leave.nil (.tmp rfl (.tmp rfl (.tmp rfl .nil))) ?_
  first | (rw [ck_air (e := 2) hd hk0 (by omega) hkp (by unfold errAir Veh.ar; rw [if_pos (by first | exact .inl ⟨by omega, by omega⟩ | exact .inr ⟨by omega, by rw [show k.toNat - 1 = (k - 1).toNat by omega]; omega⟩)]) (by decide)]; rfl) | (have hne : ¬((k.toNat = 0 ∧ (v.air.getD k.toNat airZ).frm ≠ 0) ∨ (0 < k.toNat ∧ (v.air.getD k.toNat airZ).frm ≤ (v.air.getD (k.toNat - 1) airZ).frm)) := (by rw [show k.toNat - 1 = (k - 1).toNat by omega]; rintro (⟨h1, h2⟩ | ⟨h1, h2⟩) <;> omega); rw [ck_air (e := 7) hd hk0 (by omega) hkp (by unfold errAir Veh.ar; rw [if_neg hne, if_pos (by first | exact .inl (by omega) | exact .inr (by assumption))]) (by decide)]; rfl) | (rw [ck_ph hd hk0 ha0 hp12 (by omega) hkp (errPh_7 (by simp only [phBad, Veh.ph, Bool.or_eq_true, Bool.or_eq_false_iff, Bool.false_eq_true, or_true, true_or, or_false, false_or, and_true, true_and, and_self, *]))]; rfl) | (rw [ck_pc (e := 6) hd hk0 ha0 hp12 hp0 hq6 (by omega) hkp (errPc_6 (by assumption)) (by decide)]; rfl) | (rw [ck_pc (e := 5) hd hk0 ha0 hp12 hp0 hq6 (by omega) hkp (errPc_5 (by assumption) hdu) (by decide)]; rfl) | (rw [ck_pc (e := 7) hd hk0 ha0 hp12 hp0 hq6 (by omega) hkp (errPc_7 (by assumption) hdu (by simp only [pcBad, Veh.pc, Bool.or_eq_true, Bool.or_eq_false_iff, Bool.false_eq_true, or_true, true_or, or_false, false_or, and_true, true_and, and_self, *])) (by decide)]; rfl) | (rw [checkV_phs hd ha0 (by assumption)]; rfl) | (rw [checkV_pcs hd ha0 hp12 hp0 (by omega)]; rfl) | (rw [checkV_ok hd ha0 hp12 hp0 hq6 hq0]; rfl)
 intro c14; try simp only [td] at c14
 have hq6 : v.pieces.length ≤ 6 := by omega
 refine V_skip (then_n ?_)
 refine V_seq ?_
 refine Vs rfl ?_
 refine Lp rfl (p_fieldo fo28_4 rfl rfl) ?_
 refine Lr rfl (rl ag26 rfl rfl rfl) ?_
 refine Lp rfl (p_len isl26 rfl rfl) ?_
 refine Lm rfl rfl rfl ?_
 refine L_then (kp [1, 109, 110, 111] rfl) ?_
 refine V_block ?_
 refine V_loop0 (γ := Int) (kp [1, 109, 110] rfl) (fun k => [(111, .int .i64 k)]) (fun k => 0 ≤ k ∧ k ≤ v.pieces.length ∧ ∀ j : Nat, (j : Int) < k → errPc v j = 0) (fun k => (v.pieces.length - k).toNat) (0) (.cons rfl (.nil _)) (⟨by omega, by omega, fun j hj => by omega⟩) ?_
 rintro k hi
 obtain ⟨hk0, hk1, hkp⟩ := hi
 refine Vs rfl ?_
 refine Lp rfl (p_lss rfl rfl rfl) ?_
 refine L_then (kp [1, 109, 110, 111, 112] rfl) ?_
 refine V_seq ?_
 refine V_cond rfl ?_ ?_
 ·intro c15; try simp only [td] at c15
  obtain ⟨tb, rfl, hc⟩ := hqe k.toNat _ (getD_cells (d := pcZ) (by omega))
  refine V_skip (then_n ?_)
  refine V_seq ?_
  refine V_block ?_
  refine Vs rfl ?_
  refine Lm rfl rfl rfl ?_
  refine Lp rfl (p_idx es26 rfl rfl rfl (by omega) (by omega)) ?_
  refine Lr rfl (r_loadBA ag49 sz49 rfl rfl hc rfl List.not_mem_nil) ?_
  refine Lw rfl (w_alloc zr49 rfl) ?_
  rintro _ _ ⟨b2, hb2, rfl, rfl⟩
  refine La rfl rfl rfl ?_
  refine Ls (cs' := [_, _, _, _, _, _, _, _, _, _, _, _, _]) rfl sz49 rfl rfl rfl rfl rfl rfl rfl ?_
  refine L_then (kp [1, 9, 10, 109, 110, 111] rfl) ?_
  refine V_block ?_
  refine Vs rfl ?_
  refine Lp rfl (p_fieldo fo49_0 rfl rfl) ?_
  refine Lr rfl (rl ag9 rfl rfl rfl) ?_
  refine Lc rfl rfl rfl rfl (fun w hg => wname_c _ (by first | exact hnm | exact hV.pname _) w) ?_
  refine Lp rfl (p_not rfl rfl) ?_
  refine La rfl rfl rfl ?_
  refine L_then (kp [1, 9, 10, 109, 110, 111, 116] rfl) ?_
  refine V_cond rfl ?_ ?_
  ·intro c16; try simp only [td] at c16
   refine Vs rfl ?_
   refine Lm rfl rfl rfl ?_
   iterate 3 refine La rfl rfl rfl ?_
   refine L_then (kp [2, 3, 4] rfl) ?_
   refine V_ret (blk_r (blk_r (then_r (then_r (blk_r (then_r ?_))))))
   refine Leave.nil (.tmp rfl (.tmp rfl (.tmp rfl .nil))) ?_
   first | (rw [ck_air (e := 2) hd hk0 (by omega) hkp (by unfold errAir Veh.ar; rw [if_pos (by first | exact .inl ⟨by omega, by omega⟩ | exact .inr ⟨by omega, by rw [show k.toNat - 1 = (k - 1).toNat by omega]; omega⟩)]) (by decide)]; rfl) | (have hne : ¬((k.toNat = 0 ∧ (v.air.getD k.toNat airZ).frm ≠ 0) ∨ (0 < k.toNat ∧ (v.air.getD k.toNat airZ).frm ≤ (v.air.getD (k.toNat - 1) airZ).frm)) := (by rw [show k.toNat - 1 = (k - 1).toNat by omega]; rintro (⟨h1, h2⟩ | ⟨h1, h2⟩) <;> omega); rw [ck_air (e := 7) hd hk0 (by omega) hkp (by unfold errAir Veh.ar; rw [if_neg hne, if_pos (by first | exact .inl (by omega) | exact .inr (by assumption))]) (by decide)]; rfl) | (rw [ck_ph hd hk0 ha0 hp12 (by omega) hkp (errPh_7 (by simp only [phBad, Veh.ph, Bool.or_eq_true, Bool.or_eq_false_iff, Bool.false_eq_true, or_true, true_or, or_false, false_or, and_true, true_and, and_self, *]))]; rfl) | (rw [ck_pc (e := 6) hd hk0 ha0 hp12 hp0 hq6 (by omega) hkp (errPc_6 (by assumption)) (by decide)]; rfl) | (rw [ck_pc (e := 5) hd hk0 ha0 hp12 hp0 hq6 (by omega) hkp (errPc_5 (by assumption) hdu) (by decide)]; rfl) | (rw [ck_pc (e := 7) hd hk0 ha0 hp12 hp0 hq6 (by omega) hkp (errPc_7 (by assumption) hdu (by simp only [pcBad, Veh.pc, Bool.or_eq_true, Bool.or_eq_false_iff, Bool.false_eq_true, or_true, true_or, or_false, false_or, and_true, true_and, and_self, *])) (by decide)]; rfl) | (rw [checkV_phs hd ha0 (by assumption)]; rfl) | (rw [checkV_pcs hd ha0 hp12 hp0 (by omega)]; rfl) | (rw [checkV_ok hd ha0 hp12 hp0 hq6 hq0]; rfl)
  intro c16; try simp only [td] at c16
  refine Vs rfl ?_
  refine Lp rfl (p_fieldo fo28_4 rfl rfl) ?_
  refine Lr rfl (rl ag26 rfl rfl rfl) ?_
  refine Lm rfl rfl rfl ?_
  refine Lp rfl (p_slTo es26 rfl rfl rfl (by omega) (by omega)) ?_
  refine Lp rfl (p_func rfl rfl rfl) ?_
  refine Lc rfl rfl rfl rfl (fun w hg => contPc_c (v.pieces.take k.toNat) _ _ _ (fun y => decide (y.name = (v.pieces.getD k.toNat pcZ).name)) w ((hsq.takeM (k := k.toNat) (by omega)).good hg) (by rw [List.length_take]; omega) (fun j hj w' he => fchk1_c _ _ _ _ _ w' (he.heap (hg.own (b2, _) (by repeat first | exact mH | apply mT))))) ?_
  refine La rfl rfl rfl ?_
  refine L_then (kp [1, 9, 10, 109, 110, 111, 122] rfl) ?_
  refine V_cond rfl ?_ ?_
  ·intro c17; try simp only [td] at c17
   have hdu : dupPc v k.toNat = true := by rw [← dupPc_take (by omega)]; exact c17
   refine Vs rfl ?_
   refine Lm rfl rfl rfl ?_
   iterate 3 refine La rfl rfl rfl ?_
   refine L_then (kp [2, 3, 4] rfl) ?_
   refine V_ret (blk_r (blk_r (then_r (then_r (blk_r (then_r ?_))))))
   refine Leave.nil (.tmp rfl (.tmp rfl (.tmp rfl .nil))) ?_
   first | (rw [ck_air (e := 2) hd hk0 (by omega) hkp (by unfold errAir Veh.ar; rw [if_pos (by first | exact .inl ⟨by omega, by omega⟩ | exact .inr ⟨by omega, by rw [show k.toNat - 1 = (k - 1).toNat by omega]; omega⟩)]) (by decide)]; rfl) | (have hne : ¬((k.toNat = 0 ∧ (v.air.getD k.toNat airZ).frm ≠ 0) ∨ (0 < k.toNat ∧ (v.air.getD k.toNat airZ).frm ≤ (v.air.getD (k.toNat - 1) airZ).frm)) := (by rw [show k.toNat - 1 = (k - 1).toNat by omega]; rintro (⟨h1, h2⟩ | ⟨h1, h2⟩) <;> omega); rw [ck_air (e := 7) hd hk0 (by omega) hkp (by unfold errAir Veh.ar; rw [if_neg hne, if_pos (by first | exact .inl (by omega) | exact .inr (by assumption))]) (by decide)]; rfl) | (rw [ck_ph hd hk0 ha0 hp12 (by omega) hkp (errPh_7 (by simp only [phBad, Veh.ph, Bool.or_eq_true, Bool.or_eq_false_iff, Bool.false_eq_true, or_true, true_or, or_false, false_or, and_true, true_and, and_self, *]))]; rfl) | (rw [ck_pc (e := 6) hd hk0 ha0 hp12 hp0 hq6 (by omega) hkp (errPc_6 (by assumption)) (by decide)]; rfl) | (rw [ck_pc (e := 5) hd hk0 ha0 hp12 hp0 hq6 (by omega) hkp (errPc_5 (by assumption) hdu) (by decide)]; rfl) | (rw [ck_pc (e := 7) hd hk0 ha0 hp12 hp0 hq6 (by omega) hkp (errPc_7 (by assumption) hdu (by simp only [pcBad, Veh.pc, Bool.or_eq_true, Bool.or_eq_false_iff, Bool.false_eq_true, or_true, true_or, or_false, false_or, and_true, true_and, and_self, *])) (by decide)]; rfl) | (rw [checkV_phs hd ha0 (by assumption)]; rfl) | (rw [checkV_pcs hd ha0 hp12 hp0 (by omega)]; rfl) | (rw [checkV_ok hd ha0 hp12 hp0 hq6 hq0]; rfl)
  intro c17; try simp only [td] at c17
  have hdu : dupPc v k.toNat = false := by rw [← dupPc_take (by omega)]; exact c17
  refine Vs rfl ?_
  refine Lp rfl (p_fieldo fo49_1 rfl rfl) ?_
  refine Lr rfl (rl ag3 rfl rfl rfl) ?_
  refine Lc rfl rfl rfl rfl (fun w hg => fout_c _ _ _ w) ?_
  refine Lm rfl rfl rfl ?_
  refine L_cases (d := 134) rfl ?_ ?_
  ·intro g12; have g12' := g12; try simp only [td] at g12'
   iterate 5 refine L_no rfl rfl rfl g12 ?_
   refine Lp rfl (p_pick_t rfl rfl g12 rfl) ?_
   refine Lm rfl rfl rfl ?_
   iterate 4 refine L_no rfl rfl rfl rfl ?_
   refine Lp rfl (p_pick_t rfl rfl rfl rfl) ?_
   refine Lm rfl rfl rfl ?_
   iterate 3 refine L_no rfl rfl rfl rfl ?_
   refine Lp rfl (p_pick_t rfl rfl rfl rfl) ?_
   refine La rfl rfl rfl ?_
   refine L_then (kp [1, 9, 109, 110, 111, 130] rfl) ?_
   refine V_cond_t rfl rfl ?_
   refine Vs rfl ?_
   refine Lm rfl rfl rfl ?_
   iterate 3 refine La rfl rfl rfl ?_
   refine L_then (kp [2, 3, 4] rfl) ?_
   refine V_ret (blk_r (blk_r (then_r (then_r (blk_r (then_r ?_))))))
   refine Leave.nil (.tmp rfl (.tmp rfl (.tmp rfl .nil))) ?_
   first | (rw [ck_air (e := 2) hd hk0 (by omega) hkp (by unfold errAir Veh.ar; rw [if_pos (by first | exact .inl ⟨by omega, by omega⟩ | exact .inr ⟨by omega, by rw [show k.toNat - 1 = (k - 1).toNat by omega]; omega⟩)]) (by decide)]; rfl) | (have hne : ¬((k.toNat = 0 ∧ (v.air.getD k.toNat airZ).frm ≠ 0) ∨ (0 < k.toNat ∧ (v.air.getD k.toNat airZ).frm ≤ (v.air.getD (k.toNat - 1) airZ).frm)) := (by rw [show k.toNat - 1 = (k - 1).toNat by omega]; rintro (⟨h1, h2⟩ | ⟨h1, h2⟩) <;> omega); rw [ck_air (e := 7) hd hk0 (by omega) hkp (by unfold errAir Veh.ar; rw [if_neg hne, if_pos (by first | exact .inl (by omega) | exact .inr (by assumption))]) (by decide)]; rfl) | (rw [ck_ph hd hk0 ha0 hp12 (by omega) hkp (errPh_7 (by simp only [phBad, Veh.ph, Bool.or_eq_true, Bool.or_eq_false_iff, Bool.false_eq_true, or_true, true_or, or_false, false_or, and_true, true_and, and_self, *]))]; rfl) | (rw [ck_pc (e := 6) hd hk0 ha0 hp12 hp0 hq6 (by omega) hkp (errPc_6 (by assumption)) (by decide)]; rfl) | (rw [ck_pc (e := 5) hd hk0 ha0 hp12 hp0 hq6 (by omega) hkp (errPc_5 (by assumption) hdu) (by decide)]; rfl) | (rw [ck_pc (e := 7) hd hk0 ha0 hp12 hp0 hq6 (by omega) hkp (errPc_7 (by assumption) hdu (by simp only [pcBad, Veh.pc, Bool.or_eq_true, Bool.or_eq_false_iff, Bool.false_eq_true, or_true, true_or, or_false, false_or, and_true, true_and, and_self, *])) (by decide)]; rfl) | (rw [checkV_phs hd ha0 (by assumption)]; rfl) | (rw [checkV_pcs hd ha0 hp12 hp0 (by omega)]; rfl) | (rw [checkV_ok hd ha0 hp12 hp0 hq6 hq0]; rfl)
  intro g12; have g12' := g12; try simp only [td] at g12'
  refine L_yes rfl rfl rfl g12 (X_p (p_fieldo fo49_2 rfl rfl) ?_)
  refine L_yes rfl rfl rfl g12 (X_rd (rlA (vs := [_, _]) ag23 sz23 rfl rfl rfl) ?_)
  refine L_yes rfl rfl rfl g12 (X_p (p_fieldo fo49_3 rfl rfl) ?_)
  refine L_yes rfl rfl rfl g12 (X_rd (rlA (vs := [_, _]) ag23 sz23 rfl rfl rfl) ?_)
  refine L_yes rfl rfl rfl g12 (X_wr (w_callP rfl rfl rfl (fun w hg => fheavy_c (v.pieces.getD k.toNat pcZ).mass (v.pieces.getD k.toNat pcZ).drag w)) ?_)
  rintro _ _ ⟨rfl, rfl⟩
  refine Lp rfl (p_pick_f rfl rfl g12 rfl) ?_
  refine Lm rfl rfl rfl ?_
  refine L_cases (d := 141) rfl ?_ ?_
  ·intro g13; have g13' := g13; try simp only [td] at g13'
   iterate 4 refine L_no rfl rfl rfl g13 ?_
   refine Lp rfl (p_pick_t rfl rfl g13 rfl) ?_
   refine Lm rfl rfl rfl ?_
   iterate 3 refine L_no rfl rfl rfl rfl ?_
   refine Lp rfl (p_pick_t rfl rfl rfl rfl) ?_
   refine La rfl rfl rfl ?_
   refine L_then (kp [1, 9, 109, 110, 111, 130] rfl) ?_
   refine V_cond_t rfl rfl ?_
   refine Vs rfl ?_
   refine Lm rfl rfl rfl ?_
   iterate 3 refine La rfl rfl rfl ?_
   refine L_then (kp [2, 3, 4] rfl) ?_
   refine V_ret (blk_r (blk_r (then_r (then_r (blk_r (then_r ?_))))))
   refine Leave.nil (.tmp rfl (.tmp rfl (.tmp rfl .nil))) ?_
   first | (rw [ck_air (e := 2) hd hk0 (by omega) hkp (by unfold errAir Veh.ar; rw [if_pos (by first | exact .inl ⟨by omega, by omega⟩ | exact .inr ⟨by omega, by rw [show k.toNat - 1 = (k - 1).toNat by omega]; omega⟩)]) (by decide)]; rfl) | (have hne : ¬((k.toNat = 0 ∧ (v.air.getD k.toNat airZ).frm ≠ 0) ∨ (0 < k.toNat ∧ (v.air.getD k.toNat airZ).frm ≤ (v.air.getD (k.toNat - 1) airZ).frm)) := (by rw [show k.toNat - 1 = (k - 1).toNat by omega]; rintro (⟨h1, h2⟩ | ⟨h1, h2⟩) <;> omega); rw [ck_air (e := 7) hd hk0 (by omega) hkp (by unfold errAir Veh.ar; rw [if_neg hne, if_pos (by first | exact .inl (by omega) | exact .inr (by assumption))]) (by decide)]; rfl) | (rw [ck_ph hd hk0 ha0 hp12 (by omega) hkp (errPh_7 (by simp only [phBad, Veh.ph, Bool.or_eq_true, Bool.or_eq_false_iff, Bool.false_eq_true, or_true, true_or, or_false, false_or, and_true, true_and, and_self, *]))]; rfl) | (rw [ck_pc (e := 6) hd hk0 ha0 hp12 hp0 hq6 (by omega) hkp (errPc_6 (by assumption)) (by decide)]; rfl) | (rw [ck_pc (e := 5) hd hk0 ha0 hp12 hp0 hq6 (by omega) hkp (errPc_5 (by assumption) hdu) (by decide)]; rfl) | (rw [ck_pc (e := 7) hd hk0 ha0 hp12 hp0 hq6 (by omega) hkp (errPc_7 (by assumption) hdu (by simp only [pcBad, Veh.pc, Bool.or_eq_true, Bool.or_eq_false_iff, Bool.false_eq_true, or_true, true_or, or_false, false_or, and_true, true_and, and_self, *])) (by decide)]; rfl) | (rw [checkV_phs hd ha0 (by assumption)]; rfl) | (rw [checkV_pcs hd ha0 hp12 hp0 (by omega)]; rfl) | (rw [checkV_ok hd ha0 hp12 hp0 hq6 hq0]; rfl)
  intro g13; have g13' := g13; try simp only [td] at g13'
  refine L_yes rfl rfl rfl g13 (X_p (p_fieldo fo49_4 rfl rfl) ?_)
  refine L_yes rfl rfl rfl g13 (X_rd (rlA (vs := [_, _, _, _, _, _]) ag44 sz44 rfl rfl rfl) ?_)
  refine L_yes rfl rfl rfl g13 (X_wr (w_callP rfl rfl rfl (fun w hg => ftilted_c (v.pieces.getD k.toNat pcZ).kick w)) ?_)
  rintro _ _ ⟨rfl, rfl⟩
  refine L_yes rfl rfl rfl g13 (X_wr (w_callP rfl rfl rfl (fun w hg => fwide_c (v.pieces.getD k.toNat pcZ).kick 1000000 (by decide) w)) ?_)
  rintro _ _ ⟨rfl, rfl⟩
  refine Lp rfl (p_pick_f rfl rfl g13 rfl) ?_
  refine Lm rfl rfl rfl ?_
  refine L_cases (d := 147) rfl ?_ ?_
  ·intro g14; have g14' := g14; try simp only [td] at g14'
   iterate 3 refine L_no rfl rfl rfl g14 ?_
   refine Lp rfl (p_pick_t rfl rfl g14 rfl) ?_
   refine La rfl rfl rfl ?_
   refine L_then (kp [1, 9, 109, 110, 111, 130] rfl) ?_
   refine V_cond_t rfl rfl ?_
   refine Vs rfl ?_
   refine Lm rfl rfl rfl ?_
   iterate 3 refine La rfl rfl rfl ?_
   refine L_then (kp [2, 3, 4] rfl) ?_
   refine V_ret (blk_r (blk_r (then_r (then_r (blk_r (then_r ?_))))))
   refine Leave.nil (.tmp rfl (.tmp rfl (.tmp rfl .nil))) ?_
   first | (rw [ck_air (e := 2) hd hk0 (by omega) hkp (by unfold errAir Veh.ar; rw [if_pos (by first | exact .inl ⟨by omega, by omega⟩ | exact .inr ⟨by omega, by rw [show k.toNat - 1 = (k - 1).toNat by omega]; omega⟩)]) (by decide)]; rfl) | (have hne : ¬((k.toNat = 0 ∧ (v.air.getD k.toNat airZ).frm ≠ 0) ∨ (0 < k.toNat ∧ (v.air.getD k.toNat airZ).frm ≤ (v.air.getD (k.toNat - 1) airZ).frm)) := (by rw [show k.toNat - 1 = (k - 1).toNat by omega]; rintro (⟨h1, h2⟩ | ⟨h1, h2⟩) <;> omega); rw [ck_air (e := 7) hd hk0 (by omega) hkp (by unfold errAir Veh.ar; rw [if_neg hne, if_pos (by first | exact .inl (by omega) | exact .inr (by assumption))]) (by decide)]; rfl) | (rw [ck_ph hd hk0 ha0 hp12 (by omega) hkp (errPh_7 (by simp only [phBad, Veh.ph, Bool.or_eq_true, Bool.or_eq_false_iff, Bool.false_eq_true, or_true, true_or, or_false, false_or, and_true, true_and, and_self, *]))]; rfl) | (rw [ck_pc (e := 6) hd hk0 ha0 hp12 hp0 hq6 (by omega) hkp (errPc_6 (by assumption)) (by decide)]; rfl) | (rw [ck_pc (e := 5) hd hk0 ha0 hp12 hp0 hq6 (by omega) hkp (errPc_5 (by assumption) hdu) (by decide)]; rfl) | (rw [ck_pc (e := 7) hd hk0 ha0 hp12 hp0 hq6 (by omega) hkp (errPc_7 (by assumption) hdu (by simp only [pcBad, Veh.pc, Bool.or_eq_true, Bool.or_eq_false_iff, Bool.false_eq_true, or_true, true_or, or_false, false_or, and_true, true_and, and_self, *])) (by decide)]; rfl) | (rw [checkV_phs hd ha0 (by assumption)]; rfl) | (rw [checkV_pcs hd ha0 hp12 hp0 (by omega)]; rfl) | (rw [checkV_ok hd ha0 hp12 hp0 hq6 hq0]; rfl)
  intro g14; have g14' := g14; try simp only [td] at g14'
  refine L_yes rfl rfl rfl g14 (X_p (p_fieldo fo49_5 rfl rfl) ?_)
  refine L_yes rfl rfl rfl g14 (X_rd (rl ag3 rfl rfl rfl) ?_)
  refine L_yes rfl rfl rfl g14 (X_wr (w_callP rfl rfl rfl (fun w hg => fout_c _ _ _ w)) ?_)
  rintro _ _ ⟨rfl, rfl⟩
  refine Lp rfl (p_pick_f rfl rfl g14 rfl) ?_
  refine La rfl rfl rfl ?_
  refine L_then (kp [1, 9, 109, 110, 111, 130] rfl) ?_
  refine V_cond rfl ?_ ?_
  ·intro c18; try simp only [td] at c18
   refine Vs rfl ?_
   refine Lm rfl rfl rfl ?_
   iterate 3 refine La rfl rfl rfl ?_
   refine L_then (kp [2, 3, 4] rfl) ?_
   refine V_ret (blk_r (blk_r (then_r (then_r (blk_r (then_r ?_))))))
   refine Leave.nil (.tmp rfl (.tmp rfl (.tmp rfl .nil))) ?_
   first | (rw [ck_air (e := 2) hd hk0 (by omega) hkp (by unfold errAir Veh.ar; rw [if_pos (by first | exact .inl ⟨by omega, by omega⟩ | exact .inr ⟨by omega, by rw [show k.toNat - 1 = (k - 1).toNat by omega]; omega⟩)]) (by decide)]; rfl) | (have hne : ¬((k.toNat = 0 ∧ (v.air.getD k.toNat airZ).frm ≠ 0) ∨ (0 < k.toNat ∧ (v.air.getD k.toNat airZ).frm ≤ (v.air.getD (k.toNat - 1) airZ).frm)) := (by rw [show k.toNat - 1 = (k - 1).toNat by omega]; rintro (⟨h1, h2⟩ | ⟨h1, h2⟩) <;> omega); rw [ck_air (e := 7) hd hk0 (by omega) hkp (by unfold errAir Veh.ar; rw [if_neg hne, if_pos (by first | exact .inl (by omega) | exact .inr (by assumption))]) (by decide)]; rfl) | (rw [ck_ph hd hk0 ha0 hp12 (by omega) hkp (errPh_7 (by simp only [phBad, Veh.ph, Bool.or_eq_true, Bool.or_eq_false_iff, Bool.false_eq_true, or_true, true_or, or_false, false_or, and_true, true_and, and_self, *]))]; rfl) | (rw [ck_pc (e := 6) hd hk0 ha0 hp12 hp0 hq6 (by omega) hkp (errPc_6 (by assumption)) (by decide)]; rfl) | (rw [ck_pc (e := 5) hd hk0 ha0 hp12 hp0 hq6 (by omega) hkp (errPc_5 (by assumption) hdu) (by decide)]; rfl) | (rw [ck_pc (e := 7) hd hk0 ha0 hp12 hp0 hq6 (by omega) hkp (errPc_7 (by assumption) hdu (by simp only [pcBad, Veh.pc, Bool.or_eq_true, Bool.or_eq_false_iff, Bool.false_eq_true, or_true, true_or, or_false, false_or, and_true, true_and, and_self, *])) (by decide)]; rfl) | (rw [checkV_phs hd ha0 (by assumption)]; rfl) | (rw [checkV_pcs hd ha0 hp12 hp0 (by omega)]; rfl) | (rw [checkV_ok hd ha0 hp12 hp0 hq6 hq0]; rfl)
  intro c18; try simp only [td] at c18
  refine V_skip (blk_n (blk_n (then_n ?_)))
  refine V_region rfl ?_
  first | refine Lp rfl (p_add' rfl rfl rfl (by unfold InI; omega)) ?_ | refine Lp rfl (p_add rfl rfl rfl) ?_
  refine Lm rfl rfl rfl ?_
  refine L_keep (kp [1, 109, 110, 111] rfl) (then_n ?_)
  refine ⟨k + 1, ?_, ?_, (.cons rfl (.cons rfl (.cons rfl (.cons rfl (.nil _))))), (by repeat (first | exact List.Sublist.refl _ | apply List.Sublist.cons_cons | apply List.Sublist.cons | apply List.sublist_append_of_sublist_right)), rfl⟩
  ·refine ⟨by omega, by omega, fun j hj => ?_⟩; by_cases e : (j : Int) < k
   ·exact hkp j e
   have ej : j = k.toNat := by omega
   rw [ej]; exact errPc_0 (by assumption) hdu (by simp only [pcBad, Veh.pc, Bool.or_eq_true, Bool.or_eq_false_iff, Bool.false_eq_true, or_true, true_or, or_false, false_or, and_true, true_and, and_self, *])
  omega
 intro c15; try simp only [td] at c15
 have hq0 : ∀ j : Nat, j < v.pieces.length → errPc v j = 0 := fun j hj => hkp j (by omega)
 refine V_exit (then_e (then_e (blk_e rfl (then_n ?_))))
 refine Vs rfl ?_
 iterate 3 refine La rfl rfl rfl ?_
 refine L_then (kp [2, 3, 4] rfl) ?_
 refine V_ret ?_
 refine Leave.nil (.tmp rfl (.tmp rfl (.tmp rfl .nil))) ?_
 first | (rw [ck_air (e := 2) hd hk0 (by omega) hkp (by unfold errAir Veh.ar; rw [if_pos (by first | exact .inl ⟨by omega, by omega⟩ | exact .inr ⟨by omega, by rw [show k.toNat - 1 = (k - 1).toNat by omega]; omega⟩)]) (by decide)]; rfl) | (have hne : ¬((k.toNat = 0 ∧ (v.air.getD k.toNat airZ).frm ≠ 0) ∨ (0 < k.toNat ∧ (v.air.getD k.toNat airZ).frm ≤ (v.air.getD (k.toNat - 1) airZ).frm)) := (by rw [show k.toNat - 1 = (k - 1).toNat by omega]; rintro (⟨h1, h2⟩ | ⟨h1, h2⟩) <;> omega); rw [ck_air (e := 7) hd hk0 (by omega) hkp (by unfold errAir Veh.ar; rw [if_neg hne, if_pos (by first | exact .inl (by omega) | exact .inr (by assumption))]) (by decide)]; rfl) | (rw [ck_ph hd hk0 ha0 hp12 (by omega) hkp (errPh_7 (by simp only [phBad, Veh.ph, Bool.or_eq_true, Bool.or_eq_false_iff, Bool.false_eq_true, or_true, true_or, or_false, false_or, and_true, true_and, and_self, *]))]; rfl) | (rw [ck_pc (e := 6) hd hk0 ha0 hp12 hp0 hq6 (by omega) hkp (errPc_6 (by assumption)) (by decide)]; rfl) | (rw [ck_pc (e := 5) hd hk0 ha0 hp12 hp0 hq6 (by omega) hkp (errPc_5 (by assumption) hdu) (by decide)]; rfl) | (rw [ck_pc (e := 7) hd hk0 ha0 hp12 hp0 hq6 (by omega) hkp (errPc_7 (by assumption) hdu (by simp only [pcBad, Veh.pc, Bool.or_eq_true, Bool.or_eq_false_iff, Bool.false_eq_true, or_true, true_or, or_false, false_or, and_true, true_and, and_self, *])) (by decide)]; rfl) | (rw [checkV_phs hd ha0 (by assumption)]; rfl) | (rw [checkV_pcs hd ha0 hp12 hp0 (by omega)]; rfl) | (rw [checkV_ok hd ha0 hp12 hp0 hq6 hq0]; rfl)
theorem fdir_c (d : Dir) (w : World) : FnP Try.prog 13 [.agg #[.int .i64 d.x, .int .i64 d.y, .int .i64 d.z]] w (.int .i64 (dirE d)) := by
 refine fn_pure Try.func13 rfl (by kernel_rfl) Try.ntmps13 Try.results13 rfl ?_
 refine Vs rfl ?_
 refine Lw rfl (w_box rfl rfl) ?_
 rintro _ _ ⟨b1, hb1, rfl, rfl⟩
 refine La rfl rfl rfl ?_
 refine L_then (kp [1] rfl) ?_
 refine V_seq ?_
 refine V_block ?_
 refine Vs rfl ?_
 refine Lp rfl (p_fieldo fo30_0 rfl rfl) ?_
 refine Lr rfl (rl ag3 rfl rfl rfl) ?_
 refine Lc rfl rfl rfl rfl (fun w hg => fout_c _ _ _ w) ?_
 refine Lm rfl rfl rfl ?_
 refine L_cases (d := 7) rfl ?_ ?_
 ·intro g1; have g1' := g1; try simp only [td] at g1'
  iterate 3 refine L_no rfl rfl rfl g1 ?_
  refine Lp rfl (p_pick_t rfl rfl g1 rfl) ?_
  refine Lm rfl rfl rfl ?_
  iterate 3 refine L_no rfl rfl rfl rfl ?_
  refine Lp rfl (p_pick_t rfl rfl rfl rfl) ?_
  refine La rfl rfl rfl ?_
  refine L_then (kp [1, 3] rfl) ?_
  refine V_cond_t rfl rfl ?_
  refine Vs rfl ?_
  refine La rfl rfl rfl ?_
  refine L_then (kp [2] rfl) ?_
  refine V_ret (blk_r (then_r ?_))
  refine Leave.nil (.tmp rfl .nil) ?_
  show Value.int .i64 _ = _
  congr 1
  unfold dirE
  simp [*]
 intro g1; have g1' := g1; try simp only [td] at g1'
 refine L_yes rfl rfl rfl g1 (X_p (p_fieldo fo30_1 rfl rfl) ?_)
 refine L_yes rfl rfl rfl g1 (X_rd (rl ag3 rfl rfl rfl) ?_)
 refine L_yes rfl rfl rfl g1 (X_wr (w_callP rfl rfl rfl (fun w hg => fout_c _ _ _ w)) ?_)
 rintro _ _ ⟨rfl, rfl⟩
 refine Lp rfl (p_pick_f rfl rfl g1 rfl) ?_
 refine Lm rfl rfl rfl ?_
 refine L_cases (d := 12) rfl ?_ ?_
 ·intro g2; have g2' := g2; try simp only [td] at g2'
  iterate 3 refine L_no rfl rfl rfl g2 ?_
  refine Lp rfl (p_pick_t rfl rfl g2 rfl) ?_
  refine La rfl rfl rfl ?_
  refine L_then (kp [1, 3] rfl) ?_
  refine V_cond_t rfl rfl ?_
  refine Vs rfl ?_
  refine La rfl rfl rfl ?_
  refine L_then (kp [2] rfl) ?_
  refine V_ret (blk_r (then_r ?_))
  refine Leave.nil (.tmp rfl .nil) ?_
  show Value.int .i64 _ = _
  congr 1
  unfold dirE
  simp [*]
 intro g2; have g2' := g2; try simp only [td] at g2'
 refine L_yes rfl rfl rfl g2 (X_p (p_fieldo fo30_2 rfl rfl) ?_)
 refine L_yes rfl rfl rfl g2 (X_rd (rl ag3 rfl rfl rfl) ?_)
 refine L_yes rfl rfl rfl g2 (X_wr (w_callP rfl rfl rfl (fun w hg => fout_c _ _ _ w)) ?_)
 rintro _ _ ⟨rfl, rfl⟩
 refine Lp rfl (p_pick_f rfl rfl g2 rfl) ?_
 refine La rfl rfl rfl ?_
 refine L_then (kp [1, 3] rfl) ?_
 refine V_cond rfl ?_ ?_
 ·intro c1; try simp only [td] at c1
  refine Vs rfl ?_
  refine La rfl rfl rfl ?_
  refine L_then (kp [2] rfl) ?_
  refine V_ret (blk_r (then_r ?_))
  refine Leave.nil (.tmp rfl .nil) ?_
  show Value.int .i64 _ = _
  congr 1
  unfold dirE
  simp [*]
 intro c1; try simp only [td] at c1
 have q1 := mul_abs (a := d.x) (b := d.x) (A := 10000) (B := 10000) (by omega) (by simp only [oP_false] at *; omega) (by simp only [oP_false] at *; omega)
 have q2 := mul_abs (a := d.y) (b := d.y) (A := 10000) (B := 10000) (by omega) (by simp only [oP_false] at *; omega) (by simp only [oP_false] at *; omega)
 have q3 := mul_abs (a := d.z) (b := d.z) (A := 10000) (B := 10000) (by omega) (by simp only [oP_false] at *; omega) (by simp only [oP_false] at *; omega)
 refine Vs rfl ?_
 refine Lp rfl (p_fieldo fo30_0 rfl rfl) ?_
 refine Lr rfl (rl ag3 rfl rfl rfl) ?_
 refine Lp rfl (p_fieldo fo30_0 rfl rfl) ?_
 refine Lr rfl (rl ag3 rfl rfl rfl) ?_
 refine Lp rfl (p_mul' rfl rfl rfl (by unfold InI; omega)) ?_
 refine Lp rfl (p_fieldo fo30_1 rfl rfl) ?_
 refine Lr rfl (rl ag3 rfl rfl rfl) ?_
 refine Lp rfl (p_fieldo fo30_1 rfl rfl) ?_
 refine Lr rfl (rl ag3 rfl rfl rfl) ?_
 refine Lp rfl (p_mul' rfl rfl rfl (by unfold InI; omega)) ?_
 first | refine Lp rfl (p_add' rfl rfl rfl (by unfold InI; omega)) ?_ | refine Lp rfl (p_add rfl rfl rfl) ?_
 refine Lp rfl (p_fieldo fo30_2 rfl rfl) ?_
 refine Lr rfl (rl ag3 rfl rfl rfl) ?_
 refine Lp rfl (p_fieldo fo30_2 rfl rfl) ?_
 refine Lr rfl (rl ag3 rfl rfl rfl) ?_
 refine Lp rfl (p_mul' rfl rfl rfl (by unfold InI; omega)) ?_
 first | refine Lp rfl (p_add' rfl rfl rfl (by unfold InI; omega)) ?_ | refine Lp rfl (p_add rfl rfl rfl) ?_
 refine Lc rfl rfl rfl rfl (fun w hg => fout_c _ _ _ w) ?_
 refine La rfl rfl rfl ?_
 refine L_then (kp [17] rfl) ?_
 refine V_cond rfl ?_ ?_
 ·intro c2; try simp only [td] at c2
  refine Vs rfl ?_
  refine La rfl rfl rfl ?_
  refine L_then (kp [2] rfl) ?_
  refine V_ret (blk_r (then_r ?_))
  refine Leave.nil (.tmp rfl .nil) ?_
  show Value.int .i64 _ = _
  congr 1
  unfold dirE
  simp [*]
 intro c2; try simp only [td] at c2
 refine V_skip (blk_n (then_n ?_))
 refine Vs rfl ?_
 refine La rfl rfl rfl ?_
 refine L_then (kp [2] rfl) ?_
 refine V_ret ?_
 refine Leave.nil (.tmp rfl .nil) ?_
 show Value.int .i64 _ = _
 congr 1
 unfold dirE
 simp [*]
theorem wstorm1_c (n : Int) (w : World) : FnP Try.prog 121 [.int .i64 n] w (.bool (oP n (-20000) 20000)) := by
 refine fn_pure Try.func121 rfl (by kernel_rfl) Try.ntmps121 Try.results121 rfl ?_
 refine Vs rfl ?_
 refine La rfl rfl rfl ?_
 refine L_then (kp [0] rfl) ?_
 refine Vs rfl ?_
 refine Lm rfl rfl rfl ?_
 refine Lc rfl rfl rfl rfl (fun w hg => wout_c _ _ _ w) ?_
 refine La rfl rfl rfl ?_
 refine L_then (kp [2] rfl) ?_
 refine V_ret ?_
 refine Leave.nil (.tmp rfl .nil) ?_
 rfl
theorem wstorm_c (l : List Int) (v : Value) (w : World) (hv : SliceR w 1 v (l.map fun n => [Value.int .i64 n])) (hl : (l.length : Int) ≤ 9223372036854775806) : FnP Try.prog 113 [v] w (.bool (l.any fun n => oP n (-20000) 20000)) := by
 refine fn_pure Try.func113 rfl (by kernel_rfl) Try.ntmps113 Try.results113 rfl ?_
 refine Vs rfl ?_
 refine La rfl rfl rfl ?_
 refine L_then (kp [0] rfl) ?_
 refine Vs rfl ?_
 refine Lm rfl rfl rfl ?_
 refine Lc rfl rfl rfl rfl (fun w hg => contInt_c l _ _ _ _ w (hv.good hg) hl (fun x w' he => wstorm1_c x w')) ?_
 refine La rfl rfl rfl ?_
 refine L_then (kp [2] rfl) ?_
 refine V_ret ?_
 refine Leave.nil (.tmp rfl .nil) ?_
 rfl
theorem wband_c (b : Fl.Band) (frm : Int) (hf : -1000000000000 ≤ frm ∧ frm ≤ 1000000000000) (w : World) : FnP Try.prog 94 [.agg (Fl.Band.cells b).toArray, .int .i64 frm] w (.int .i64 (bandE b frm)) := by
 refine fn_pure Try.func94 rfl (by kernel_rfl) Try.ntmps94 Try.results94 rfl ?_
 refine Vs rfl ?_
 refine Lw rfl (w_box rfl rfl) ?_
 rintro _ _ ⟨b1, hb1, rfl, rfl⟩
 refine La rfl rfl rfl ?_
 refine L_then (kp [1, 2] rfl) ?_
 refine V_seq ?_
 refine V_block ?_
 refine Vs rfl ?_
 refine Lp rfl (p_fieldo fo51_0 rfl rfl) ?_
 refine Lr rfl (rl ag3 rfl rfl rfl) ?_
 refine Lm rfl rfl rfl ?_
 refine Lp rfl (p_neq rfl rfl rfl) ?_
 refine La rfl rfl rfl ?_
 refine L_then (kp [1, 2, 5] rfl) ?_
 refine V_cond rfl ?_ ?_
 ·intro c1; try simp only [td] at c1
  refine Vs rfl ?_
  refine La rfl rfl rfl ?_
  refine L_then (kp [4] rfl) ?_
  refine V_ret (blk_r (then_r ?_))
  refine Leave.nil (.tmp rfl .nil) ?_
  show Value.int .i64 _ = _
  congr 1
  unfold bandE stormB
  simp_all
 intro c1; try simp only [td] at c1
 refine Vs rfl ?_
 refine Lp rfl (p_fieldo fo51_1 rfl rfl) ?_
 refine Lr rfl (rl ag3 rfl rfl rfl) ?_
 refine Lm rfl rfl rfl ?_
 first | refine Lp rfl (p_add' rfl rfl rfl (by unfold InI; omega)) ?_ | refine Lp rfl (p_add rfl rfl rfl) ?_
 refine Lc rfl rfl rfl rfl (fun w hg => wout_c _ _ _ w) ?_
 refine La rfl rfl rfl ?_
 refine L_then (kp [2, 10] rfl) ?_
 refine V_cond rfl ?_ ?_
 ·intro c2; try simp only [td] at c2
  refine Vs rfl ?_
  refine La rfl rfl rfl ?_
  refine L_then (kp [4] rfl) ?_
  refine V_ret (blk_r (then_r ?_))
  refine Leave.nil (.tmp rfl .nil) ?_
  show Value.int .i64 _ = _
  congr 1
  unfold bandE stormB
  simp_all
 intro c2; try simp only [td] at c2
 refine Vs rfl ?_
 refine Lp rfl (p_fieldo fo51_2 rfl rfl) ?_
 refine Lp rfl (p_fieldo fo23_0 rfl rfl) ?_
 refine Lr rfl (rl ag3 rfl rfl rfl) ?_
 refine Lp rfl (p_fieldo fo51_2 rfl rfl) ?_
 refine Lp rfl (p_fieldo fo23_1 rfl rfl) ?_
 refine Lr rfl (rl ag3 rfl rfl rfl) ?_
 refine Lp rfl (p_fieldo fo51_3 rfl rfl) ?_
 refine Lp rfl (p_fieldo fo23_0 rfl rfl) ?_
 refine Lr rfl (rl ag3 rfl rfl rfl) ?_
 refine Lp rfl (p_fieldo fo51_3 rfl rfl) ?_
 refine Lp rfl (p_fieldo fo23_1 rfl rfl) ?_
 refine Lr rfl (rl ag3 rfl rfl rfl) ?_
 refine Lw rfl (w_slice (r := [_, _, _, _]) un166 sz3 zr3 rfl (by decide) rfl (by decide) rfl rfl) ?_
 rintro _ _ ⟨b2, hb2, rfl, rfl⟩
 refine Lc rfl rfl rfl rfl (fun w hg => wstorm_c [b.x.lo, b.x.hi, b.y.lo, b.y.hi] _ w (own_ints (l := [b.x.lo, b.x.hi, b.y.lo, b.y.hi]) (hg.own _ (by repeat first | exact mH | apply mT)) rfl (by decide)) (by simp)) ?_
 refine Lm rfl rfl rfl ?_
 refine L_cases (d := 31) rfl ?_ ?_
 ·intro g1; have g1' := g1; try simp only [td] at g1'
  iterate 7 refine L_no rfl rfl rfl g1 ?_
  refine Lp rfl (p_pick_t rfl rfl g1 rfl) ?_
  refine Lm rfl rfl rfl ?_
  iterate 7 refine L_no rfl rfl rfl rfl ?_
  refine Lp rfl (p_pick_t rfl rfl rfl rfl) ?_
  refine La rfl rfl rfl ?_
  refine L_then (kp [16] rfl) ?_
  refine V_cond_t rfl rfl ?_
  refine Vs rfl ?_
  refine La rfl rfl rfl ?_
  refine L_then (kp [4] rfl) ?_
  refine V_ret (blk_r (then_r ?_))
  refine Leave.nil (.tmp rfl .nil) ?_
  show Value.int .i64 _ = _
  congr 1
  unfold bandE stormB
  simp_all
 intro g1; have g1' := g1; try simp only [td] at g1'
 refine L_yes rfl rfl rfl g1 (X_p (p_fieldo fo51_2 rfl rfl) ?_)
 refine L_yes rfl rfl rfl g1 (X_p (p_fieldo fo23_0 rfl rfl) ?_)
 refine L_yes rfl rfl rfl g1 (X_rd (rl ag3 rfl rfl rfl) ?_)
 refine L_yes rfl rfl rfl g1 (X_p (p_fieldo fo51_2 rfl rfl) ?_)
 refine L_yes rfl rfl rfl g1 (X_p (p_fieldo fo23_1 rfl rfl) ?_)
 refine L_yes rfl rfl rfl g1 (X_rd (rl ag3 rfl rfl rfl) ?_)
 refine L_yes rfl rfl rfl g1 (X_p (p_gtr rfl rfl rfl) ?_)
 refine Lp rfl (p_pick_f rfl rfl g1 rfl) ?_
 refine Lm rfl rfl rfl ?_
 refine L_cases (d := 40) rfl ?_ ?_
 ·intro g2; have g2' := g2; try simp only [td] at g2'
  iterate 7 refine L_no rfl rfl rfl g2 ?_
  refine Lp rfl (p_pick_t rfl rfl g2 rfl) ?_
  refine La rfl rfl rfl ?_
  refine L_then (kp [16] rfl) ?_
  refine V_cond_t rfl rfl ?_
  refine Vs rfl ?_
  refine La rfl rfl rfl ?_
  refine L_then (kp [4] rfl) ?_
  refine V_ret (blk_r (then_r ?_))
  refine Leave.nil (.tmp rfl .nil) ?_
  show Value.int .i64 _ = _
  congr 1
  unfold bandE stormB
  simp_all
 intro g2; have g2' := g2; try simp only [td] at g2'
 refine L_yes rfl rfl rfl g2 (X_p (p_fieldo fo51_3 rfl rfl) ?_)
 refine L_yes rfl rfl rfl g2 (X_p (p_fieldo fo23_0 rfl rfl) ?_)
 refine L_yes rfl rfl rfl g2 (X_rd (rl ag3 rfl rfl rfl) ?_)
 refine L_yes rfl rfl rfl g2 (X_p (p_fieldo fo51_3 rfl rfl) ?_)
 refine L_yes rfl rfl rfl g2 (X_p (p_fieldo fo23_1 rfl rfl) ?_)
 refine L_yes rfl rfl rfl g2 (X_rd (rl ag3 rfl rfl rfl) ?_)
 refine L_yes rfl rfl rfl g2 (X_p (p_gtr rfl rfl rfl) ?_)
 refine Lp rfl (p_pick_f rfl rfl g2 rfl) ?_
 refine La rfl rfl rfl ?_
 refine L_then (kp [16] rfl) ?_
 refine V_cond rfl ?_ ?_
 ·intro c3; try simp only [td] at c3
  refine Vs rfl ?_
  refine La rfl rfl rfl ?_
  refine L_then (kp [4] rfl) ?_
  refine V_ret (blk_r (then_r ?_))
  refine Leave.nil (.tmp rfl .nil) ?_
  show Value.int .i64 _ = _
  congr 1
  unfold bandE stormB
  simp_all
 intro c3; try simp only [td] at c3
 refine V_skip (blk_n (then_n ?_))
 refine Vs rfl ?_
 refine La rfl rfl rfl ?_
 refine L_then (kp [4] rfl) ?_
 refine V_ret ?_
 refine Leave.nil (.tmp rfl .nil) ?_
 show Value.int .i64 _ = _
 congr 1
 unfold bandE stormB
 simp_all
theorem wbands_c (l : List Fl.Band) (x : Value) (w : World) (hb : BdsR w x l) : FnP Try.prog 62 [x] w (.tuple #[.int .i64 (checkB l).1, .int .i64 (checkB l).2]) := by
 have hB := hb
 obtain ⟨ba, bc, rfl, hbc, hbe⟩ := hb.sl.ex
 have hlb := hb.len
 simp only [List.length_map] at hbc hB ⊢
 refine fn_pure Try.func62 rfl (by kernel_rfl) Try.ntmps62 Try.results62 rfl ?_
 refine Vs rfl ?_
 iterate 2 refine La rfl rfl rfl ?_
 refine L_then (kp [0] rfl) ?_
 refine V_seq ?_
 refine Vs rfl ?_
 refine Lm rfl rfl rfl ?_
 refine Lp rfl (p_len isl37 rfl rfl) ?_
 refine Lc rfl rfl rfl rfl (fun w hg => wout_c _ _ _ w) ?_
 refine L_then (kp [0, 9] rfl) ?_
 refine V_cond rfl ?_ ?_
 ·intro c1; try simp only [td] at c1
  refine Vs rfl ?_
  iterate 2 refine La rfl rfl rfl ?_
  refine L_then (kp [2, 3] rfl) ?_
  refine V_ret (then_r ?_)
  refine Leave.nil (.tmp rfl (.tmp rfl .nil)) ?_
  have e : checkB l = (0, 3) := if_pos (by assumption)
  rw [e]; rfl
 intro c1; try simp only [td] at c1
 have h20 : oP l.length 1 20 = false := by assumption
 refine V_skip (then_n ?_)
 refine Vs rfl ?_
 refine La rfl rfl rfl ?_
 refine L_then (kp [0, 4] rfl) ?_
 refine V_seq ?_
 refine Vs rfl ?_
 refine Lm rfl rfl rfl ?_
 refine Lp rfl (p_len isl37 rfl rfl) ?_
 refine Lm rfl rfl rfl ?_
 refine L_then (kp [4, 10, 11, 12] rfl) ?_
 refine V_block ?_
 refine V_loop0 (γ := Int × Int) (kp [10, 11] rfl) (fun (k, frm) => [(12, .int .i64 k), (4, .int .i64 frm)]) (fun (k, frm) => 0 ≤ k ∧ k ≤ l.length ∧ frm = begB l k.toNat ∧ (0 ≤ frm ∧ frm ≤ 100000000) ∧ ∀ j : Nat, (j : Int) < k → errBd l j = 0) (fun (k, frm) => (l.length - k).toNat) ((0, 0)) (.cons rfl (.cons rfl (.nil _))) (⟨by omega, by omega, rfl, by decide, fun j hj => by omega⟩) ?_
 rintro ⟨k, frm⟩ hi
 obtain ⟨hk0, hk1, hfb, hbb, hkp⟩ := hi
 dsimp only at hk0 hk1 hfb hbb hkp ⊢
 refine Vs rfl ?_
 refine Lp rfl (p_lss rfl rfl rfl) ?_
 refine L_then (kp [4, 10, 11, 12, 13] rfl) ?_
 refine V_seq ?_
 refine V_cond rfl ?_ ?_
 ·intro c2; try simp only [td] at c2
  obtain ⟨tb, rfl, hc⟩ := hbe k.toNat _ (getD_cells (d := bdZ) (by omega))
  refine V_skip (then_n ?_)
  refine V_seq ?_
  refine V_block ?_
  refine Vs rfl ?_
  refine Lm rfl rfl rfl ?_
  refine Lp rfl (p_idx es37 rfl rfl rfl (by omega) (by omega)) ?_
  refine Lr rfl (r_loadBA ag51 sz51 rfl rfl hc rfl List.not_mem_nil) ?_
  refine Lw rfl (w_alloc zr51 rfl) ?_
  rintro _ _ ⟨b1, hb1, rfl, rfl⟩
  refine La rfl rfl rfl ?_
  refine Ls (cs' := [_, _, _, _, _, _]) rfl sz51 rfl rfl rfl rfl rfl rfl rfl ?_
  refine L_then (kp [4, 5, 6, 10, 11, 12] rfl) ?_
  refine V_seq ?_
  refine Vs rfl ?_
  refine Lr rfl (rlA (vs := [_, _, _, _, _, _]) ag51 sz51 rfl rfl rfl) ?_
  refine Lm rfl rfl rfl ?_
  refine Lc rfl rfl rfl rfl (fun w hg => wband_c (l.getD k.toNat bdZ) frm (by omega) w) ?_
  refine La rfl rfl rfl ?_
  refine L_then (kp [3, 5, 6, 10, 11, 12] rfl) ?_
  refine Vs rfl ?_
  refine Lm rfl rfl rfl ?_
  refine Lp rfl (p_neq rfl rfl rfl) ?_
  refine L_then (kp [3, 5, 6, 10, 11, 12, 21] rfl) ?_
  refine V_cond rfl ?_ ?_
  ·intro c3; try simp only [td] at c3
   have hbe7 := c3
   rw [hfb] at hbe7
   refine Vs rfl ?_
   iterate 2 refine Lm rfl rfl rfl ?_
   iterate 2 refine La rfl rfl rfl ?_
   refine L_then (kp [2, 3] rfl) ?_
   refine V_ret (then_r (blk_r (then_r (then_r (blk_r (then_r ?_))))))
   refine Leave.nil (.tmp rfl (.tmp rfl .nil)) ?_
   rw [cb_hit h20 hk0 (by omega) hkp (errBd_is k.toNat) hbe7, hfb]; rfl
  intro c3; try simp only [td] at c3
  have hbe0 : errBd l k.toNat = 0 := by rw [errBd_is, ← hfb]; unfold bdAt; omega
  have hbz := bd_zero hbe0
  simp only [bdAt] at hbz
  refine V_skip (then_n ?_)
  refine V_region rfl ?_
  refine Lp rfl (p_fieldo fo51_1 rfl rfl) ?_
  refine Lr rfl (rl ag3 rfl rfl rfl) ?_
  refine La rfl rfl rfl ?_
  refine L_keep (kp [4, 10, 11, 12] rfl) (blk_n (then_n ?_))
  refine V_region rfl ?_
  first | refine Lp rfl (p_add' rfl rfl rfl (by unfold InI; omega)) ?_ | refine Lp rfl (p_add rfl rfl rfl) ?_
  refine Lm rfl rfl rfl ?_
  refine L_keep (kp [4, 10, 11, 12] rfl) (then_n ?_)
  refine ⟨(k + 1, (l.getD k.toNat bdZ).to), ?_, ?_, (.cons rfl (.cons rfl (.cons rfl (.cons rfl (.nil _))))), (by repeat (first | exact List.Sublist.refl _ | apply List.Sublist.cons_cons | apply List.Sublist.cons | apply List.sublist_append_of_sublist_right)), rfl⟩
  ·refine ⟨by omega, by omega, (begB_succ hk0).symm, by dsimp only; omega, fun j hj => ?_⟩; by_cases e : (j : Int) < k
   ·exact hkp j e
   have ej : j = k.toNat := by dsimp only at hj; omega
   rw [ej]; exact hbe0
  dsimp only; omega
 intro c2; try simp only [td] at c2
 refine V_exit (then_e (then_e (blk_e rfl (then_n ?_))))
 refine Vs rfl ?_
 iterate 2 refine La rfl rfl rfl ?_
 refine L_then (kp [2, 3] rfl) ?_
 refine V_ret ?_
 refine Leave.nil (.tmp rfl (.tmp rfl .nil)) ?_
 rw [cb_ok h20 (fun j hj => hkp j (by omega))]; rfl

end Go.Proofs.Ytbncegfgjbdheaa

/- Ytbncegfgjbdheaa: parts of the air that heights meet; states; what flies at a tick. -/
set_option linter.all false
namespace Go.Proofs.Ytbncegfgjbdheaa
open Go.Vc Go.Tk Go.Fl
set_option maxRecDepth 100000
set_option maxHeartbeats 8000000 in
theorem fsome_c (z : Span) (frm : List Int) (of : List Ax) (vf vo : Value) (w : World) (hf : SliceR w 1 vf (frm.map fun n => [Value.int .i64 n])) (ho : SliceR w 6 vo (of.map axC)) (hl : frm.length = of.length) (hl2 : of.length ≤ 100) (hz : (-4611686018427387904 ≤ z.lo ∧ z.lo ≤ 4611686018427387903) ∧ (-4611686018427387904 ≤ z.hi ∧ z.hi ≤ 4611686018427387903)) (hfr : ∀ i, 0 ≤ frm.getD i 0 ∧ frm.getD i 0 ≤ 1000000000000) : FnP Try.prog 95 [.agg #[.int .i64 z.lo, .int .i64 z.hi], vf, vo] w (.agg #[.int .i64 (someT z frm of).x.lo, .int .i64 (someT z frm of).x.hi, .int .i64 (someT z frm of).y.lo, .int .i64 (someT z frm of).y.hi, .int .i64 (someT z frm of).z.lo, .int .i64 (someT z frm of).z.hi]) := by
 obtain ⟨fa, fc, rfl, hfc, hfe⟩ := hf.ex
 obtain ⟨oa, oc, rfl, hoc, hoe⟩ := ho.ex
 simp only [List.length_map] at hfc hoc ⊢
 refine fn_pure Try.func95 rfl (by kernel_rfl) Try.ntmps95 Try.results95 rfl ?_
 refine Vs rfl ?_
 refine Lw rfl (w_box rfl rfl) ?_
 rintro _ _ ⟨b1, hb1, rfl, rfl⟩
 refine Lw rfl (w_alloc zr103 rfl) ?_
 rintro _ _ ⟨b2, hb2, rfl, rfl⟩
 refine L_then (kp [1, 2, 3, 6] rfl) ?_
 refine Vs rfl ?_
 refine La rfl rfl rfl ?_
 refine L_then (kp [1, 2, 3, 6, 7] rfl) ?_
 refine V_seq ?_
 refine Vs rfl ?_
 refine Lm rfl rfl rfl ?_
 refine Lp rfl (p_len isl167 rfl rfl) ?_
 refine Lm rfl rfl rfl ?_
 refine L_then (kp [1, 2, 3, 6, 7, 12, 13, 14] rfl) ?_
 refine V_block ?_
 refine V_loop1 (γ := Int × Ax × Bool) (kp [1, 2, 3, 6, 12, 13] rfl) (fun (k, a, f) => [(14, .int .i64 k), (7, .bool f)]) (fun (k, a, f) => [(b2, .cells #[.int .i64 a.x.lo, .int .i64 a.x.hi, .int .i64 a.y.lo, .int .i64 a.y.hi, .int .i64 a.z.lo, .int .i64 a.z.hi] 103), (b1, .cells #[.int .i64 z.lo, .int .i64 z.hi] 97)]) (fun (k, a, f) => 0 ≤ k ∧ k ≤ of.length ∧ SomeI z frm of k.toNat a f) (fun (k, a, f) => (of.length - k).toNat) ((0, axZ, false)) (.cons rfl (.cons rfl (.nil _))) (by repeat (first | exact List.Sublist.refl _ | apply List.Sublist.cons_cons | apply List.Sublist.cons)) (⟨by omega, by omega, SomeI.zero⟩) ?_
 rintro ⟨k, a, f⟩ hi
 obtain ⟨hk0, hk1, hs⟩ := hi
 dsimp only at hk0 hk1 hs ⊢
 refine Vs rfl ?_
 refine Lp rfl (p_lss rfl rfl rfl) ?_
 refine L_then (kp [1, 2, 3, 6, 7, 12, 13, 14, 15] rfl) ?_
 refine V_seq ?_
 refine V_cond rfl ?_ ?_
 ·intro c1; try simp only [td] at c1
  obtain ⟨ob, rfl, hco⟩ := hoe k.toNat _ (getD_cells (f := axC) (d := axZ) (by omega))
  obtain ⟨fb, rfl, hcf⟩ := hfe k.toNat _ (getD_cells (f := fun n : Int => [Value.int .i64 n]) (d := 0) (by omega))
  have hcf1 : k + 1 < of.length → cellsAt w (fb.add ((k + 1).toNat * 1)) [Value.int .i64 (frm.getD (k + 1).toNat 0)] := fun h => by
   obtain ⟨b9, e9, h9⟩ := hfe (k + 1).toNat _ (getD_cells (f := fun n : Int => [Value.int .i64 n]) (d := 0) (by omega))
   injection e9 with e9
   subst e9; exact h9
  have e1 : (k + 1).toNat = k.toNat + 1 := by omega
  have hfk := hfr (k + 1).toNat
  refine V_skip (then_n ?_)
  refine V_seq ?_
  refine V_block ?_
  refine Vs rfl ?_
  refine Lm rfl rfl rfl ?_
  refine Lp rfl (p_idx es167 rfl rfl rfl (by omega) (by omega)) ?_
  refine Lr rfl (r_loadBA ag103 sz103 rfl rfl hco rfl List.not_mem_nil) ?_
  refine Lw rfl (w_alloc zr103 rfl) ?_
  rintro _ _ ⟨b3, hb3, rfl, rfl⟩
  refine La rfl rfl rfl ?_
  refine Ls (cs' := [_, _, _, _, _, _]) rfl sz103 rfl rfl rfl rfl rfl rfl rfl ?_
  refine L_then (kp [1, 2, 3, 6, 7, 8, 9, 12, 13, 14] rfl) ?_
  refine Vs rfl ?_
  iterate 2 refine La rfl rfl rfl ?_
  refine L_then (kp [1, 2, 3, 6, 7, 8, 9, 10, 11, 12, 13, 14] rfl) ?_
  refine V_seq ?_
  refine Vs rfl ?_
  refine Lm rfl rfl rfl ?_
  refine Lp rfl (p_gtr rfl rfl rfl) ?_
  refine L_then (kp [1, 2, 3, 6, 7, 8, 9, 10, 11, 12, 13, 14, 20] rfl) ?_
  refine V_cond rfl ?_ ?_
  ·intro c2; try simp only [td] at c2
   refine V_region rfl ?_
   iterate 2 refine Lm rfl rfl rfl ?_
   refine Lp rfl (p_idx es166 rfl rfl rfl (by omega) (by omega)) ?_
   refine Lr rfl (r_loadB ag3 rfl rfl hcf.zero List.not_mem_nil) ?_
   refine La rfl rfl rfl ?_
   refine L_then (kp [1, 2, 3, 6, 7, 8, 9, 10, 11, 12, 13, 14] rfl) ?_
   refine V_seq ?_
   refine Vs rfl ?_
   refine Lm rfl rfl rfl ?_
   first | refine Lp rfl (p_add' rfl rfl rfl (by unfold InI; omega)) ?_ | refine Lp rfl (p_add rfl rfl rfl) ?_
   refine Lm rfl rfl rfl ?_
   refine Lp rfl (p_len isl167 rfl rfl) ?_
   refine Lp rfl (p_lss rfl rfl rfl) ?_
   refine L_then (kp [1, 2, 3, 6, 7, 8, 9, 10, 11, 12, 13, 14, 29] rfl) ?_
   refine V_cond rfl ?_ ?_
   ·intro c3; try simp only [td] at c3
    refine V_region rfl ?_
    iterate 2 refine Lm rfl rfl rfl ?_
    first | refine Lp rfl (p_add' rfl rfl rfl (by unfold InI; omega)) ?_ | refine Lp rfl (p_add rfl rfl rfl) ?_
    refine Lp rfl (p_idx es166 rfl rfl rfl (by omega) (by omega)) ?_
    refine Lr rfl (r_loadB ag3 rfl rfl (hcf1 (by omega)).zero List.not_mem_nil) ?_
    first | refine Lp rfl (p_sub' rfl rfl rfl (by unfold InI; omega)) ?_ | refine Lp rfl (p_sub rfl rfl rfl) ?_
    refine La rfl rfl rfl ?_
    refine L_then (kp [1, 2, 3, 6, 7, 9, 10, 11, 12, 13, 14] rfl) ?_
    refine V_seq ?_
    refine Vs rfl ?_
    refine Lp rfl (p_fieldo fo97_1 rfl rfl) ?_
    refine Lr rfl (rl ag3 rfl rfl rfl) ?_
    refine Lm rfl rfl rfl ?_
    refine Lp rfl (p_lss rfl rfl rfl) ?_
    refine Lm rfl rfl rfl ?_
    refine L_cases (d := 40) rfl ?_ ?_
    ·intro g1; have g1' := g1; try simp only [td] at g1'
     iterate 4 refine L_no rfl rfl rfl g1 ?_
     refine Lp rfl (p_pick_t rfl rfl g1 rfl) ?_
     refine L_then (kp [1, 2, 3, 6, 7, 9, 12, 13, 14, 45] rfl) ?_
     refine V_cond_t rfl rfl ?_
     refine V_exit (then_e (blk_e rfl (then_n ?_)))
     refine V_region rfl ?_
     first | refine Lp rfl (p_add' rfl rfl rfl (by unfold InI; omega)) ?_ | refine Lp rfl (p_add rfl rfl rfl) ?_
     refine Lm rfl rfl rfl ?_
     refine L_keep (kp [1, 2, 3, 6, 7, 12, 13, 14] rfl) (then_n ?_)
     refine ⟨(k + 1, a, f), ?_, ?_, (.cons rfl (.cons rfl (.cons rfl (.cons rfl (.cons rfl (.cons rfl (.cons rfl (.cons rfl (.nil _))))))))), (by repeat (first | exact List.Sublist.refl _ | apply List.Sublist.cons_cons | apply List.Sublist.cons | apply List.sublist_append_of_sublist_right)), rfl⟩
     ·refine ⟨by omega, by omega, ?_⟩
      rw [e1] at *
      exact hs.skip (by first | exact skip_lo (by omega) (by omega) | exact skip_hi (by omega) (by omega) | (exfalso; omega))
     dsimp only; omega
    intro g1; have g1' := g1; try simp only [td] at g1'
    refine L_yes rfl rfl rfl g1 (X_p (p_fieldo fo97_0 rfl rfl) ?_)
    refine L_yes rfl rfl rfl g1 (X_rd (rl ag3 rfl rfl rfl) ?_)
    refine L_yes rfl rfl rfl g1 (X_p (p_move rfl rfl) ?_)
    refine L_yes rfl rfl rfl g1 (X_p (p_gtr rfl rfl rfl) ?_)
    refine Lp rfl (p_pick_f rfl rfl g1 rfl) ?_
    refine L_then (kp [1, 2, 3, 6, 7, 9, 12, 13, 14, 45] rfl) ?_
    refine V_cond rfl ?_ ?_
    ·intro c4; try simp only [td] at c4
     refine V_exit (then_e (blk_e rfl (then_n ?_)))
     refine V_region rfl ?_
     first | refine Lp rfl (p_add' rfl rfl rfl (by unfold InI; omega)) ?_ | refine Lp rfl (p_add rfl rfl rfl) ?_
     refine Lm rfl rfl rfl ?_
     refine L_keep (kp [1, 2, 3, 6, 7, 12, 13, 14] rfl) (then_n ?_)
     refine ⟨(k + 1, a, f), ?_, ?_, (.cons rfl (.cons rfl (.cons rfl (.cons rfl (.cons rfl (.cons rfl (.cons rfl (.cons rfl (.nil _))))))))), (by repeat (first | exact List.Sublist.refl _ | apply List.Sublist.cons_cons | apply List.Sublist.cons | apply List.sublist_append_of_sublist_right)), rfl⟩
     ·refine ⟨by omega, by omega, ?_⟩
      rw [e1] at *
      exact hs.skip (by first | exact skip_lo (by omega) (by omega) | exact skip_hi (by omega) (by omega) | (exfalso; omega))
     dsimp only; omega
    intro c4; try simp only [td] at c4
    refine V_skip (then_n ?_)
    refine V_seq ?_
    refine Vs rfl ?_
    refine Lm rfl rfl rfl ?_
    refine L_then (kp [1, 2, 3, 6, 9, 12, 13, 14, 46] rfl) ?_
    refine V_cond rfl ?_ ?_
    ·intro c5; try simp only [td] at c5
     refine V_region rfl ?_
     iterate 2 refine Lr rfl (rlA (vs := [_, _, _, _, _, _]) ag103 sz103 rfl rfl rfl) ?_
     refine Lc rfl rfl rfl rfl (fun w hg => feach_c a (of.getD k.toNat axZ) (Fl.hullA a (of.getD k.toNat axZ)) _ #[] w (fun w' he => fhull_c a.x (of.getD k.toNat axZ).x w') (fun w' he => fhull_c a.y (of.getD k.toNat axZ).y w') (fun w' he => fhull_c a.z (of.getD k.toNat axZ).z w')) ?_
     refine Ls (cs' := [_, _, _, _, _, _]) rfl sz103 rfl rfl rfl rfl rfl rfl rfl ?_
     refine L_then (kp [1, 2, 3, 6, 9, 12, 13, 14] rfl) ?_
     refine V_region rfl ?_
     refine Lr rfl (rlA (vs := [_, _, _, _, _, _]) ag103 sz103 rfl rfl rfl) ?_
     refine Ls (cs' := [_, _, _, _, _, _]) rfl sz103 rfl rfl rfl rfl rfl rfl rfl ?_
     refine La rfl rfl rfl ?_
     refine L_keep (kp [1, 2, 3, 6, 7, 12, 13, 14] rfl) (blk_n (then_n ?_))
     refine V_region rfl ?_
     first | refine Lp rfl (p_add' rfl rfl rfl (by unfold InI; omega)) ?_ | refine Lp rfl (p_add rfl rfl rfl) ?_
     refine Lm rfl rfl rfl ?_
     refine L_keep (kp [1, 2, 3, 6, 7, 12, 13, 14] rfl) (then_n ?_)
     refine ⟨(k + 1, Fl.hullA a (of.getD k.toNat axZ), true), ?_, ?_, (.cons rfl (.cons rfl (.cons rfl (.cons rfl (.cons rfl (.cons rfl (.cons rfl (.cons rfl (.nil _))))))))), (by repeat (first | exact List.Sublist.refl _ | apply List.Sublist.cons_cons | apply List.Sublist.cons | apply List.sublist_append_of_sublist_right)), rfl⟩
     ·refine ⟨by omega, by omega, ?_⟩
      have hft : f = true := by assumption
      rw [hft] at hs
      rw [e1] at *
      exact hs.more (by first | exact skip_no (by omega) (by omega) | (exfalso; omega))
     dsimp only; omega
    intro c5; try simp only [td] at c5
    refine V_skip (then_n ?_)
    refine V_region rfl ?_
    refine Lr rfl (rlA (vs := [_, _, _, _, _, _]) ag103 sz103 rfl rfl rfl) ?_
    refine Ls (cs' := [_, _, _, _, _, _]) rfl sz103 rfl rfl rfl rfl rfl rfl rfl ?_
    refine La rfl rfl rfl ?_
    refine L_keep (kp [1, 2, 3, 6, 7, 12, 13, 14] rfl) (blk_n (then_n ?_))
    refine V_region rfl ?_
    first | refine Lp rfl (p_add' rfl rfl rfl (by unfold InI; omega)) ?_ | refine Lp rfl (p_add rfl rfl rfl) ?_
    refine Lm rfl rfl rfl ?_
    refine L_keep (kp [1, 2, 3, 6, 7, 12, 13, 14] rfl) (then_n ?_)
    refine ⟨(k + 1, (of.getD k.toNat axZ), true), ?_, ?_, (.cons rfl (.cons rfl (.cons rfl (.cons rfl (.cons rfl (.cons rfl (.cons rfl (.cons rfl (.nil _))))))))), (by repeat (first | exact List.Sublist.refl _ | apply List.Sublist.cons_cons | apply List.Sublist.cons | apply List.sublist_append_of_sublist_right)), rfl⟩
    ·refine ⟨by omega, by omega, ?_⟩
     have hft : f = false := by assumption
     rw [hft] at hs
     rw [e1] at *
     exact hs.first (by first | exact skip_no (by omega) (by omega) | (exfalso; omega))
    dsimp only; omega
   intro c3; try simp only [td] at c3
   refine V_skip (then_n ?_)
   refine V_seq ?_
   refine Vs rfl ?_
   refine Lp rfl (p_fieldo fo97_1 rfl rfl) ?_
   refine Lr rfl (rl ag3 rfl rfl rfl) ?_
   refine Lm rfl rfl rfl ?_
   refine Lp rfl (p_lss rfl rfl rfl) ?_
   refine Lm rfl rfl rfl ?_
   refine L_cases (d := 40) rfl ?_ ?_
   ·intro g2; have g2' := g2; try simp only [td] at g2'
    iterate 4 refine L_no rfl rfl rfl g2 ?_
    refine Lp rfl (p_pick_t rfl rfl g2 rfl) ?_
    refine L_then (kp [1, 2, 3, 6, 7, 9, 12, 13, 14, 45] rfl) ?_
    refine V_cond_t rfl rfl ?_
    refine V_exit (then_e (blk_e rfl (then_n ?_)))
    refine V_region rfl ?_
    first | refine Lp rfl (p_add' rfl rfl rfl (by unfold InI; omega)) ?_ | refine Lp rfl (p_add rfl rfl rfl) ?_
    refine Lm rfl rfl rfl ?_
    refine L_keep (kp [1, 2, 3, 6, 7, 12, 13, 14] rfl) (then_n ?_)
    refine ⟨(k + 1, a, f), ?_, ?_, (.cons rfl (.cons rfl (.cons rfl (.cons rfl (.cons rfl (.cons rfl (.cons rfl (.cons rfl (.nil _))))))))), (by repeat (first | exact List.Sublist.refl _ | apply List.Sublist.cons_cons | apply List.Sublist.cons | apply List.sublist_append_of_sublist_right)), rfl⟩
    ·refine ⟨by omega, by omega, ?_⟩
     rw [e1] at *
     exact hs.skip (by first | exact skip_lo (by omega) (by omega) | exact skip_hi (by omega) (by omega) | (exfalso; omega))
    dsimp only; omega
   intro g2; have g2' := g2; try simp only [td] at g2'
   refine L_yes rfl rfl rfl g2 (X_p (p_fieldo fo97_0 rfl rfl) ?_)
   refine L_yes rfl rfl rfl g2 (X_rd (rl ag3 rfl rfl rfl) ?_)
   refine L_yes rfl rfl rfl g2 (X_p (p_move rfl rfl) ?_)
   refine L_yes rfl rfl rfl g2 (X_p (p_gtr rfl rfl rfl) ?_)
   refine Lp rfl (p_pick_f rfl rfl g2 rfl) ?_
   refine L_then (kp [1, 2, 3, 6, 7, 9, 12, 13, 14, 45] rfl) ?_
   refine V_cond rfl ?_ ?_
   ·intro c6; try simp only [td] at c6
    refine V_exit (then_e (blk_e rfl (then_n ?_)))
    refine V_region rfl ?_
    first | refine Lp rfl (p_add' rfl rfl rfl (by unfold InI; omega)) ?_ | refine Lp rfl (p_add rfl rfl rfl) ?_
    refine Lm rfl rfl rfl ?_
    refine L_keep (kp [1, 2, 3, 6, 7, 12, 13, 14] rfl) (then_n ?_)
    refine ⟨(k + 1, a, f), ?_, ?_, (.cons rfl (.cons rfl (.cons rfl (.cons rfl (.cons rfl (.cons rfl (.cons rfl (.cons rfl (.nil _))))))))), (by repeat (first | exact List.Sublist.refl _ | apply List.Sublist.cons_cons | apply List.Sublist.cons | apply List.sublist_append_of_sublist_right)), rfl⟩
    ·refine ⟨by omega, by omega, ?_⟩
     rw [e1] at *
     exact hs.skip (by first | exact skip_lo (by omega) (by omega) | exact skip_hi (by omega) (by omega) | (exfalso; omega))
    dsimp only; omega
   intro c6; try simp only [td] at c6
   refine V_skip (then_n ?_)
   refine V_seq ?_
   refine Vs rfl ?_
   refine Lm rfl rfl rfl ?_
   refine L_then (kp [1, 2, 3, 6, 9, 12, 13, 14, 46] rfl) ?_
   refine V_cond rfl ?_ ?_
   ·intro c7; try simp only [td] at c7
    refine V_region rfl ?_
    iterate 2 refine Lr rfl (rlA (vs := [_, _, _, _, _, _]) ag103 sz103 rfl rfl rfl) ?_
    refine Lc rfl rfl rfl rfl (fun w hg => feach_c a (of.getD k.toNat axZ) (Fl.hullA a (of.getD k.toNat axZ)) _ #[] w (fun w' he => fhull_c a.x (of.getD k.toNat axZ).x w') (fun w' he => fhull_c a.y (of.getD k.toNat axZ).y w') (fun w' he => fhull_c a.z (of.getD k.toNat axZ).z w')) ?_
    refine Ls (cs' := [_, _, _, _, _, _]) rfl sz103 rfl rfl rfl rfl rfl rfl rfl ?_
    refine L_then (kp [1, 2, 3, 6, 9, 12, 13, 14] rfl) ?_
    refine V_region rfl ?_
    refine Lr rfl (rlA (vs := [_, _, _, _, _, _]) ag103 sz103 rfl rfl rfl) ?_
    refine Ls (cs' := [_, _, _, _, _, _]) rfl sz103 rfl rfl rfl rfl rfl rfl rfl ?_
    refine La rfl rfl rfl ?_
    refine L_keep (kp [1, 2, 3, 6, 7, 12, 13, 14] rfl) (blk_n (then_n ?_))
    refine V_region rfl ?_
    first | refine Lp rfl (p_add' rfl rfl rfl (by unfold InI; omega)) ?_ | refine Lp rfl (p_add rfl rfl rfl) ?_
    refine Lm rfl rfl rfl ?_
    refine L_keep (kp [1, 2, 3, 6, 7, 12, 13, 14] rfl) (then_n ?_)
    refine ⟨(k + 1, Fl.hullA a (of.getD k.toNat axZ), true), ?_, ?_, (.cons rfl (.cons rfl (.cons rfl (.cons rfl (.cons rfl (.cons rfl (.cons rfl (.cons rfl (.nil _))))))))), (by repeat (first | exact List.Sublist.refl _ | apply List.Sublist.cons_cons | apply List.Sublist.cons | apply List.sublist_append_of_sublist_right)), rfl⟩
    ·refine ⟨by omega, by omega, ?_⟩
     have hft : f = true := by assumption
     rw [hft] at hs
     rw [e1] at *
     exact hs.more (by first | exact skip_no (by omega) (by omega) | (exfalso; omega))
    dsimp only; omega
   intro c7; try simp only [td] at c7
   refine V_skip (then_n ?_)
   refine V_region rfl ?_
   refine Lr rfl (rlA (vs := [_, _, _, _, _, _]) ag103 sz103 rfl rfl rfl) ?_
   refine Ls (cs' := [_, _, _, _, _, _]) rfl sz103 rfl rfl rfl rfl rfl rfl rfl ?_
   refine La rfl rfl rfl ?_
   refine L_keep (kp [1, 2, 3, 6, 7, 12, 13, 14] rfl) (blk_n (then_n ?_))
   refine V_region rfl ?_
   first | refine Lp rfl (p_add' rfl rfl rfl (by unfold InI; omega)) ?_ | refine Lp rfl (p_add rfl rfl rfl) ?_
   refine Lm rfl rfl rfl ?_
   refine L_keep (kp [1, 2, 3, 6, 7, 12, 13, 14] rfl) (then_n ?_)
   refine ⟨(k + 1, (of.getD k.toNat axZ), true), ?_, ?_, (.cons rfl (.cons rfl (.cons rfl (.cons rfl (.cons rfl (.cons rfl (.cons rfl (.cons rfl (.nil _))))))))), (by repeat (first | exact List.Sublist.refl _ | apply List.Sublist.cons_cons | apply List.Sublist.cons | apply List.sublist_append_of_sublist_right)), rfl⟩
   ·refine ⟨by omega, by omega, ?_⟩
    have hft : f = false := by assumption
    rw [hft] at hs
    rw [e1] at *
    exact hs.first (by first | exact skip_no (by omega) (by omega) | (exfalso; omega))
   dsimp only; omega
  intro c2; try simp only [td] at c2
  refine V_skip (then_n ?_)
  refine V_seq ?_
  refine Vs rfl ?_
  refine Lm rfl rfl rfl ?_
  first | refine Lp rfl (p_add' rfl rfl rfl (by unfold InI; omega)) ?_ | refine Lp rfl (p_add rfl rfl rfl) ?_
  refine Lm rfl rfl rfl ?_
  refine Lp rfl (p_len isl167 rfl rfl) ?_
  refine Lp rfl (p_lss rfl rfl rfl) ?_
  refine L_then (kp [1, 2, 3, 6, 7, 8, 9, 10, 11, 12, 13, 14, 29] rfl) ?_
  refine V_cond rfl ?_ ?_
  ·intro c8; try simp only [td] at c8
   refine V_region rfl ?_
   iterate 2 refine Lm rfl rfl rfl ?_
   first | refine Lp rfl (p_add' rfl rfl rfl (by unfold InI; omega)) ?_ | refine Lp rfl (p_add rfl rfl rfl) ?_
   refine Lp rfl (p_idx es166 rfl rfl rfl (by omega) (by omega)) ?_
   refine Lr rfl (r_loadB ag3 rfl rfl (hcf1 (by omega)).zero List.not_mem_nil) ?_
   first | refine Lp rfl (p_sub' rfl rfl rfl (by unfold InI; omega)) ?_ | refine Lp rfl (p_sub rfl rfl rfl) ?_
   refine La rfl rfl rfl ?_
   refine L_then (kp [1, 2, 3, 6, 7, 9, 10, 11, 12, 13, 14] rfl) ?_
   refine V_seq ?_
   refine Vs rfl ?_
   refine Lp rfl (p_fieldo fo97_1 rfl rfl) ?_
   refine Lr rfl (rl ag3 rfl rfl rfl) ?_
   refine Lm rfl rfl rfl ?_
   refine Lp rfl (p_lss rfl rfl rfl) ?_
   refine Lm rfl rfl rfl ?_
   refine L_cases (d := 40) rfl ?_ ?_
   ·intro g3; have g3' := g3; try simp only [td] at g3'
    iterate 4 refine L_no rfl rfl rfl g3 ?_
    refine Lp rfl (p_pick_t rfl rfl g3 rfl) ?_
    refine L_then (kp [1, 2, 3, 6, 7, 9, 12, 13, 14, 45] rfl) ?_
    refine V_cond_t rfl rfl ?_
    refine V_exit (then_e (blk_e rfl (then_n ?_)))
    refine V_region rfl ?_
    first | refine Lp rfl (p_add' rfl rfl rfl (by unfold InI; omega)) ?_ | refine Lp rfl (p_add rfl rfl rfl) ?_
    refine Lm rfl rfl rfl ?_
    refine L_keep (kp [1, 2, 3, 6, 7, 12, 13, 14] rfl) (then_n ?_)
    refine ⟨(k + 1, a, f), ?_, ?_, (.cons rfl (.cons rfl (.cons rfl (.cons rfl (.cons rfl (.cons rfl (.cons rfl (.cons rfl (.nil _))))))))), (by repeat (first | exact List.Sublist.refl _ | apply List.Sublist.cons_cons | apply List.Sublist.cons | apply List.sublist_append_of_sublist_right)), rfl⟩
    ·refine ⟨by omega, by omega, ?_⟩
     rw [e1] at *
     exact hs.skip (by first | exact skip_lo (by omega) (by omega) | exact skip_hi (by omega) (by omega) | (exfalso; omega))
    dsimp only; omega
   intro g3; have g3' := g3; try simp only [td] at g3'
   refine L_yes rfl rfl rfl g3 (X_p (p_fieldo fo97_0 rfl rfl) ?_)
   refine L_yes rfl rfl rfl g3 (X_rd (rl ag3 rfl rfl rfl) ?_)
   refine L_yes rfl rfl rfl g3 (X_p (p_move rfl rfl) ?_)
   refine L_yes rfl rfl rfl g3 (X_p (p_gtr rfl rfl rfl) ?_)
   refine Lp rfl (p_pick_f rfl rfl g3 rfl) ?_
   refine L_then (kp [1, 2, 3, 6, 7, 9, 12, 13, 14, 45] rfl) ?_
   refine V_cond rfl ?_ ?_
   ·intro c9; try simp only [td] at c9
    refine V_exit (then_e (blk_e rfl (then_n ?_)))
    refine V_region rfl ?_
    first | refine Lp rfl (p_add' rfl rfl rfl (by unfold InI; omega)) ?_ | refine Lp rfl (p_add rfl rfl rfl) ?_
    refine Lm rfl rfl rfl ?_
    refine L_keep (kp [1, 2, 3, 6, 7, 12, 13, 14] rfl) (then_n ?_)
    refine ⟨(k + 1, a, f), ?_, ?_, (.cons rfl (.cons rfl (.cons rfl (.cons rfl (.cons rfl (.cons rfl (.cons rfl (.cons rfl (.nil _))))))))), (by repeat (first | exact List.Sublist.refl _ | apply List.Sublist.cons_cons | apply List.Sublist.cons | apply List.sublist_append_of_sublist_right)), rfl⟩
    ·refine ⟨by omega, by omega, ?_⟩
     rw [e1] at *
     exact hs.skip (by first | exact skip_lo (by omega) (by omega) | exact skip_hi (by omega) (by omega) | (exfalso; omega))
    dsimp only; omega
   intro c9; try simp only [td] at c9
   refine V_skip (then_n ?_)
   refine V_seq ?_
   refine Vs rfl ?_
   refine Lm rfl rfl rfl ?_
   refine L_then (kp [1, 2, 3, 6, 9, 12, 13, 14, 46] rfl) ?_
   refine V_cond rfl ?_ ?_
   ·intro c10; try simp only [td] at c10
    refine V_region rfl ?_
    iterate 2 refine Lr rfl (rlA (vs := [_, _, _, _, _, _]) ag103 sz103 rfl rfl rfl) ?_
    refine Lc rfl rfl rfl rfl (fun w hg => feach_c a (of.getD k.toNat axZ) (Fl.hullA a (of.getD k.toNat axZ)) _ #[] w (fun w' he => fhull_c a.x (of.getD k.toNat axZ).x w') (fun w' he => fhull_c a.y (of.getD k.toNat axZ).y w') (fun w' he => fhull_c a.z (of.getD k.toNat axZ).z w')) ?_
    refine Ls (cs' := [_, _, _, _, _, _]) rfl sz103 rfl rfl rfl rfl rfl rfl rfl ?_
    refine L_then (kp [1, 2, 3, 6, 9, 12, 13, 14] rfl) ?_
    refine V_region rfl ?_
    refine Lr rfl (rlA (vs := [_, _, _, _, _, _]) ag103 sz103 rfl rfl rfl) ?_
    refine Ls (cs' := [_, _, _, _, _, _]) rfl sz103 rfl rfl rfl rfl rfl rfl rfl ?_
    refine La rfl rfl rfl ?_
    refine L_keep (kp [1, 2, 3, 6, 7, 12, 13, 14] rfl) (blk_n (then_n ?_))
    refine V_region rfl ?_
    first | refine Lp rfl (p_add' rfl rfl rfl (by unfold InI; omega)) ?_ | refine Lp rfl (p_add rfl rfl rfl) ?_
    refine Lm rfl rfl rfl ?_
    refine L_keep (kp [1, 2, 3, 6, 7, 12, 13, 14] rfl) (then_n ?_)
    refine ⟨(k + 1, Fl.hullA a (of.getD k.toNat axZ), true), ?_, ?_, (.cons rfl (.cons rfl (.cons rfl (.cons rfl (.cons rfl (.cons rfl (.cons rfl (.cons rfl (.nil _))))))))), (by repeat (first | exact List.Sublist.refl _ | apply List.Sublist.cons_cons | apply List.Sublist.cons | apply List.sublist_append_of_sublist_right)), rfl⟩
    ·refine ⟨by omega, by omega, ?_⟩
     have hft : f = true := by assumption
     rw [hft] at hs
     rw [e1] at *
     exact hs.more (by first | exact skip_no (by omega) (by omega) | (exfalso; omega))
    dsimp only; omega
   intro c10; try simp only [td] at c10
   refine V_skip (then_n ?_)
   refine V_region rfl ?_
   refine Lr rfl (rlA (vs := [_, _, _, _, _, _]) ag103 sz103 rfl rfl rfl) ?_
   refine Ls (cs' := [_, _, _, _, _, _]) rfl sz103 rfl rfl rfl rfl rfl rfl rfl ?_
   refine La rfl rfl rfl ?_
   refine L_keep (kp [1, 2, 3, 6, 7, 12, 13, 14] rfl) (blk_n (then_n ?_))
   refine V_region rfl ?_
   first | refine Lp rfl (p_add' rfl rfl rfl (by unfold InI; omega)) ?_ | refine Lp rfl (p_add rfl rfl rfl) ?_
   refine Lm rfl rfl rfl ?_
   refine L_keep (kp [1, 2, 3, 6, 7, 12, 13, 14] rfl) (then_n ?_)
   refine ⟨(k + 1, (of.getD k.toNat axZ), true), ?_, ?_, (.cons rfl (.cons rfl (.cons rfl (.cons rfl (.cons rfl (.cons rfl (.cons rfl (.cons rfl (.nil _))))))))), (by repeat (first | exact List.Sublist.refl _ | apply List.Sublist.cons_cons | apply List.Sublist.cons | apply List.sublist_append_of_sublist_right)), rfl⟩
   ·refine ⟨by omega, by omega, ?_⟩
    have hft : f = false := by assumption
    rw [hft] at hs
    rw [e1] at *
    exact hs.first (by first | exact skip_no (by omega) (by omega) | (exfalso; omega))
   dsimp only; omega
  intro c8; try simp only [td] at c8
  refine V_skip (then_n ?_)
  refine V_seq ?_
  refine Vs rfl ?_
  refine Lp rfl (p_fieldo fo97_1 rfl rfl) ?_
  refine Lr rfl (rl ag3 rfl rfl rfl) ?_
  refine Lm rfl rfl rfl ?_
  refine Lp rfl (p_lss rfl rfl rfl) ?_
  refine Lm rfl rfl rfl ?_
  refine L_cases (d := 40) rfl ?_ ?_
  ·intro g4; have g4' := g4; try simp only [td] at g4'
   iterate 4 refine L_no rfl rfl rfl g4 ?_
   refine Lp rfl (p_pick_t rfl rfl g4 rfl) ?_
   refine L_then (kp [1, 2, 3, 6, 7, 9, 12, 13, 14, 45] rfl) ?_
   refine V_cond_t rfl rfl ?_
   refine V_exit (then_e (blk_e rfl (then_n ?_)))
   refine V_region rfl ?_
   first | refine Lp rfl (p_add' rfl rfl rfl (by unfold InI; omega)) ?_ | refine Lp rfl (p_add rfl rfl rfl) ?_
   refine Lm rfl rfl rfl ?_
   refine L_keep (kp [1, 2, 3, 6, 7, 12, 13, 14] rfl) (then_n ?_)
   refine ⟨(k + 1, a, f), ?_, ?_, (.cons rfl (.cons rfl (.cons rfl (.cons rfl (.cons rfl (.cons rfl (.cons rfl (.cons rfl (.nil _))))))))), (by repeat (first | exact List.Sublist.refl _ | apply List.Sublist.cons_cons | apply List.Sublist.cons | apply List.sublist_append_of_sublist_right)), rfl⟩
   ·refine ⟨by omega, by omega, ?_⟩
    rw [e1] at *
    exact hs.skip (by first | exact skip_lo (by omega) (by omega) | exact skip_hi (by omega) (by omega) | (exfalso; omega))
   dsimp only; omega
  intro g4; have g4' := g4; try simp only [td] at g4'
  refine L_yes rfl rfl rfl g4 (X_p (p_fieldo fo97_0 rfl rfl) ?_)
  refine L_yes rfl rfl rfl g4 (X_rd (rl ag3 rfl rfl rfl) ?_)
  refine L_yes rfl rfl rfl g4 (X_p (p_move rfl rfl) ?_)
  refine L_yes rfl rfl rfl g4 (X_p (p_gtr rfl rfl rfl) ?_)
  refine Lp rfl (p_pick_f rfl rfl g4 rfl) ?_
  refine L_then (kp [1, 2, 3, 6, 7, 9, 12, 13, 14, 45] rfl) ?_
  refine V_cond rfl ?_ ?_
  ·intro c11; try simp only [td] at c11
   refine V_exit (then_e (blk_e rfl (then_n ?_)))
   refine V_region rfl ?_
   first | refine Lp rfl (p_add' rfl rfl rfl (by unfold InI; omega)) ?_ | refine Lp rfl (p_add rfl rfl rfl) ?_
   refine Lm rfl rfl rfl ?_
   refine L_keep (kp [1, 2, 3, 6, 7, 12, 13, 14] rfl) (then_n ?_)
   refine ⟨(k + 1, a, f), ?_, ?_, (.cons rfl (.cons rfl (.cons rfl (.cons rfl (.cons rfl (.cons rfl (.cons rfl (.cons rfl (.nil _))))))))), (by repeat (first | exact List.Sublist.refl _ | apply List.Sublist.cons_cons | apply List.Sublist.cons | apply List.sublist_append_of_sublist_right)), rfl⟩
   ·refine ⟨by omega, by omega, ?_⟩
    rw [e1] at *
    exact hs.skip (by first | exact skip_lo (by omega) (by omega) | exact skip_hi (by omega) (by omega) | (exfalso; omega))
   dsimp only; omega
  intro c11; try simp only [td] at c11
  refine V_skip (then_n ?_)
  refine V_seq ?_
  refine Vs rfl ?_
  refine Lm rfl rfl rfl ?_
  refine L_then (kp [1, 2, 3, 6, 9, 12, 13, 14, 46] rfl) ?_
  refine V_cond rfl ?_ ?_
  ·intro c12; try simp only [td] at c12
   refine V_region rfl ?_
   iterate 2 refine Lr rfl (rlA (vs := [_, _, _, _, _, _]) ag103 sz103 rfl rfl rfl) ?_
   refine Lc rfl rfl rfl rfl (fun w hg => feach_c a (of.getD k.toNat axZ) (Fl.hullA a (of.getD k.toNat axZ)) _ #[] w (fun w' he => fhull_c a.x (of.getD k.toNat axZ).x w') (fun w' he => fhull_c a.y (of.getD k.toNat axZ).y w') (fun w' he => fhull_c a.z (of.getD k.toNat axZ).z w')) ?_
   refine Ls (cs' := [_, _, _, _, _, _]) rfl sz103 rfl rfl rfl rfl rfl rfl rfl ?_
   refine L_then (kp [1, 2, 3, 6, 9, 12, 13, 14] rfl) ?_
   refine V_region rfl ?_
   refine Lr rfl (rlA (vs := [_, _, _, _, _, _]) ag103 sz103 rfl rfl rfl) ?_
   refine Ls (cs' := [_, _, _, _, _, _]) rfl sz103 rfl rfl rfl rfl rfl rfl rfl ?_
   refine La rfl rfl rfl ?_
   refine L_keep (kp [1, 2, 3, 6, 7, 12, 13, 14] rfl) (blk_n (then_n ?_))
   refine V_region rfl ?_
   first | refine Lp rfl (p_add' rfl rfl rfl (by unfold InI; omega)) ?_ | refine Lp rfl (p_add rfl rfl rfl) ?_
   refine Lm rfl rfl rfl ?_
   refine L_keep (kp [1, 2, 3, 6, 7, 12, 13, 14] rfl) (then_n ?_)
   refine ⟨(k + 1, Fl.hullA a (of.getD k.toNat axZ), true), ?_, ?_, (.cons rfl (.cons rfl (.cons rfl (.cons rfl (.cons rfl (.cons rfl (.cons rfl (.cons rfl (.nil _))))))))), (by repeat (first | exact List.Sublist.refl _ | apply List.Sublist.cons_cons | apply List.Sublist.cons | apply List.sublist_append_of_sublist_right)), rfl⟩
   ·refine ⟨by omega, by omega, ?_⟩
    have hft : f = true := by assumption
    rw [hft] at hs
    rw [e1] at *
    exact hs.more (by first | exact skip_no (by omega) (by omega) | (exfalso; omega))
   dsimp only; omega
  intro c12; try simp only [td] at c12
  refine V_skip (then_n ?_)
  refine V_region rfl ?_
  refine Lr rfl (rlA (vs := [_, _, _, _, _, _]) ag103 sz103 rfl rfl rfl) ?_
  refine Ls (cs' := [_, _, _, _, _, _]) rfl sz103 rfl rfl rfl rfl rfl rfl rfl ?_
  refine La rfl rfl rfl ?_
  refine L_keep (kp [1, 2, 3, 6, 7, 12, 13, 14] rfl) (blk_n (then_n ?_))
  refine V_region rfl ?_
  first | refine Lp rfl (p_add' rfl rfl rfl (by unfold InI; omega)) ?_ | refine Lp rfl (p_add rfl rfl rfl) ?_
  refine Lm rfl rfl rfl ?_
  refine L_keep (kp [1, 2, 3, 6, 7, 12, 13, 14] rfl) (then_n ?_)
  refine ⟨(k + 1, (of.getD k.toNat axZ), true), ?_, ?_, (.cons rfl (.cons rfl (.cons rfl (.cons rfl (.cons rfl (.cons rfl (.cons rfl (.cons rfl (.nil _))))))))), (by repeat (first | exact List.Sublist.refl _ | apply List.Sublist.cons_cons | apply List.Sublist.cons | apply List.sublist_append_of_sublist_right)), rfl⟩
  ·refine ⟨by omega, by omega, ?_⟩
   have hft : f = false := by assumption
   rw [hft] at hs
   rw [e1] at *
   exact hs.first (by first | exact skip_no (by omega) (by omega) | (exfalso; omega))
  dsimp only; omega
 intro c1; try simp only [td] at c1
 refine V_exit (then_e (then_e (blk_e rfl (then_n ?_))))
 refine Vs rfl ?_
 refine Lr rfl (rlA (vs := [_, _, _, _, _, _]) ag103 sz103 rfl rfl rfl) ?_
 refine Ls (cs' := [_, _, _, _, _, _]) rfl sz103 rfl rfl rfl rfl rfl rfl rfl ?_
 refine L_then (kp [6] rfl) ?_
 refine V_ret ?_
 refine Leave.nil (.cellA (us := [_, _, _, _, _, _]) rfl ag103 sz103 (by repeat first | exact mH | apply mT) rfl .nil) ?_
 have ek : k.toNat = of.length := by omega
 rw [ek] at hs
 rw [← hs.end]; rfl
theorem ffar_c (s : St) (w : World) : FnP Try.prog 73 [.agg #[.int .i64 s.p.x.lo, .int .i64 s.p.x.hi, .int .i64 s.p.y.lo, .int .i64 s.p.y.hi, .int .i64 s.p.z.lo, .int .i64 s.p.z.hi, .int .i64 s.v.x.lo, .int .i64 s.v.x.hi, .int .i64 s.v.y.lo, .int .i64 s.v.y.hi, .int .i64 s.v.z.lo, .int .i64 s.v.z.hi]] w (.bool (farS s)) := by
 refine fn_pure Try.func73 rfl (by kernel_rfl) Try.ntmps73 Try.results73 rfl ?_
 refine Vs rfl ?_
 refine Lw rfl (w_box rfl rfl) ?_
 rintro _ _ ⟨b1, hb1, rfl, rfl⟩
 refine La rfl rfl rfl ?_
 refine L_then (kp [1] rfl) ?_
 refine Vs rfl ?_
 refine Lp rfl (p_fieldo fo121_0 rfl rfl) ?_
 refine Lr rfl (rlA (vs := [_, _, _, _, _, _]) ag103 sz103 rfl rfl rfl) ?_
 refine Lc rfl rfl rfl rfl (fun w hg => fwide_c s.p _ (by decide) w) ?_
 refine Lm rfl rfl rfl ?_
 refine L_cases (d := 6) rfl ?_ ?_
 ·intro g1; have g1' := g1; try simp only [td] at g1'
  iterate 3 refine L_no rfl rfl rfl g1 ?_
  refine Lp rfl (p_pick_t rfl rfl g1 rfl) ?_
  refine La rfl rfl rfl ?_
  refine L_then (kp [2] rfl) ?_
  refine V_ret ?_
  refine Leave.nil (.tmp rfl .nil) ?_
  simp [tup, farS, *]
 intro g1; have g1' := g1; try simp only [td] at g1'
 refine L_yes rfl rfl rfl g1 (X_p (p_fieldo fo121_1 rfl rfl) ?_)
 refine L_yes rfl rfl rfl g1 (X_rd (rlA (vs := [_, _, _, _, _, _]) ag103 sz103 rfl rfl rfl) ?_)
 refine L_yes rfl rfl rfl g1 (X_wr (w_callP rfl rfl rfl (fun w hg => fwide_c s.v _ (by decide) w)) ?_)
 rintro _ _ ⟨rfl, rfl⟩
 refine Lp rfl (p_pick_f rfl rfl g1 rfl) ?_
 refine La rfl rfl rfl ?_
 refine L_then (kp [2] rfl) ?_
 refine V_ret ?_
 refine Leave.nil (.tmp rfl .nil) ?_
 simp [tup, farS, *]
theorem ftold_c (s : St) (w : World) : FnP Try.prog 85 [.agg #[.int .i64 s.p.x.lo, .int .i64 s.p.x.hi, .int .i64 s.p.y.lo, .int .i64 s.p.y.hi, .int .i64 s.p.z.lo, .int .i64 s.p.z.hi, .int .i64 s.v.x.lo, .int .i64 s.v.x.hi, .int .i64 s.v.y.lo, .int .i64 s.v.y.hi, .int .i64 s.v.z.lo, .int .i64 s.v.z.hi]] w (.agg #[.int .i64 s.p.x.lo, .int .i64 s.p.x.hi, .int .i64 s.p.y.lo, .int .i64 s.p.y.hi, .int .i64 s.p.z.lo, .int .i64 s.p.z.hi, .int .i64 s.v.x.lo, .int .i64 s.v.x.hi, .int .i64 s.v.y.lo, .int .i64 s.v.y.hi, .int .i64 s.v.z.lo, .int .i64 s.v.z.hi]) := by
 refine fn_pure Try.func85 rfl (by kernel_rfl) Try.ntmps85 Try.results85 rfl ?_
 refine Vs rfl ?_
 refine Lw rfl (w_box rfl rfl) ?_
 rintro _ _ ⟨b1, hb1, rfl, rfl⟩
 refine Lw rfl (w_alloc zr54 rfl) ?_
 rintro _ _ ⟨b2, hb2, rfl, rfl⟩
 refine L_then (kp [1, 2] rfl) ?_
 refine Vs rfl ?_
 refine Lp rfl (p_fieldo fo121_0 rfl rfl) ?_
 refine Lp rfl (p_idxao ar103 rfl rfl rfl (by omega) (by omega)) ?_
 refine Lr rfl (rlA (vs := [_, _]) ag97 sz97 rfl rfl rfl) ?_
 refine Lp rfl (p_fieldo fo121_0 rfl rfl) ?_
 refine Lp rfl (p_idxao ar103 rfl rfl rfl (by omega) (by omega)) ?_
 refine Lr rfl (rlA (vs := [_, _]) ag97 sz97 rfl rfl rfl) ?_
 refine Lp rfl (p_fieldo fo121_0 rfl rfl) ?_
 refine Lp rfl (p_idxao ar103 rfl rfl rfl (by omega) (by omega)) ?_
 refine Lr rfl (rlA (vs := [_, _]) ag97 sz97 rfl rfl rfl) ?_
 refine Lp rfl (p_fieldo fo121_1 rfl rfl) ?_
 refine Lp rfl (p_idxao ar103 rfl rfl rfl (by omega) (by omega)) ?_
 refine Lr rfl (rlA (vs := [_, _]) ag97 sz97 rfl rfl rfl) ?_
 refine Lp rfl (p_fieldo fo121_1 rfl rfl) ?_
 refine Lp rfl (p_idxao ar103 rfl rfl rfl (by omega) (by omega)) ?_
 refine Lr rfl (rlA (vs := [_, _]) ag97 sz97 rfl rfl rfl) ?_
 refine Lp rfl (p_fieldo fo121_1 rfl rfl) ?_
 refine Lp rfl (p_idxao ar103 rfl rfl rfl (by omega) (by omega)) ?_
 refine Lr rfl (rlA (vs := [_, _]) ag97 sz97 rfl rfl rfl) ?_
 refine Lp rfl (p_build (r := [_, _, _, _, _, _, _, _, _, _, _, _]) pl54 zr54 rfl rfl rfl) ?_
 refine Ls (cs' := [_, _, _, _, _, _, _, _, _, _, _, _]) rfl sz54 rfl rfl rfl rfl rfl rfl rfl ?_
 refine L_then (kp [2] rfl) ?_
 refine V_ret ?_
 refine Leave.nil (.cellA (us := [_, _, _, _, _, _, _, _, _, _, _, _]) rfl ag54 sz54 (by repeat first | exact mH | apply mT) rfl .nil) ?_
 rfl
theorem fread_c (s : St) (w : World) : FnP Try.prog 72 [.agg #[.int .i64 s.p.x.lo, .int .i64 s.p.x.hi, .int .i64 s.p.y.lo, .int .i64 s.p.y.hi, .int .i64 s.p.z.lo, .int .i64 s.p.z.hi, .int .i64 s.v.x.lo, .int .i64 s.v.x.hi, .int .i64 s.v.y.lo, .int .i64 s.v.y.hi, .int .i64 s.v.z.lo, .int .i64 s.v.z.hi]] w (.agg #[.int .i64 s.p.x.lo, .int .i64 s.p.x.hi, .int .i64 s.p.y.lo, .int .i64 s.p.y.hi, .int .i64 s.p.z.lo, .int .i64 s.p.z.hi, .int .i64 s.v.x.lo, .int .i64 s.v.x.hi, .int .i64 s.v.y.lo, .int .i64 s.v.y.hi, .int .i64 s.v.z.lo, .int .i64 s.v.z.hi]) := by
 refine fn_pure Try.func72 rfl (by kernel_rfl) Try.ntmps72 Try.results72 rfl ?_
 refine Vs rfl ?_
 refine Lw rfl (w_box rfl rfl) ?_
 rintro _ _ ⟨b1, hb1, rfl, rfl⟩
 refine Lw rfl (w_alloc zr121 rfl) ?_
 rintro _ _ ⟨b2, hb2, rfl, rfl⟩
 refine L_then (kp [1, 2] rfl) ?_
 refine Vs rfl ?_
 refine Lp rfl (p_fieldo fo54_0 rfl rfl) ?_
 refine Lr rfl (rlA (vs := [_, _]) ag23 sz23 rfl rfl rfl) ?_
 refine Lp rfl (p_fieldo fo54_1 rfl rfl) ?_
 refine Lr rfl (rlA (vs := [_, _]) ag23 sz23 rfl rfl rfl) ?_
 refine Lp rfl (p_fieldo fo54_2 rfl rfl) ?_
 refine Lr rfl (rlA (vs := [_, _]) ag23 sz23 rfl rfl rfl) ?_
 refine Lp rfl (p_buildA (r := [_, _, _, _, _, _]) ar103 zr103 rfl rfl rfl) ?_
 refine Lp rfl (p_fieldo fo54_3 rfl rfl) ?_
 refine Lr rfl (rlA (vs := [_, _]) ag23 sz23 rfl rfl rfl) ?_
 refine Lp rfl (p_fieldo fo54_4 rfl rfl) ?_
 refine Lr rfl (rlA (vs := [_, _]) ag23 sz23 rfl rfl rfl) ?_
 refine Lp rfl (p_fieldo fo54_5 rfl rfl) ?_
 refine Lr rfl (rlA (vs := [_, _]) ag23 sz23 rfl rfl rfl) ?_
 refine Lp rfl (p_buildA (r := [_, _, _, _, _, _]) ar103 zr103 rfl rfl rfl) ?_
 refine Lp rfl (p_build (r := [_, _, _, _, _, _, _, _, _, _, _, _]) pl121 zr121 rfl rfl rfl) ?_
 refine Ls (cs' := [_, _, _, _, _, _, _, _, _, _, _, _]) rfl sz121 rfl rfl rfl rfl rfl rfl rfl ?_
 refine L_then (kp [2] rfl) ?_
 refine V_ret ?_
 refine Leave.nil (.cellA (us := [_, _, _, _, _, _, _, _, _, _, _, _]) rfl ag121 sz121 (by repeat first | exact mH | apply mT) rfl .nil) ?_
 rfl

end Go.Proofs.Ytbncegfgjbdheaa
