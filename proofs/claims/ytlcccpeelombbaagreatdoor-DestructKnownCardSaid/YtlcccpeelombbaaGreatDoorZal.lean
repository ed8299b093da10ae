/- Joined texts. -/
import Derived.Test.YtlcccpeelombbaaGreatDoorZak
import Derived.Test.YtlcccpeelombbaaGreatDoorZaj
import Derived.Laws.Externs
import Derived.Test.YtlcccpeelombbaaGreatDoorZad
/- YtlcccpeelombbaaGreatDoor: what falls. -/
set_option linter.all false
namespace Go.Proofs.YtlcccpeelombbaaGreatDoor
open Go.Vc Go.Tk Go.De
set_option maxRecDepth 100000
theorem isTypeOf (v : Value) (w : World) : (callFunc 59 #[.iface 194 v]).run Tryz.prog w = .ok (.value (.iface 121 (.agg #[.pointer (some ⟨2, 194, none⟩)]))) w := by
 have h := @run_callFunc_extern Tryz.prog 59 _ Extern.ReflectliteType.typeOf Tryz.func59 (by kernel_rfl) (by kernel_rfl) (by kernel_rfl) (by kernel_rfl)
 have h1 : (Extern.ReflectliteType.typeOf #[.iface 194 v]).run Tryz.prog w = .ok (.iface 121 (.agg #[.pointer (some ⟨2, 194, none⟩)])) w := by kernel_rfl
 rw [h, h1]; rfl
theorem isComparable (w : World) : (invoke (.fn (.method "Comparable") #[]) #[.iface 121 (.agg #[.pointer (some ⟨2, 194, none⟩)])]).run Tryz.prog w = .ok (.value (.bool true)) w := by
 have hs : (Go.Extern.find Tryz.f165).isSome = true := by kernel_rfl
 have h := @run_callFunc_extern Tryz.prog 165 _ ((Go.Extern.find Tryz.f165).get hs) Tryz.func165 (by kernel_rfl) (by kernel_rfl) (by kernel_rfl) (Option.some_get hs).symm
 have h1 : (((Go.Extern.find Tryz.f165).get hs) #[.agg #[.pointer (some ⟨2, 194, none⟩)]]).run Tryz.prog w = .ok (.bool true) w := by kernel_rfl
 have hm : ∀ v, (Go.method (Tryz.prog.types.size + Made.depth) 121 v "Comparable").run Tryz.prog w = .ok (165, v) w := by intro v; kernel_rfl
 simp only [invoke, callMethod, Sem.run_bind, Sem.run_pure, Result.andThen_ok, List.getElem?_toArray, List.getElem?_cons_zero, run_program, hm]
 have e : (#[Value.agg #[.pointer (some ⟨2, 194, none⟩)]] ++ (#[Value.iface 121 (.agg #[.pointer (some ⟨2, 194, none⟩)])] : Array Value).extract 1) = #[.agg #[.pointer (some ⟨2, 194, none⟩)]] := by simp
 have h3 := h #[.agg #[.pointer (some ⟨2, 194, none⟩)]] w
 rw [h1] at h3
 rw [e]
 exact h3
theorem isComp : (Tryz.prog.info? 194).map (·.comparable) = some true := by kernel_rfl
theorem isSize : (Tryz.prog.info? 220).map (·.size) = some 1 := by kernel_rfl
theorem noAs0 (v : Value) (xT : TypeId) (w : World) : (Instr.typeAssert (.iface 194 v) xT 123 true).run Tryz.prog w = .ok (.tuple #[.nilIface, .bool false]) w := run_typeAssert_lacksB Tryz.underlying123 (by kernel_rfl) (by kernel_rfl) v xT w
theorem noAs1 (v : Value) (xT : TypeId) (w : World) : (Instr.typeAssert (.iface 194 v) xT 126 true).run Tryz.prog w = .ok (.tuple #[.nilIface, .bool false]) w := run_typeAssert_lacksB Tryz.underlying126 (by kernel_rfl) (by kernel_rfl) v xT w
theorem noAs2 (v : Value) (xT : TypeId) (w : World) : (Instr.typeAssert (.iface 194 v) xT 128 true).run Tryz.prog w = .ok (.tuple #[.nilIface, .bool false]) w := run_typeAssert_lacksB Tryz.underlying128 (by kernel_rfl) (by kernel_rfl) v xT w
theorem ptr_same (a : Addr) (w : World) : (binOp .eql 72 (.iface 194 (.pointer (some a))) (.iface 194 (.pointer (some a)))).run Tryz.prog w = .ok (.bool true) w := by
 obtain ⟨i, hi, hc⟩ := Option.map_eq_some_iff.1 isComp
 obtain ⟨j, hj, hs⟩ := Option.map_eq_some_iff.1 isSize
 exact run_eql_iface_ptr_same w a Tryz.underlying72 Tryz.underlying194 hi hc hj
theorem ptr_other {a b : Addr} (hne : a ≠ b) (w : World) (ha : ∃ c t, w.heap[a.block]? = some (.cells c t (0, 0))) (hb : ∃ c t, w.heap[b.block]? = some (.cells c t (0, 0))) : (binOp .eql 72 (.iface 194 (.pointer (some a))) (.iface 194 (.pointer (some b)))).run Tryz.prog w = .ok (.bool false) w := by
 obtain ⟨i, hi, hc⟩ := Option.map_eq_some_iff.1 isComp
 obtain ⟨j, hj, hs⟩ := Option.map_eq_some_iff.1 isSize
 obtain ⟨c, t, h1⟩ := ha
 obtain ⟨c', t', h2⟩ := hb
 exact run_eql_iface_ptr_other w Tryz.underlying72 Tryz.underlying194 hi hc hj (by rw [hs]; decide) hne h1 h2
theorem eis_same (a : Addr) (w : World) : FnP Tryz.prog 60 [.iface 194 (.pointer (some a)), .iface 194 (.pointer (some a)), .bool true] w (.bool true) := by
 refine fn_pure Tryz.func60 rfl (by kernel_rfl) Tryz.ntmps60 Tryz.results60 rfl ?_
 refine Vs rfl ?_
 refine La rfl rfl rfl ?_
 refine L_then (kp [0, 1, 2] rfl) ?_
 refine V_block ?_
 refine V_loopU ?_
 refine LU_step ?_
 refine V_block ?_
 refine V_seq ?_
 refine Vs rfl ?_
 iterate 2 refine Lm rfl rfl rfl ?_
 refine L_yes rfl rfl rfl rfl (X_p (p_move rfl rfl) ?_)
 refine L_yes rfl rfl rfl rfl (X_p (p_move rfl rfl) ?_)
 refine L_yes rfl rfl rfl rfl (X_p (p_cmp rfl rfl rfl (fun _ => rfl) (fun w => ptr_same a w)) ?_)
 refine Lp rfl (p_pick_t rfl rfl rfl rfl) ?_
 refine L_then (kp [0, 1, 2, 19] rfl) ?_
 refine V_cond_t rfl rfl ?_
 refine Vs rfl ?_
 refine La rfl rfl rfl ?_
 refine L_then (kp [6] rfl) ?_
 refine V_ret (then_r (blk_r (then_r (blk_r ?_))))
 refine Leave.nil (.tmp rfl .nil) ?_
 rfl
theorem eis_other (a b : Addr) (hne : a ≠ b) (w : World) (ha : ∃ c t, w.heap[a.block]? = some (.cells c t (0, 0))) (hb : ∃ c t, w.heap[b.block]? = some (.cells c t (0, 0))) : FnP Tryz.prog 60 [.iface 194 (.pointer (some a)), .iface 194 (.pointer (some b)), .bool true] w (.bool false) := by
 refine fn_pure Tryz.func60 rfl (by kernel_rfl) Tryz.ntmps60 Tryz.results60 rfl ?_
 refine Vs rfl ?_
 refine La rfl rfl rfl ?_
 refine L_then (kp [0, 1, 2] rfl) ?_
 refine V_block ?_
 refine V_loopU ?_
 refine LU_step ?_
 refine V_block ?_
 refine V_seq ?_
 refine Vs rfl ?_
 iterate 2 refine Lm rfl rfl rfl ?_
 refine L_yes rfl rfl rfl rfl (X_p (p_move rfl rfl) ?_)
 refine L_yes rfl rfl rfl rfl (X_p (p_move rfl rfl) ?_)
 refine L_yes rfl rfl rfl rfl (X_rd (r_cmp rfl rfl rfl (fun _ => rfl) (fun w hg => ptr_other hne w (let ⟨c, t, h1⟩ := ha; ⟨c, t, hg.toExt.heap h1⟩) (let ⟨c, t, h1⟩ := hb; ⟨c, t, hg.toExt.heap h1⟩))) ?_)
 refine Lp rfl (p_pick_t rfl rfl rfl rfl) ?_
 refine L_then (kp [0, 1, 2, 19] rfl) ?_
 refine V_cond_f rfl rfl ?_
 refine V_skip (then_n ?_)
 refine V_seq ?_
 refine Vs rfl ?_
 refine Lm rfl rfl rfl ?_
 refine Lp rfl (p_assert rfl rfl (noAs0 _ _)) ?_
 refine Lm rfl rfl rfl ?_
 iterate 2 refine Lp rfl (p_ext rfl rfl rfl) ?_
 iterate 2 refine La rfl rfl rfl ?_
 refine L_then (kp [0, 1, 2, 7, 8] rfl) ?_
 refine Vs rfl ?_
 iterate 2 refine Lm rfl rfl rfl ?_
 iterate 3 refine L_no rfl rfl rfl rfl ?_
 refine Lp rfl (p_pick_f rfl rfl rfl rfl) ?_
 refine L_then (kp [0, 1, 2, 30] rfl) ?_
 refine V_cond_f rfl rfl ?_
 refine V_skip (then_n ?_)
 refine Vs rfl ?_
 refine Lm rfl rfl rfl ?_
 refine L_then (kp [1, 2, 31] rfl) ?_
 refine V_block ?_
 refine Vs rfl ?_
 refine Lp rfl (p_assert rfl rfl (noAs1 _ _)) ?_
 iterate 2 refine Lp rfl (p_ext rfl rfl rfl) ?_
 refine L_then (kp [1, 2, 31, 33, 34] rfl) ?_
 refine V_cond_f rfl rfl ?_
 refine Vs rfl ?_
 refine Lp rfl (p_assert rfl rfl (noAs2 _ _)) ?_
 iterate 2 refine Lp rfl (p_ext rfl rfl rfl) ?_
 refine L_then (kp [1, 2, 31, 40, 41] rfl) ?_
 refine V_cond_f rfl rfl ?_
 refine Vs rfl ?_
 refine La rfl rfl rfl ?_
 refine L_then .nil ?_
 refine Vs rfl ?_
 refine La rfl rfl rfl ?_
 refine L_then (kp [6] rfl) ?_
 refine V_ret (blk_r (blk_r (then_r (blk_r ?_))))
 refine Leave.nil (.tmp rfl .nil) ?_
 rfl
theorem eIs_nil (a : Addr) (w : World) : FnP Tryz.prog 32 [.nilIface, .iface 194 (.pointer (some a))] w (.bool false) := by
 refine fn_pure Tryz.func32 rfl (by kernel_rfl) Tryz.ntmps32 Tryz.results32 rfl ?_
 refine Vs rfl ?_
 refine La rfl rfl rfl ?_
 refine L_then (kp [0, 1] rfl) ?_
 refine V_seq ?_
 refine Vs rfl ?_
 refine Lm rfl rfl rfl ?_
 refine Lp rfl (p_cmp rfl rfl rfl (fun _ => rfl) (fun w => eql_nil Tryz.underlying72 w)) ?_
 refine Lm rfl rfl rfl ?_
 iterate 2 refine L_no rfl rfl rfl rfl ?_
 refine Lp rfl (p_pick_t rfl rfl rfl rfl) ?_
 refine L_then (kp [0, 1, 11] rfl) ?_
 refine V_cond_t rfl rfl ?_
 refine Vs rfl ?_
 iterate 2 refine Lm rfl rfl rfl ?_
 refine Lp rfl (p_cmp rfl rfl rfl (fun _ => rfl) (fun w => run_eql_iface_nil_left w _ _ Tryz.underlying72)) ?_
 refine La rfl rfl rfl ?_
 refine L_then (kp [4] rfl) ?_
 refine V_ret (then_r ?_)
 refine Leave.nil (.tmp rfl .nil) ?_
 rfl
set_option maxHeartbeats 4000000 in
theorem eIs_same (a : Addr) (w : World) : FnP Tryz.prog 32 [.iface 194 (.pointer (some a)), .iface 194 (.pointer (some a))] w (.bool true) := by
 refine fn_pure Tryz.func32 rfl (by kernel_rfl) Tryz.ntmps32 Tryz.results32 rfl ?_
 refine Vs rfl ?_
 refine La rfl rfl rfl ?_
 refine L_then (kp [0, 1] rfl) ?_
 refine V_seq ?_
 refine Vs rfl ?_
 refine Lm rfl rfl rfl ?_
 refine Lp rfl (p_cmp rfl rfl rfl (fun _ => rfl) (fun w => eql_some _ _ Tryz.underlying72 w)) ?_
 refine Lm rfl rfl rfl ?_
 refine L_yes rfl rfl rfl rfl (X_p (p_move rfl rfl) ?_)
 refine L_yes rfl rfl rfl rfl (X_p (p_cmp rfl rfl rfl (fun _ => rfl) (fun w => eql_some _ _ Tryz.underlying72 w)) ?_)
 refine Lp rfl (p_pick_f rfl rfl rfl rfl) ?_
 refine L_then (kp [0, 1, 11] rfl) ?_
 refine V_cond_f rfl rfl ?_
 refine V_skip (then_n ?_)
 refine Vs rfl ?_
 refine Lm rfl rfl rfl ?_
 refine Lp rfl (p_row rfl rfl rfl (fun w => isTypeOf _ w)) ?_
 refine Lp rfl (p_invoke rfl rfl (fun w => isComparable w)) ?_
 refine La rfl rfl rfl ?_
 refine L_then (kp [0, 1, 5] rfl) ?_
 refine Vs rfl ?_
 iterate 3 refine Lm rfl rfl rfl ?_
 refine Lc rfl rfl rfl rfl (fun w hg => eis_same a w) ?_
 refine La rfl rfl rfl ?_
 refine L_then (kp [4] rfl) ?_
 refine V_ret ?_
 refine Leave.nil (.tmp rfl .nil) ?_
 rfl
set_option maxHeartbeats 4000000 in
theorem eIs_other (a b : Addr) (hne : a ≠ b) (w : World) (ha : ∃ c t, w.heap[a.block]? = some (.cells c t (0, 0))) (hb : ∃ c t, w.heap[b.block]? = some (.cells c t (0, 0))) : FnP Tryz.prog 32 [.iface 194 (.pointer (some a)), .iface 194 (.pointer (some b))] w (.bool false) := by
 refine fn_pure Tryz.func32 rfl (by kernel_rfl) Tryz.ntmps32 Tryz.results32 rfl ?_
 refine Vs rfl ?_
 refine La rfl rfl rfl ?_
 refine L_then (kp [0, 1] rfl) ?_
 refine V_seq ?_
 refine Vs rfl ?_
 refine Lm rfl rfl rfl ?_
 refine Lp rfl (p_cmp rfl rfl rfl (fun _ => rfl) (fun w => eql_some _ _ Tryz.underlying72 w)) ?_
 refine Lm rfl rfl rfl ?_
 refine L_yes rfl rfl rfl rfl (X_p (p_move rfl rfl) ?_)
 refine L_yes rfl rfl rfl rfl (X_p (p_cmp rfl rfl rfl (fun _ => rfl) (fun w => eql_some _ _ Tryz.underlying72 w)) ?_)
 refine Lp rfl (p_pick_f rfl rfl rfl rfl) ?_
 refine L_then (kp [0, 1, 11] rfl) ?_
 refine V_cond_f rfl rfl ?_
 refine V_skip (then_n ?_)
 refine Vs rfl ?_
 refine Lm rfl rfl rfl ?_
 refine Lp rfl (p_row rfl rfl rfl (fun w => isTypeOf _ w)) ?_
 refine Lp rfl (p_invoke rfl rfl (fun w => isComparable w)) ?_
 refine La rfl rfl rfl ?_
 refine L_then (kp [0, 1, 5] rfl) ?_
 refine Vs rfl ?_
 iterate 3 refine Lm rfl rfl rfl ?_
 refine Lc rfl rfl rfl rfl (fun w hg => eis_other a b hne w (let ⟨c, t, h1⟩ := ha; ⟨c, t, hg.toExt.heap h1⟩) (let ⟨c, t, h1⟩ := hb; ⟨c, t, hg.toExt.heap h1⟩)) ?_
 refine La rfl rfl rfl ?_
 refine L_then (kp [4] rfl) ?_
 refine V_ret ?_
 refine Leave.nil (.tmp rfl .nil) ?_
 rfl
theorem eIs_far (aF aL : Addr) (w : World) (hE : ErrR w 0 1 194 aF aL) (e : Int) (he : e = 0 ∨ e = 3 ∨ e = 9) : FnP Tryz.prog 32 [errV 194 aF aL e, .iface 194 (.pointer (some aF))] w (.bool (decide (e = 3))) := by
 rcases he with rfl | rfl | rfl
 ·exact eIs_nil aF w
 ·exact eIs_same aF w
 exact eIs_other aL aF (Ne.symm hE.ne) w hE.hL hE.hF
theorem eIs_long (aF aL : Addr) (w : World) (hE : ErrR w 0 1 194 aF aL) (e : Int) (he : e = 0 ∨ e = 3 ∨ e = 9) : FnP Tryz.prog 32 [errV 194 aF aL e, .iface 194 (.pointer (some aL))] w (.bool (decide (e = 9))) := by
 rcases he with rfl | rfl | rfl
 ·exact eIs_nil aL w
 ·exact eIs_other aF aL hE.ne w hE.hF hE.hL
 exact eIs_same aL w

end Go.Proofs.YtlcccpeelombbaaGreatDoor

/- YtlcccpeelombbaaGreatDoor: falls. -/
set_option linter.all false
namespace Go.Proofs.YtlcccpeelombbaaGreatDoor
open Go.Vc Go.Tk Go.De
set_option maxRecDepth 100000
theorem dfalls_c (b : Box) (g : Span) (w : World) : FnC Tryz.prog 57 [.agg (Box.cells b).toArray, .agg #[.int .i64 g.lo, .int .i64 g.hi]] w fun v w' => ∃ Hc, Vc.Good w [] Hc w' ∧ ∃ c1 c2, v = .func (.func 89) #[] #[.pointer (some ⟨c1, 0, none⟩), .pointer (some ⟨c2, 0, none⟩)] ∧ Hc = [(c2, .cells #[.int .i64 g.lo, .int .i64 g.hi] 24), (c1, .cells (Box.cells b).toArray 28)] := by
 refine fn_new Tryz.func57 rfl (by kernel_rfl) Tryz.ntmps57 Tryz.results57 rfl ?_
 refine Vs rfl ?_
 refine Lw rfl (w_box rfl rfl) ?_
 rintro _ _ ⟨b1, hb1, rfl, rfl⟩
 refine Lw rfl (w_box rfl rfl) ?_
 rintro _ _ ⟨b2, hb2, rfl, rfl⟩
 refine La rfl rfl rfl ?_
 refine L_then (kp [2, 3] rfl) ?_
 refine Vs rfl ?_
 refine Lp rfl (p_func rfl rfl rfl) ?_
 refine La rfl rfl rfl ?_
 refine L_then (kp [4] rfl) ?_
 refine V_ret ?_
 refine Leave.nil (.tmp rfl .nil) ?_
 exact ⟨_, HSub.refl _, _, _, rfl, rfl⟩
set_option maxHeartbeats 4000000 in
theorem dfalls1_c (b : Box) (g : Span) (hgr : 1 ≤ g.lo ∧ g.lo ≤ g.hi ∧ g.hi ≤ 200) (w0 : World) (l c1 c2 : Nat) (I E : List (List Value) → Heap → Prop) (hY : RoundX Tryz.prog w0 [] l (fun done x => done.length < 3000 ∧ x = [fallV g b (done.length + 1)]) I E) (hI : ∀ done Hs, I done Hs → (c1, Obj.cells (Box.cells b).toArray 28) ∈ Hs ∧ (c2, Obj.cells #[.int .i64 g.lo, .int .i64 g.hi] 24) ∈ Hs) (hB : ∀ done Hs, I done Hs → FallB done.length (runF g b done.length)) (w : World) (Hs0 : Heap) (h0 : I [] Hs0) (hg0 : Vc.Good w0 [] Hs0 w) : FnC Tryz.prog 89 [.func (.yield l) #[] #[], .pointer (some ⟨c1, 0, none⟩), .pointer (some ⟨c2, 0, none⟩)] w fun _ w' => ∃ Hs, Vc.Good w0 [] Hs w' ∧ ∃ done, (done.length = 3000 ∧ I done Hs) ∨ E done Hs := by
 obtain ⟨hm1, hm2⟩ := hI _ _ h0
 refine fn_over (M := []) (H0 := Hs0) Tryz.func89 rfl (by kernel_rfl) Tryz.ntmps89 Tryz.results89 rfl hg0 ?_
 refine Vs rfl ?_
 refine Lr rfl (r_loadA (vs := [_, _, _, _, _, _, _, _, _, _, _, _, _]) ag28 sz28 rfl rfl (by repeat first | exact hm1 | exact hm2 | exact mH | apply mT) rfl) ?_
 refine Lp rfl (p_build (r := [_, _, _, _, _, _, _, _, _, _, _, _, _, _]) pl102 zr102 rfl rfl rfl) ?_
 refine Lw rfl (w_alloc zr102 rfl) ?_
 rintro _ _ ⟨b1, hb1, rfl, rfl⟩
 refine Ls (cs' := [_, _, _, _, _, _, _, _, _, _, _, _, _, _]) rfl sz102 rfl rfl rfl rfl rfl rfl rfl ?_
 refine L_then (kp [0, 2, 4] rfl) ?_
 refine Vs rfl ?_
 refine Lm rfl rfl rfl ?_
 refine L_then (kp [0, 2, 4, 7] rfl) ?_
 refine V_block ?_
 refine V_loop1 (γ := Nat × Heap) (kp [0, 2, 4] rfl) (fun (n, Hs) => [(7, .int .i64 (n : Int))]) (fun (n, Hs) => (b1, .cells #[.int .i64 (runF g b n).at_, .int .i64 (runF g b n).x.lo, .int .i64 (runF g b n).x.hi, .int .i64 (runF g b n).y.lo, .int .i64 (runF g b n).y.hi, .int .i64 (runF g b n).z.lo, .int .i64 (runF g b n).z.hi, .int .i64 (runF g b n).vx.lo, .int .i64 (runF g b n).vx.hi, .int .i64 (runF g b n).vy.lo, .int .i64 (runF g b n).vy.hi, .int .i64 (runF g b n).vz.lo, .int .i64 (runF g b n).vz.hi, .int .i64 (n : Int)] 102) :: Hs) (fun (n, Hs) => n ≤ 3000 ∧ I (fallsV g b n) Hs) (fun (n, Hs) => 3000 - n) ((0, Hs0)) (.cons rfl (.nil _)) (by repeat (first | exact List.Sublist.refl _ | apply List.Sublist.cons_cons | apply List.Sublist.cons)) (⟨by omega, h0⟩) ?_
 rintro ⟨n, Hs⟩ hi
 obtain ⟨hn, hik⟩ := hi
 dsimp only at hn hik ⊢
 have hbn := hB _ _ hik
 rw [fallsV_len] at hbn
 obtain ⟨n0, n1, n2, n3, n4, n5, n6⟩ := hbn
 obtain ⟨hm1, hm2⟩ := hI _ _ hik
 refine Vs rfl ?_
 refine Lp rfl (p_lss rfl rfl rfl) ?_
 refine L_then (kp [0, 2, 4, 7, 8] rfl) ?_
 refine V_seq ?_
 refine V_cond rfl ?_ ?_
 ·intro c1; try simp only [td] at c1
  refine V_skip (then_n ?_)
  refine V_seq ?_
  refine V_block ?_
  refine Vs rfl ?_
  refine Lp rfl (p_fieldo fo102_1 rfl rfl) ?_
  refine Lr rfl (r_load ag3 rfl rfl (by repeat first | exact hm1 | exact hm2 | exact mH | apply mT) rfl) ?_
  first | refine Lp rfl (p_add' rfl rfl rfl (by unfold InI; omega)) ?_ | refine Lp rfl (p_add rfl rfl rfl) ?_
  refine Lp rfl (p_fieldo fo102_1 rfl rfl) ?_
  refine Ls (cs' := [_, _, _, _, _, _, _, _, _, _, _, _, _, _]) rfl sz3 rfl rfl rfl rfl rfl rfl rfl ?_
  refine L_then (kp [0, 2, 4, 7] rfl) ?_
  refine V_seq (V_draw (.rd 0 (.rd 1 (.rd 2 (.rd 3 (.rd 4 (.rd 5 (.rd 7 (.rd 8 (.rd 9 (.rd 10 (.rd 11 (.rd 12 (.rd 14 (.rd 15 (.rd 16 (.rd 17 (.rd 18 (.rd 19 (.wr 6 [19, 18, 17, 16, 15, 14, 12, 11, 10, 9, 8, 7, 4, 3, 1, 0] (.rd 21 (.rd 22 (.wr 13 [22, 21, 19, 18, 17, 16, 15, 14, 11, 10, 8, 7, 5, 4, 3, 2, 1, 0] (.wr 20 [22, 21, 18, 17, 15, 14, 12, 11, 10, 9, 8, 7, 5, 4, 3, 2, 1, 0] (.wr 23 [21] (.rd 24 (.rd 25 (.wr 26 [24] (.rd 27 (.rd 28 (.wr 29 [27] .done)))))))))))))))))))))))))))))) mixed (by kernel_rfl) rfl ?_)
  refine Dp rfl rfl (p_fieldo fo102_0 rfl rfl) ?_
  refine Dp rfl rfl (p_fieldo fo28_1 rfl rfl) ?_
  refine Dr rfl rfl (r_loadA (vs := [_, _]) ag24 sz24 rfl rfl (by repeat first | exact hm1 | exact hm2 | exact mH | apply mT) rfl) ?_
  refine Dp rfl rfl (p_fieldo fo102_0 rfl rfl) ?_
  refine Dp rfl rfl (p_fieldo fo28_4 rfl rfl) ?_
  refine Dr rfl rfl (r_loadA (vs := [_, _]) ag24 sz24 rfl rfl (by repeat first | exact hm1 | exact hm2 | exact mH | apply mT) rfl) ?_
  refine Dp rfl rfl (p_fieldo fo102_0 rfl rfl) ?_
  refine Dp rfl rfl (p_fieldo fo28_2 rfl rfl) ?_
  refine Dr rfl rfl (r_loadA (vs := [_, _]) ag24 sz24 rfl rfl (by repeat first | exact hm1 | exact hm2 | exact mH | apply mT) rfl) ?_
  refine Dp rfl rfl (p_fieldo fo102_0 rfl rfl) ?_
  refine Dp rfl rfl (p_fieldo fo28_5 rfl rfl) ?_
  refine Dr rfl rfl (r_loadA (vs := [_, _]) ag24 sz24 rfl rfl (by repeat first | exact hm1 | exact hm2 | exact mH | apply mT) rfl) ?_
  refine Dp rfl rfl (p_fieldo fo102_0 rfl rfl) ?_
  refine Dp rfl rfl (p_fieldo fo28_3 rfl rfl) ?_
  refine Dr rfl rfl (r_loadA (vs := [_, _]) ag24 sz24 rfl rfl (by repeat first | exact hm1 | exact hm2 | exact mH | apply mT) rfl) ?_
  refine Dp rfl rfl (p_fieldo fo102_0 rfl rfl) ?_
  refine Dp rfl rfl (p_fieldo fo28_6 rfl rfl) ?_
  refine Dr rfl rfl (r_loadA (vs := [_, _]) ag24 sz24 rfl rfl (by repeat first | exact hm1 | exact hm2 | exact mH | apply mT) rfl) ?_
  refine D_wr (.go (E' := [(19, _), (16, _), (12, _), (9, _)]) rfl (.plain rfl) (w_callP rfl rfl rfl (fun w hg => dsum_c _ _ (by omega) w)) rfl ?_)
  rintro _ _ ⟨rfl, rfl⟩
  refine ⟨(.cons rfl (.plain rfl) (r_loadA (vs := [_, _]) ag24 sz24 rfl rfl (by repeat first | exact hm1 | exact hm2 | exact mH | apply mT) rfl) (.cons rfl (.plain rfl) (r_loadA (vs := [_, _]) ag24 sz24 rfl rfl (by repeat first | exact hm1 | exact hm2 | exact mH | apply mT) rfl) (.cons rfl (.plain rfl) (r_loadA (vs := [_, _]) ag24 sz24 rfl rfl (by repeat first | exact hm1 | exact hm2 | exact mH | apply mT) rfl) (.cons rfl (.plain rfl) (r_loadA (vs := [_, _]) ag24 sz24 rfl rfl (by repeat first | exact hm1 | exact hm2 | exact mH | apply mT) rfl) .nil)))), ?_⟩
  refine Dp rfl rfl (p_fieldo fo102_0 rfl rfl) ?_
  refine Dp rfl rfl (p_fieldo fo28_1 rfl rfl) ?_
  refine D_wr (.go (E' := [(19, _), (16, _)]) rfl (.plain rfl) (w_callP rfl rfl rfl (fun w hg => dsum_c _ _ (by omega) w)) rfl ?_)
  rintro _ _ ⟨rfl, rfl⟩
  refine ⟨(.cons rfl (.plain rfl) (r_loadA (vs := [_, _]) ag24 sz24 rfl rfl (by repeat first | exact hm1 | exact hm2 | exact mH | apply mT) rfl) (.cons rfl (.plain rfl) (r_loadA (vs := [_, _]) ag24 sz24 rfl rfl (by repeat first | exact hm1 | exact hm2 | exact mH | apply mT) rfl) .nil)), ?_⟩
  refine D_wr (.go (E' := []) rfl (.plain rfl) (w_callP rfl rfl rfl (fun w hg => dsum_c _ _ (by omega) w)) rfl ?_)
  rintro _ _ ⟨rfl, rfl⟩
  refine ⟨.nil, ?_⟩
  refine D_wr (.go (E' := []) rfl (.plain rfl) (ws (cs' := [_, _, _, _, _, _, _, _, _, _, _, _, _, _]) sz24 rfl rfl rfl rfl rfl rfl rfl) rfl ?_)
  rintro _ _ ⟨rfl, rfl⟩
  refine ⟨.nil, ?_⟩
  refine Dp rfl rfl (p_fieldo fo102_0 rfl rfl) ?_
  refine Dp rfl rfl (p_fieldo fo28_2 rfl rfl) ?_
  refine D_wr (.go (E' := []) rfl (.plain rfl) (ws (cs' := [_, _, _, _, _, _, _, _, _, _, _, _, _, _]) sz24 rfl rfl rfl rfl rfl rfl rfl) rfl ?_)
  rintro _ _ ⟨rfl, rfl⟩
  refine ⟨.nil, ?_⟩
  refine Dp rfl rfl (p_fieldo fo102_0 rfl rfl) ?_
  refine Dp rfl rfl (p_fieldo fo28_3 rfl rfl) ?_
  refine D_wr (.go (E' := []) rfl (.plain rfl) (ws (cs' := [_, _, _, _, _, _, _, _, _, _, _, _, _, _]) sz24 rfl rfl rfl rfl rfl rfl rfl) rfl ?_)
  rintro _ _ ⟨rfl, rfl⟩
  refine ⟨.nil, ?_⟩
  refine D_then (kp [0, 2, 4, 7] rfl) ?_
  refine Vs rfl ?_
  refine Lp rfl (p_fieldo fo102_0 rfl rfl) ?_
  refine Lp rfl (p_fieldo fo28_6 rfl rfl) ?_
  refine Lr rfl (r_loadA (vs := [_, _]) ag24 sz24 rfl rfl (by repeat first | exact hm1 | exact hm2 | exact mH | apply mT) rfl) ?_
  refine Lp rfl (p_fieldo fo24_1 rfl rfl) ?_
  refine Lr rfl (r_load ag3 rfl rfl (by repeat first | exact hm1 | exact hm2 | exact mH | apply mT) rfl) ?_
  first | refine Lp rfl (p_neg' rfl rfl (by unfold InI; omega)) ?_ | refine Lp rfl (p_neg rfl rfl) ?_
  refine Lp rfl (p_fieldo fo24_0 rfl rfl) ?_
  refine Lr rfl (r_load ag3 rfl rfl (by repeat first | exact hm1 | exact hm2 | exact mH | apply mT) rfl) ?_
  first | refine Lp rfl (p_neg' rfl rfl (by unfold InI; omega)) ?_ | refine Lp rfl (p_neg rfl rfl) ?_
  refine Lp rfl (p_build (r := [_, _]) pl24 zr24 rfl rfl rfl) ?_
  refine Lc rfl rfl rfl rfl (fun w hg => dsum_c _ ⟨-g.hi, -g.lo⟩ (by dsimp only; omega) w) ?_
  refine Lp rfl (p_fieldo fo102_0 rfl rfl) ?_
  refine Lp rfl (p_fieldo fo28_6 rfl rfl) ?_
  refine Ls (cs' := [_, _, _, _, _, _, _, _, _, _, _, _, _, _]) rfl sz24 rfl rfl rfl rfl rfl rfl rfl ?_
  refine L_then (kp [0, 2, 4, 7] rfl) ?_
  refine Vs rfl ?_
  refine Lm rfl rfl rfl ?_
  refine Lr rfl (r_loadA (vs := [_, _, _, _, _, _, _, _, _, _, _, _, _, _]) ag102 sz102 rfl rfl (by repeat first | exact hm1 | exact hm2 | exact mH | apply mT) rfl) ?_
  refine Lw rfl (w_yieldX (own := [_]) rfl rfl rfl hY ⟨by rw [fallsV_len]; omega, (by rw [fallsV_len]; rfl)⟩ hik rfl) ?_
  rintro _ _ ⟨Hs1, go, rfl, rfl, hgo⟩
  refine Lp rfl (p_not rfl rfl) ?_
  refine L_then (kp [0, 2, 4, 7, 56] rfl) ?_
  refine V_cond rfl ?_ ?_
  ·intro c2; try simp only [td] at c2
   have hgo' := hgo.resolve_left (by rintro ⟨h, _⟩; rw [h] at c2; exact absurd c2 (by decide))
   refine V_ret (blk_r (then_r (then_r (blk_r ?_))))
   refine Leave.nil .nil ?_
   exact ⟨Hs1, (by (try dsimp only); repeat (first | exact HSub.nil _ | refine HSub.take (by repeat first | exact Take.head | apply Take.tail) ?_ | exact HSub.refl _ | refine HSub.drop ?_ | refine HSub.app ?_)), _, .inr hgo'.2⟩
  intro c2; try simp only [td] at c2
  have hgo := (hgo.resolve_right (by rintro ⟨h, _⟩; rw [h] at c2; exact absurd c2 (by decide))).2
  have hgo : I (fallsV g b (n + 1)) Hs1 := by rw [fallsV_succ]; exact hgo
  refine V_skip (blk_n (then_n ?_))
  refine V_region rfl ?_
  first | refine Lp rfl (p_add' rfl rfl rfl (by unfold InI; omega)) ?_ | refine Lp rfl (p_add rfl rfl rfl) ?_
  refine Lm rfl rfl rfl ?_
  refine L_keep (kp [0, 2, 4, 7] rfl) (then_n ?_)
  refine ⟨(n + 1, Hs1), ?_, ?_, (.cons rfl (.cons rfl (.cons rfl (.cons rfl (.nil _))))), (by repeat (first | exact List.Sublist.refl _ | apply List.Sublist.cons_cons | apply List.Sublist.cons | apply List.sublist_append_of_sublist_right)), rfl⟩
  ·exact ⟨by omega, hgo⟩
  dsimp only; omega
 intro c1; try simp only [td] at c1
 refine V_exit (then_e (then_e (blk_e rfl ?_)))
 refine Leave.nil .nil ?_
 have e : n = 3000 := by omega
 subst e
 exact ⟨Hs, (by (try dsimp only); repeat (first | exact HSub.nil _ | refine HSub.take (by repeat first | exact Take.head | apply Take.tail) ?_ | exact HSub.refl _ | refine HSub.drop ?_ | refine HSub.app ?_)), _, .inl ⟨fallsV_len _ _ _, hik⟩⟩
set_option maxHeartbeats 8000000 in
theorem dfall_c (b : Box) (g : Span) (hb : FallB 0 b) (hgr : 1 ≤ g.lo ∧ g.lo ≤ g.hi ∧ g.hi ≤ 200) (aF aL : Addr) (w : World) (hE : ErrR w 0 1 194 aF aL) : FnP Tryz.prog 31 [.agg (Box.cells b).toArray, .agg #[.int .i64 g.lo, .int .i64 g.hi]] w (.tuple #[.agg #[.int .i64 (fallT g b).x.lo, .int .i64 (fallT g b).x.hi, .int .i64 (fallT g b).y.lo, .int .i64 (fallT g b).y.hi], .agg #[.int .i64 (fallT g b).at_.lo, .int .i64 (fallT g b).at_.hi], errV 194 aF aL (fallT g b).e]) := by
 refine fn_pure Tryz.func31 rfl (by kernel_rfl) Tryz.ntmps31 Tryz.results31 rfl ?_
 refine Vs rfl ?_
 refine Lw rfl (w_box rfl rfl) ?_
 rintro _ _ ⟨b1, hb1, rfl, rfl⟩
 refine Lw rfl (w_box rfl rfl) ?_
 rintro _ _ ⟨b2, hb2, rfl, rfl⟩
 refine Lw rfl (w_alloc zr30 rfl) ?_
 rintro _ _ ⟨b3, hb3, rfl, rfl⟩
 refine Lw rfl (w_alloc zr24 rfl) ?_
 rintro _ _ ⟨b4, hb4, rfl, rfl⟩
 refine Lw rfl (w_alloc zr72 rfl) ?_
 rintro _ _ ⟨b5, hb5, rfl, rfl⟩
 refine L_then (kp [2, 3, 4, 5, 6] rfl) ?_
 refine Vs rfl ?_
 refine Lw rfl (w_alloc zr97 rfl) ?_
 rintro _ _ ⟨b6, hb6, rfl, rfl⟩
 refine Ls (cs' := [_]) rfl sz97 rfl rfl rfl rfl rfl rfl rfl ?_
 refine L_then (kp [2, 3, 4, 5, 6, 7] rfl) ?_
 refine Vs rfl ?_
 refine Lw rfl (w_alloc zr4 rfl) ?_
 rintro _ _ ⟨b7, hb7, rfl, rfl⟩
 refine Ls (cs' := [_]) rfl sz4 rfl rfl rfl rfl rfl rfl rfl ?_
 refine L_then (kp [2, 3, 4, 5, 6, 7, 8] rfl) ?_
 refine V_seq ?_
 refine Vs rfl ?_
 refine Lr rfl (rlA (vs := [_, _, _, _, _, _, _, _, _, _, _, _, _]) ag28 sz28 rfl rfl rfl) ?_
 refine Lr rfl (rlA (vs := [_, _]) ag24 sz24 rfl rfl rfl) ?_
 refine Lw rfl (w_callN rfl rfl rfl (fun w hg => dfalls_c b g w)) ?_
 rintro _ _ ⟨_, rfl, _, y1, y2, rfl, rfl⟩
 refine L_then (kp [4, 5, 6, 7, 8, 12] rfl) ?_
 refine V_block ?_
 refine V_rangeX (H0 := [(y2, .cells #[.int .i64 g.lo, .int .i64 g.hi] 24), (y1, .cells (Box.cells b).toArray 28), (b7, .cells #[.bool false] 4), (b6, .cells #[.func (.func 56) #[] #[]] 97), (b5, .cells #[.nilIface] 72), (b4, .cells #[.int .i64 (0), .int .i64 (0)] 24), (b3, .cells #[.int .i64 0, .int .i64 0, .int .i64 0, .int .i64 0] 30), (b2, .cells #[.int .i64 g.lo, .int .i64 g.hi] 24), (b1, .cells (Box.cells b).toArray 28)]) (Hi := []) rfl (kp [4, 5, 6, 7, 8, 12] rfl) rfl rfl (fun done x => done.length < 3000 ∧ x = [fallV g b (done.length + 1)]) (fun done Hr => ∃ (ax ay : Span) (lo : Int) (dn : Bool), Hr = [(y2, .cells #[.int .i64 g.lo, .int .i64 g.hi] 24), (y1, .cells (Box.cells b).toArray 28), (b7, .cells #[.bool dn] 4), (b6, .cells #[.func (.func 56) #[] #[]] 97), (b5, .cells #[.nilIface] 72), (b4, .cells #[.int .i64 (lo), .int .i64 (0)] 24), (b3, .cells #[.int .i64 ax.lo, .int .i64 ax.hi, .int .i64 ay.lo, .int .i64 ay.hi] 30), (b2, .cells #[.int .i64 g.lo, .int .i64 g.hi] 24), (b1, .cells (Box.cells b).toArray 28)] ∧ AccV b.at_ (accN (runF g b) done.length) ax ay lo dn ∧ ∀ j, 1 ≤ j → j ≤ done.length → offB (runF g b j) = false ∧ 0 < (runF g b j).z.hi) (fun _ jc Hr => ∃ dn : Bool, jc = .ret ∧ Hr = [(y2, .cells #[.int .i64 g.lo, .int .i64 g.hi] 24), (y1, .cells (Box.cells b).toArray 28), (b7, .cells #[.bool dn] 4), (b6, .cells #[.func (.func 56) #[] #[]] 97), (b5, .cells #[errV 194 aF aL (fallT g b).e] 72), (b4, .cells #[.int .i64 ((fallT g b).at_.lo), .int .i64 ((fallT g b).at_.hi)] 24), (b3, .cells #[.int .i64 (fallT g b).x.lo, .int .i64 (fallT g b).x.hi, .int .i64 (fallT g b).y.lo, .int .i64 (fallT g b).y.hi] 30), (b2, .cells #[.int .i64 g.lo, .int .i64 g.hi] 24), (b1, .cells (Box.cells b).toArray 28)]) (fun done => done.length = 3000) (fun _ _ => False) ((by rintro done vs ⟨_, rfl⟩; rfl)) (by repeat (first | exact List.nil_sublist _ | exact List.Sublist.refl _ | apply List.Sublist.cons_cons | apply List.Sublist.cons)) (⟨spZ, spZ, 0, false, rfl, AccV.zero, fun j h1 h2 => by simp at h2; omega⟩) ?_ ?_ ?_ ?_ ?_
 ·intro l1 D1 r1 done vs Hr own hp hJ
  obtain ⟨hdl, rfl⟩ := hp
  obtain ⟨ax, ay, lo, dn, rfl, hacc, hall⟩ := hJ
  have hat := run_at (g := g) (b := b) (done.length + 1)
  have hb0 := hb.1
  refine V_region rfl ?_
  refine Lw rfl (w_alloc zr102 rfl) ?_
  rintro _ _ ⟨b9, hb9, rfl, rfl⟩
  refine Ls (cs' := [_, _, _, _, _, _, _, _, _, _, _, _, _, _]) rfl sz102 rfl rfl rfl rfl rfl rfl rfl ?_
  refine L_keep (kp [4, 5, 6, 7, 8, 9, 12] rfl) ?_
  refine asgI (by repeat first | exact .head | apply SetAt.tail) ?_
  refine V_block ?_
  refine V_seq ?_
  refine Vs rfl ?_
  refine Lp rfl (p_fieldo fo102_0 rfl rfl) ?_
  refine Lp rfl (p_fieldo fo28_1 rfl rfl) ?_
  refine Lr rfl (rlA (vs := [_, _]) ag24 sz24 rfl rfl rfl) ?_
  refine Lc rfl rfl rfl rfl (fun w hg => doff_c _ w) ?_
  refine Lm rfl rfl rfl ?_
  refine L_cases (d := 18) rfl ?_ ?_
  ·intro g1; have g1' := g1; try simp only [td] at g1'
   iterate 4 refine L_no rfl rfl rfl g1 ?_
   refine Lp rfl (p_pick_t rfl rfl g1 rfl) ?_
   refine Lm rfl rfl rfl ?_
   iterate 4 refine L_no rfl rfl rfl rfl ?_
   refine Lp rfl (p_pick_t rfl rfl rfl rfl) ?_
   refine L_then (kp [4, 5, 6, 7, 8, 9, 29] rfl) ?_
   refine V_cond_t rfl rfl ?_
   refine V_seq (V_draw (.rd 0 (.rd 1 (.rd 2 (.wr 3 [2, 1] (.wr 4 [2] (.wr 5 [] .done)))))) mixed (by kernel_rfl) rfl ?_)
   refine Dp rfl rfl (p_build (r := [_, _, _, _]) pl30 zr30 rfl rfl rfl) ?_
   refine Dp rfl rfl (p_build (r := [_, _]) pl24 zr24 rfl rfl rfl) ?_
   refine Dr rfl rfl (r_loadB ag72 rfl rfl hE.far List.not_mem_nil) ?_
   refine D_wr (.go (E' := [(2, _)]) rfl (.plain rfl) (ws (cs' := [_, _, _, _]) sz30 rfl rfl rfl rfl rfl rfl rfl) rfl ?_)
   rintro _ _ ⟨rfl, rfl⟩
   refine ⟨(.cons rfl (.plain rfl) (r_loadB ag72 rfl rfl hE.far List.not_mem_nil) .nil), ?_⟩
   refine D_wr (.go (E' := [(2, _)]) rfl (.plain rfl) (ws (cs' := [_, _]) sz24 rfl rfl rfl rfl rfl rfl rfl) rfl ?_)
   rintro _ _ ⟨rfl, rfl⟩
   refine ⟨(.cons rfl (.plain rfl) (r_loadB ag72 rfl rfl hE.far List.not_mem_nil) .nil), ?_⟩
   refine D_wr (.go (E' := []) rfl (.plain rfl) (ws (cs' := [_]) sz72 rfl rfl rfl rfl rfl rfl rfl) rfl ?_)
   rintro _ _ ⟨rfl, rfl⟩
   refine ⟨.nil, ?_⟩
   refine D_then (kp [4, 5, 6] rfl) ?_
   refine V_ret (then_r (blk_r ?_))
   refine endX_r (by repeat first | exact .head | apply SetAt.tail) ?_
   refine ⟨[(y2, .cells #[.int .i64 g.lo, .int .i64 g.hi] 24), (y1, .cells (Box.cells b).toArray 28), (b7, .cells #[.bool dn] 4), (b6, .cells #[.func (.func 56) #[] #[]] 97), (b5, .cells #[.iface 194 (.pointer (some aF))] 72), (b4, .cells #[.int .i64 (0), .int .i64 (0)] 24), (b3, .cells #[.int .i64 0, .int .i64 0, .int .i64 0, .int .i64 0] 30), (b2, .cells #[.int .i64 g.lo, .int .i64 g.hi] 24), (b1, .cells (Box.cells b).toArray 28)], (by (try dsimp only); repeat (first | exact HSub.nil _ | refine HSub.take (by repeat first | exact Take.head | apply Take.tail) ?_ | exact HSub.refl _ | refine HSub.drop ?_ | refine HSub.app ?_)), ?_⟩
   refine ⟨dn, rfl, ?_⟩
   rw [fall_far hdl hall (by rw [off3]; simp [*])]
   rfl
  intro g1; have g1' := g1; try simp only [td] at g1'
  refine L_yes rfl rfl rfl g1 (X_p (p_fieldo fo102_0 rfl rfl) ?_)
  refine L_yes rfl rfl rfl g1 (X_p (p_fieldo fo28_2 rfl rfl) ?_)
  refine L_yes rfl rfl rfl g1 (X_rd (rlA (vs := [_, _]) ag24 sz24 rfl rfl rfl) ?_)
  refine L_yes rfl rfl rfl g1 (X_wr (w_callP rfl rfl rfl (fun w hg => doff_c _ w)) ?_)
  rintro _ _ ⟨rfl, rfl⟩
  refine Lp rfl (p_pick_f rfl rfl g1 rfl) ?_
  refine Lm rfl rfl rfl ?_
  refine L_cases (d := 24) rfl ?_ ?_
  ·intro g2; have g2' := g2; try simp only [td] at g2'
   iterate 4 refine L_no rfl rfl rfl g2 ?_
   refine Lp rfl (p_pick_t rfl rfl g2 rfl) ?_
   refine L_then (kp [4, 5, 6, 7, 8, 9, 29] rfl) ?_
   refine V_cond_t rfl rfl ?_
   refine V_seq (V_draw (.rd 0 (.rd 1 (.rd 2 (.wr 3 [2, 1] (.wr 4 [2] (.wr 5 [] .done)))))) mixed (by kernel_rfl) rfl ?_)
   refine Dp rfl rfl (p_build (r := [_, _, _, _]) pl30 zr30 rfl rfl rfl) ?_
   refine Dp rfl rfl (p_build (r := [_, _]) pl24 zr24 rfl rfl rfl) ?_
   refine Dr rfl rfl (r_loadB ag72 rfl rfl hE.far List.not_mem_nil) ?_
   refine D_wr (.go (E' := [(2, _)]) rfl (.plain rfl) (ws (cs' := [_, _, _, _]) sz30 rfl rfl rfl rfl rfl rfl rfl) rfl ?_)
   rintro _ _ ⟨rfl, rfl⟩
   refine ⟨(.cons rfl (.plain rfl) (r_loadB ag72 rfl rfl hE.far List.not_mem_nil) .nil), ?_⟩
   refine D_wr (.go (E' := [(2, _)]) rfl (.plain rfl) (ws (cs' := [_, _]) sz24 rfl rfl rfl rfl rfl rfl rfl) rfl ?_)
   rintro _ _ ⟨rfl, rfl⟩
   refine ⟨(.cons rfl (.plain rfl) (r_loadB ag72 rfl rfl hE.far List.not_mem_nil) .nil), ?_⟩
   refine D_wr (.go (E' := []) rfl (.plain rfl) (ws (cs' := [_]) sz72 rfl rfl rfl rfl rfl rfl rfl) rfl ?_)
   rintro _ _ ⟨rfl, rfl⟩
   refine ⟨.nil, ?_⟩
   refine D_then (kp [4, 5, 6] rfl) ?_
   refine V_ret (then_r (blk_r ?_))
   refine endX_r (by repeat first | exact .head | apply SetAt.tail) ?_
   refine ⟨[(y2, .cells #[.int .i64 g.lo, .int .i64 g.hi] 24), (y1, .cells (Box.cells b).toArray 28), (b7, .cells #[.bool dn] 4), (b6, .cells #[.func (.func 56) #[] #[]] 97), (b5, .cells #[.iface 194 (.pointer (some aF))] 72), (b4, .cells #[.int .i64 (0), .int .i64 (0)] 24), (b3, .cells #[.int .i64 0, .int .i64 0, .int .i64 0, .int .i64 0] 30), (b2, .cells #[.int .i64 g.lo, .int .i64 g.hi] 24), (b1, .cells (Box.cells b).toArray 28)], (by (try dsimp only); repeat (first | exact HSub.nil _ | refine HSub.take (by repeat first | exact Take.head | apply Take.tail) ?_ | exact HSub.refl _ | refine HSub.drop ?_ | refine HSub.app ?_)), ?_⟩
   refine ⟨dn, rfl, ?_⟩
   rw [fall_far hdl hall (by rw [off3]; simp [*])]
   rfl
  intro g2; have g2' := g2; try simp only [td] at g2'
  refine L_yes rfl rfl rfl g2 (X_p (p_fieldo fo102_0 rfl rfl) ?_)
  refine L_yes rfl rfl rfl g2 (X_p (p_fieldo fo28_3 rfl rfl) ?_)
  refine L_yes rfl rfl rfl g2 (X_rd (rlA (vs := [_, _]) ag24 sz24 rfl rfl rfl) ?_)
  refine L_yes rfl rfl rfl g2 (X_wr (w_callP rfl rfl rfl (fun w hg => doff_c _ w)) ?_)
  rintro _ _ ⟨rfl, rfl⟩
  refine Lp rfl (p_pick_f rfl rfl g2 rfl) ?_
  refine L_then (kp [4, 5, 6, 7, 8, 9, 29] rfl) ?_
  refine V_cond rfl ?_ ?_
  ·intro c1; try simp only [td] at c1
   refine V_seq (V_draw (.rd 0 (.rd 1 (.rd 2 (.wr 3 [2, 1] (.wr 4 [2] (.wr 5 [] .done)))))) mixed (by kernel_rfl) rfl ?_)
   refine Dp rfl rfl (p_build (r := [_, _, _, _]) pl30 zr30 rfl rfl rfl) ?_
   refine Dp rfl rfl (p_build (r := [_, _]) pl24 zr24 rfl rfl rfl) ?_
   refine Dr rfl rfl (r_loadB ag72 rfl rfl hE.far List.not_mem_nil) ?_
   refine D_wr (.go (E' := [(2, _)]) rfl (.plain rfl) (ws (cs' := [_, _, _, _]) sz30 rfl rfl rfl rfl rfl rfl rfl) rfl ?_)
   rintro _ _ ⟨rfl, rfl⟩
   refine ⟨(.cons rfl (.plain rfl) (r_loadB ag72 rfl rfl hE.far List.not_mem_nil) .nil), ?_⟩
   refine D_wr (.go (E' := [(2, _)]) rfl (.plain rfl) (ws (cs' := [_, _]) sz24 rfl rfl rfl rfl rfl rfl rfl) rfl ?_)
   rintro _ _ ⟨rfl, rfl⟩
   refine ⟨(.cons rfl (.plain rfl) (r_loadB ag72 rfl rfl hE.far List.not_mem_nil) .nil), ?_⟩
   refine D_wr (.go (E' := []) rfl (.plain rfl) (ws (cs' := [_]) sz72 rfl rfl rfl rfl rfl rfl rfl) rfl ?_)
   rintro _ _ ⟨rfl, rfl⟩
   refine ⟨.nil, ?_⟩
   refine D_then (kp [4, 5, 6] rfl) ?_
   refine V_ret (then_r (blk_r ?_))
   refine endX_r (by repeat first | exact .head | apply SetAt.tail) ?_
   refine ⟨[(y2, .cells #[.int .i64 g.lo, .int .i64 g.hi] 24), (y1, .cells (Box.cells b).toArray 28), (b7, .cells #[.bool dn] 4), (b6, .cells #[.func (.func 56) #[] #[]] 97), (b5, .cells #[.iface 194 (.pointer (some aF))] 72), (b4, .cells #[.int .i64 (0), .int .i64 (0)] 24), (b3, .cells #[.int .i64 0, .int .i64 0, .int .i64 0, .int .i64 0] 30), (b2, .cells #[.int .i64 g.lo, .int .i64 g.hi] 24), (b1, .cells (Box.cells b).toArray 28)], (by (try dsimp only); repeat (first | exact HSub.nil _ | refine HSub.take (by repeat first | exact Take.head | apply Take.tail) ?_ | exact HSub.refl _ | refine HSub.drop ?_ | refine HSub.app ?_)), ?_⟩
   refine ⟨dn, rfl, ?_⟩
   rw [fall_far hdl hall (by rw [off3]; simp [*])]
   rfl
  intro c1; try simp only [td] at c1
  have ho : offB (runF g b (done.length + 1)) = false := by rw [off3]; simp [*]
  refine V_skip (then_n ?_)
  refine V_seq ?_
  refine V_block ?_
  refine Vs rfl ?_
  refine Lr rfl (rl ag4 rfl rfl rfl) ?_
  refine La rfl rfl rfl ?_
  refine L_then (kp [4, 5, 6, 7, 8, 9, 33] rfl) ?_
  refine V_cond rfl ?_ ?_
  ·intro c2; try simp only [td] at c2
   have hd : dn = true := c2
   refine V_draw (.rd 0 (.rd 1 (.rd 2 (.rd 3 (.rd 4 (.rd 5 (.rd 7 (.rd 8 (.rd 9 (.rd 10 (.rd 11 (.rd 12 (.wr 6 [12, 11, 10, 9, 8, 7, 4, 3, 1] (.wr 13 [11, 10, 8, 5, 4, 3, 2, 1, 0] (.rd 14 (.wr 15 [] .done)))))))))))))))) mixed (by kernel_rfl) rfl ?_
   refine Dr rfl rfl (rl ag97 rfl rfl rfl) ?_
   refine Dp rfl rfl (p_fieldo fo30_0 rfl rfl) ?_
   refine Dr rfl rfl (rlA (vs := [_, _]) ag24 sz24 rfl rfl rfl) ?_
   refine Dp rfl rfl (p_fieldo fo102_0 rfl rfl) ?_
   refine Dp rfl rfl (p_fieldo fo28_1 rfl rfl) ?_
   refine Dr rfl rfl (rlA (vs := [_, _]) ag24 sz24 rfl rfl rfl) ?_
   refine Dr rfl rfl (rl ag97 rfl rfl rfl) ?_
   refine Dp rfl rfl (p_fieldo fo30_1 rfl rfl) ?_
   refine Dr rfl rfl (rlA (vs := [_, _]) ag24 sz24 rfl rfl rfl) ?_
   refine Dp rfl rfl (p_fieldo fo102_0 rfl rfl) ?_
   refine Dp rfl rfl (p_fieldo fo28_2 rfl rfl) ?_
   refine Dr rfl rfl (rlA (vs := [_, _]) ag24 sz24 rfl rfl rfl) ?_
   refine D_wr (.go (E' := [(12, _), (9, _), (7, _)]) rfl (.plain rfl) (w_callP rfl rfl rfl (fun w hg => dhull_c _ _ w)) rfl ?_)
   rintro _ _ ⟨rfl, rfl⟩
   refine ⟨(.cons rfl (.plain rfl) (rlA (vs := [_, _]) ag24 sz24 rfl rfl rfl) (.cons rfl (.plain rfl) (rlA (vs := [_, _]) ag24 sz24 rfl rfl rfl) (.cons rfl (.plain rfl) (rl ag97 rfl rfl rfl) .nil))), ?_⟩
   refine D_wr (.go (E' := []) rfl (.plain rfl) (w_callP rfl rfl rfl (fun w hg => dhull_c _ _ w)) rfl ?_)
   rintro _ _ ⟨rfl, rfl⟩
   refine ⟨.nil, ?_⟩
   refine Dp rfl rfl (p_build (r := [_, _, _, _]) pl30 zr30 rfl rfl rfl) ?_
   refine D_wr (.go (E' := []) rfl (.plain rfl) (ws (cs' := [_, _, _, _]) sz30 rfl rfl rfl rfl rfl rfl rfl) rfl ?_)
   rintro _ _ ⟨rfl, rfl⟩
   refine ⟨.nil, ?_⟩
   refine D_keep (kp [4, 5, 6, 9] rfl) (blk_n (then_n ?_))
   refine Vs rfl ?_
   refine Lp rfl (p_fieldo fo102_0 rfl rfl) ?_
   refine Lp rfl (p_fieldo fo28_3 rfl rfl) ?_
   refine Lp rfl (p_fieldo fo24_1 rfl rfl) ?_
   refine Lr rfl (rl ag3 rfl rfl rfl) ?_
   refine Lp rfl (p_leq rfl rfl rfl) ?_
   refine L_then (kp [4, 5, 6, 9, 74] rfl) ?_
   refine V_cond rfl ?_ ?_
   ·intro c3; try simp only [td] at c3
    have hz := c3
    refine Vs rfl ?_
    refine Lp rfl (p_fieldo fo102_0 rfl rfl) ?_
    refine Lp rfl (p_fieldo fo28_0 rfl rfl) ?_
    refine Lr rfl (rl ag3 rfl rfl rfl) ?_
    refine Lp rfl (p_fieldo fo102_1 rfl rfl) ?_
    refine Lr rfl (rl ag3 rfl rfl rfl) ?_
    first | refine Lp rfl (p_add' rfl rfl rfl (by unfold InI; omega)) ?_ | refine Lp rfl (p_add rfl rfl rfl) ?_
    refine Lp rfl (p_fieldo fo24_1 rfl rfl) ?_
    refine Ls (cs' := [_, _]) rfl sz3 rfl rfl rfl rfl rfl rfl rfl ?_
    refine L_then (kp [4, 5, 6] rfl) ?_
    refine V_seq (V_draw (.rd 0 (.rd 1 (.wr 2 [1] (.wr 3 [] (.wr 4 [] .done))))) mixed (by kernel_rfl) rfl ?_)
    refine Dr rfl rfl (rlA (vs := [_, _, _, _]) ag30 sz30 rfl rfl rfl) ?_
    refine Dr rfl rfl (rlA (vs := [_, _]) ag24 sz24 rfl rfl rfl) ?_
    refine D_wr (.go (E' := [(1, _)]) rfl (.plain rfl) (ws (cs' := [_, _, _, _]) sz30 rfl rfl rfl rfl rfl rfl rfl) rfl ?_)
    rintro _ _ ⟨rfl, rfl⟩
    refine ⟨(.cons rfl (.plain rfl) (rlA (vs := [_, _]) ag24 sz24 rfl rfl rfl) .nil), ?_⟩
    refine D_wr (.go (E' := []) rfl (.plain rfl) (ws (cs' := [_, _]) sz24 rfl rfl rfl rfl rfl rfl rfl) rfl ?_)
    rintro _ _ ⟨rfl, rfl⟩
    refine ⟨.nil, ?_⟩
    refine D_wr (.go (E' := []) rfl (.plain rfl) (ws (cs' := [_]) sz72 rfl rfl rfl rfl rfl rfl rfl) rfl ?_)
    rintro _ _ ⟨rfl, rfl⟩
    refine ⟨.nil, ?_⟩
    refine D_then (kp [4, 5, 6] rfl) ?_
    refine V_ret (blk_r ?_)
    refine endX_r (by repeat first | exact .head | apply SetAt.tail) ?_
    refine ⟨[(y2, .cells #[.int .i64 g.lo, .int .i64 g.hi] 24), (y1, .cells (Box.cells b).toArray 28), (b7, .cells #[.bool dn] 4), (b6, .cells #[.func (.func 56) #[] #[]] 97), (b5, .cells #[.nilIface] 72), (b4, .cells #[.int .i64 (lo), .int .i64 ((runF g b (done.length + 1)).at_ + (done.length + 1 : Nat))] 24), (b3, .cells #[.int .i64 (hullS ax (runF g b (done.length + 1)).x).lo, .int .i64 (hullS ax (runF g b (done.length + 1)).x).hi, .int .i64 (hullS ay (runF g b (done.length + 1)).y).lo, .int .i64 (hullS ay (runF g b (done.length + 1)).y).hi] 30), (b2, .cells #[.int .i64 g.lo, .int .i64 g.hi] 24), (b1, .cells (Box.cells b).toArray 28)], (by (try dsimp only); repeat (first | exact HSub.nil _ | refine HSub.take (by repeat first | exact Take.head | apply Take.tail) ?_ | exact HSub.refl _ | refine HSub.drop ?_ | refine HSub.app ?_)), ?_⟩
    have hacc' := hacc.more hd
    refine ⟨dn, rfl, ?_⟩
    rw [(fall_done hdl hall ho hz).trans hacc'.done, hat]
    rfl
   intro c3; try simp only [td] at c3
   have hz := c3
   refine V_skip (blk_n ?_)
   refine endX_n (by repeat first | exact .head | apply SetAt.tail) ?_
   refine ⟨[(y2, .cells #[.int .i64 g.lo, .int .i64 g.hi] 24), (y1, .cells (Box.cells b).toArray 28), (b7, .cells #[.bool dn] 4), (b6, .cells #[.func (.func 56) #[] #[]] 97), (b5, .cells #[.nilIface] 72), (b4, .cells #[.int .i64 (lo), .int .i64 (0)] 24), (b3, .cells #[.int .i64 (hullS ax (runF g b (done.length + 1)).x).lo, .int .i64 (hullS ax (runF g b (done.length + 1)).x).hi, .int .i64 (hullS ay (runF g b (done.length + 1)).y).lo, .int .i64 (hullS ay (runF g b (done.length + 1)).y).hi] 30), (b2, .cells #[.int .i64 g.lo, .int .i64 g.hi] 24), (b1, .cells (Box.cells b).toArray 28)], (by (try dsimp only); repeat (first | exact HSub.nil _ | refine HSub.take (by repeat first | exact Take.head | apply Take.tail) ?_ | exact HSub.refl _ | refine HSub.drop ?_ | refine HSub.app ?_)), ?_⟩
   have hl : (done ++ [[fallV g b (done.length + 1)]]).length = done.length + 1 := by simp
   have hacc' := hacc.more hd
   refine ⟨_, _, _, _, rfl, ?_, ?_⟩
   ·rw [hl]; exact hacc'
   rw [hl]; intro j h1 h2; by_cases e : j = done.length + 1
   ·rw [e]; exact ⟨ho, by omega⟩
   exact hall j h1 (by omega)
  intro c2; try simp only [td] at c2
  have hd : dn = false := by simpa using c2
  refine Vs rfl ?_
  refine Lp rfl (p_fieldo fo102_0 rfl rfl) ?_
  refine Lp rfl (p_fieldo fo28_3 rfl rfl) ?_
  refine Lp rfl (p_fieldo fo24_0 rfl rfl) ?_
  refine Lr rfl (rl ag3 rfl rfl rfl) ?_
  refine Lp rfl (p_leq rfl rfl rfl) ?_
  refine La rfl rfl rfl ?_
  refine L_then (kp [4, 5, 6, 8, 9, 50] rfl) ?_
  refine V_cond rfl ?_ ?_
  ·intro c4; try simp only [td] at c4
   have hzl := c4
   refine V_draw (.rd 0 (.rd 1 (.rd 2 (.rd 3 (.rd 4 (.rd 5 (.rd 6 (.rd 7 (.rd 8 (.rd 9 (.rd 10 (.rd 11 (.rd 12 (.wr 13 [12, 11, 10, 9, 8, 7] (.rd 14 (.wr 15 [] (.wr 16 [] .done))))))))))))))))) mixed (by kernel_rfl) rfl ?_
   refine Dp rfl rfl (p_fieldo fo102_0 rfl rfl) ?_
   refine Dp rfl rfl (p_fieldo fo28_1 rfl rfl) ?_
   refine Dr rfl rfl (rlA (vs := [_, _]) ag24 sz24 rfl rfl rfl) ?_
   refine Dp rfl rfl (p_fieldo fo102_0 rfl rfl) ?_
   refine Dp rfl rfl (p_fieldo fo28_2 rfl rfl) ?_
   refine Dr rfl rfl (rlA (vs := [_, _]) ag24 sz24 rfl rfl rfl) ?_
   refine Dp rfl rfl (p_build (r := [_, _, _, _]) pl30 zr30 rfl rfl rfl) ?_
   refine Dp rfl rfl (p_fieldo fo102_0 rfl rfl) ?_
   refine Dp rfl rfl (p_fieldo fo28_0 rfl rfl) ?_
   refine Dr rfl rfl (rl ag3 rfl rfl rfl) ?_
   refine Dp rfl rfl (p_fieldo fo102_1 rfl rfl) ?_
   refine Dr rfl rfl (rl ag3 rfl rfl rfl) ?_
   first | refine Dp rfl rfl (p_add' rfl rfl rfl (by unfold InI; omega)) ?_ | refine Dp rfl rfl (p_add rfl rfl rfl) ?_
   refine D_wr (.go (E' := [(11, _), (9, _)]) rfl (.plain rfl) (ws (cs' := [_, _, _, _]) sz30 rfl rfl rfl rfl rfl rfl rfl) rfl ?_)
   rintro _ _ ⟨rfl, rfl⟩
   refine ⟨(.cons rfl (.plain rfl) (rl ag3 rfl rfl rfl) (.cons rfl (.plain rfl) (rl ag3 rfl rfl rfl) .nil)), ?_⟩
   refine Dp rfl rfl (p_fieldo fo24_0 rfl rfl) ?_
   refine D_wr (.go (E' := []) rfl (.plain rfl) (ws (cs' := [_, _]) sz3 rfl rfl rfl rfl rfl rfl rfl) rfl ?_)
   rintro _ _ ⟨rfl, rfl⟩
   refine ⟨.nil, ?_⟩
   refine D_wr (.go (E' := []) rfl (.plain rfl) (ws (cs' := [_]) sz4 rfl rfl rfl rfl rfl rfl rfl) rfl ?_)
   rintro _ _ ⟨rfl, rfl⟩
   refine ⟨.nil, ?_⟩
   refine D_keep (kp [4, 5, 6, 9] rfl) (blk_n (then_n ?_))
   refine Vs rfl ?_
   refine Lp rfl (p_fieldo fo102_0 rfl rfl) ?_
   refine Lp rfl (p_fieldo fo28_3 rfl rfl) ?_
   refine Lp rfl (p_fieldo fo24_1 rfl rfl) ?_
   refine Lr rfl (rl ag3 rfl rfl rfl) ?_
   refine Lp rfl (p_leq rfl rfl rfl) ?_
   refine L_then (kp [4, 5, 6, 9, 74] rfl) ?_
   refine V_cond rfl ?_ ?_
   ·intro c5; try simp only [td] at c5
    have hz := c5
    refine Vs rfl ?_
    refine Lp rfl (p_fieldo fo102_0 rfl rfl) ?_
    refine Lp rfl (p_fieldo fo28_0 rfl rfl) ?_
    refine Lr rfl (rl ag3 rfl rfl rfl) ?_
    refine Lp rfl (p_fieldo fo102_1 rfl rfl) ?_
    refine Lr rfl (rl ag3 rfl rfl rfl) ?_
    first | refine Lp rfl (p_add' rfl rfl rfl (by unfold InI; omega)) ?_ | refine Lp rfl (p_add rfl rfl rfl) ?_
    refine Lp rfl (p_fieldo fo24_1 rfl rfl) ?_
    refine Ls (cs' := [_, _]) rfl sz3 rfl rfl rfl rfl rfl rfl rfl ?_
    refine L_then (kp [4, 5, 6] rfl) ?_
    refine V_seq (V_draw (.rd 0 (.rd 1 (.wr 2 [1] (.wr 3 [] (.wr 4 [] .done))))) mixed (by kernel_rfl) rfl ?_)
    refine Dr rfl rfl (rlA (vs := [_, _, _, _]) ag30 sz30 rfl rfl rfl) ?_
    refine Dr rfl rfl (rlA (vs := [_, _]) ag24 sz24 rfl rfl rfl) ?_
    refine D_wr (.go (E' := [(1, _)]) rfl (.plain rfl) (ws (cs' := [_, _, _, _]) sz30 rfl rfl rfl rfl rfl rfl rfl) rfl ?_)
    rintro _ _ ⟨rfl, rfl⟩
    refine ⟨(.cons rfl (.plain rfl) (rlA (vs := [_, _]) ag24 sz24 rfl rfl rfl) .nil), ?_⟩
    refine D_wr (.go (E' := []) rfl (.plain rfl) (ws (cs' := [_, _]) sz24 rfl rfl rfl rfl rfl rfl rfl) rfl ?_)
    rintro _ _ ⟨rfl, rfl⟩
    refine ⟨.nil, ?_⟩
    refine D_wr (.go (E' := []) rfl (.plain rfl) (ws (cs' := [_]) sz72 rfl rfl rfl rfl rfl rfl rfl) rfl ?_)
    rintro _ _ ⟨rfl, rfl⟩
    refine ⟨.nil, ?_⟩
    refine D_then (kp [4, 5, 6] rfl) ?_
    refine V_ret (blk_r ?_)
    refine endX_r (by repeat first | exact .head | apply SetAt.tail) ?_
    refine ⟨[(y2, .cells #[.int .i64 g.lo, .int .i64 g.hi] 24), (y1, .cells (Box.cells b).toArray 28), (b7, .cells #[.bool true] 4), (b6, .cells #[.func (.func 56) #[] #[]] 97), (b5, .cells #[.nilIface] 72), (b4, .cells #[.int .i64 ((runF g b (done.length + 1)).at_ + (done.length + 1 : Nat)), .int .i64 ((runF g b (done.length + 1)).at_ + (done.length + 1 : Nat))] 24), (b3, .cells #[.int .i64 (runF g b (done.length + 1)).x.lo, .int .i64 (runF g b (done.length + 1)).x.hi, .int .i64 (runF g b (done.length + 1)).y.lo, .int .i64 (runF g b (done.length + 1)).y.hi] 30), (b2, .cells #[.int .i64 g.lo, .int .i64 g.hi] 24), (b1, .cells (Box.cells b).toArray 28)], (by (try dsimp only); repeat (first | exact HSub.nil _ | refine HSub.take (by repeat first | exact Take.head | apply Take.tail) ?_ | exact HSub.refl _ | refine HSub.drop ?_ | refine HSub.app ?_)), ?_⟩
    have hacc' := hacc.first hd hzl
    refine ⟨true, rfl, ?_⟩
    rw [(fall_done hdl hall ho hz).trans hacc'.done, hat]
    rfl
   intro c5; try simp only [td] at c5
   have hz := c5
   refine V_skip (blk_n ?_)
   refine endX_n (by repeat first | exact .head | apply SetAt.tail) ?_
   refine ⟨[(y2, .cells #[.int .i64 g.lo, .int .i64 g.hi] 24), (y1, .cells (Box.cells b).toArray 28), (b7, .cells #[.bool true] 4), (b6, .cells #[.func (.func 56) #[] #[]] 97), (b5, .cells #[.nilIface] 72), (b4, .cells #[.int .i64 ((runF g b (done.length + 1)).at_ + (done.length + 1 : Nat)), .int .i64 (0)] 24), (b3, .cells #[.int .i64 (runF g b (done.length + 1)).x.lo, .int .i64 (runF g b (done.length + 1)).x.hi, .int .i64 (runF g b (done.length + 1)).y.lo, .int .i64 (runF g b (done.length + 1)).y.hi] 30), (b2, .cells #[.int .i64 g.lo, .int .i64 g.hi] 24), (b1, .cells (Box.cells b).toArray 28)], (by (try dsimp only); repeat (first | exact HSub.nil _ | refine HSub.take (by repeat first | exact Take.head | apply Take.tail) ?_ | exact HSub.refl _ | refine HSub.drop ?_ | refine HSub.app ?_)), ?_⟩
   have hl : (done ++ [[fallV g b (done.length + 1)]]).length = done.length + 1 := by simp
   have hacc' := hacc.first hd hzl
   refine ⟨_, _, _, _, rfl, ?_, ?_⟩
   ·rw [hl]; rw [hat]; exact hacc'
   rw [hl]; intro j h1 h2; by_cases e : j = done.length + 1
   ·rw [e]; exact ⟨ho, by omega⟩
   exact hall j h1 (by omega)
  intro c4; try simp only [td] at c4
  have hzl := c4
  refine V_skip (blk_n (then_n ?_))
  refine Vs rfl ?_
  refine Lp rfl (p_fieldo fo102_0 rfl rfl) ?_
  refine Lp rfl (p_fieldo fo28_3 rfl rfl) ?_
  refine Lp rfl (p_fieldo fo24_1 rfl rfl) ?_
  refine Lr rfl (rl ag3 rfl rfl rfl) ?_
  refine Lp rfl (p_leq rfl rfl rfl) ?_
  refine L_then (kp [4, 5, 6, 9, 74] rfl) ?_
  refine V_cond rfl ?_ ?_
  ·intro c6; try simp only [td] at c6
   have hz := c6
   refine Vs rfl ?_
   refine Lp rfl (p_fieldo fo102_0 rfl rfl) ?_
   refine Lp rfl (p_fieldo fo28_0 rfl rfl) ?_
   refine Lr rfl (rl ag3 rfl rfl rfl) ?_
   refine Lp rfl (p_fieldo fo102_1 rfl rfl) ?_
   refine Lr rfl (rl ag3 rfl rfl rfl) ?_
   first | refine Lp rfl (p_add' rfl rfl rfl (by unfold InI; omega)) ?_ | refine Lp rfl (p_add rfl rfl rfl) ?_
   refine Lp rfl (p_fieldo fo24_1 rfl rfl) ?_
   refine Ls (cs' := [_, _]) rfl sz3 rfl rfl rfl rfl rfl rfl rfl ?_
   refine L_then (kp [4, 5, 6] rfl) ?_
   refine V_seq (V_draw (.rd 0 (.rd 1 (.wr 2 [1] (.wr 3 [] (.wr 4 [] .done))))) mixed (by kernel_rfl) rfl ?_)
   refine Dr rfl rfl (rlA (vs := [_, _, _, _]) ag30 sz30 rfl rfl rfl) ?_
   refine Dr rfl rfl (rlA (vs := [_, _]) ag24 sz24 rfl rfl rfl) ?_
   refine D_wr (.go (E' := [(1, _)]) rfl (.plain rfl) (ws (cs' := [_, _, _, _]) sz30 rfl rfl rfl rfl rfl rfl rfl) rfl ?_)
   rintro _ _ ⟨rfl, rfl⟩
   refine ⟨(.cons rfl (.plain rfl) (rlA (vs := [_, _]) ag24 sz24 rfl rfl rfl) .nil), ?_⟩
   refine D_wr (.go (E' := []) rfl (.plain rfl) (ws (cs' := [_, _]) sz24 rfl rfl rfl rfl rfl rfl rfl) rfl ?_)
   rintro _ _ ⟨rfl, rfl⟩
   refine ⟨.nil, ?_⟩
   refine D_wr (.go (E' := []) rfl (.plain rfl) (ws (cs' := [_]) sz72 rfl rfl rfl rfl rfl rfl rfl) rfl ?_)
   rintro _ _ ⟨rfl, rfl⟩
   refine ⟨.nil, ?_⟩
   refine D_then (kp [4, 5, 6] rfl) ?_
   refine V_ret (blk_r ?_)
   refine endX_r (by repeat first | exact .head | apply SetAt.tail) ?_
   refine ⟨[(y2, .cells #[.int .i64 g.lo, .int .i64 g.hi] 24), (y1, .cells (Box.cells b).toArray 28), (b7, .cells #[.bool dn] 4), (b6, .cells #[.func (.func 56) #[] #[]] 97), (b5, .cells #[.nilIface] 72), (b4, .cells #[.int .i64 (lo), .int .i64 ((runF g b (done.length + 1)).at_ + (done.length + 1 : Nat))] 24), (b3, .cells #[.int .i64 ax.lo, .int .i64 ax.hi, .int .i64 ay.lo, .int .i64 ay.hi] 30), (b2, .cells #[.int .i64 g.lo, .int .i64 g.hi] 24), (b1, .cells (Box.cells b).toArray 28)], (by (try dsimp only); repeat (first | exact HSub.nil _ | refine HSub.take (by repeat first | exact Take.head | apply Take.tail) ?_ | exact HSub.refl _ | refine HSub.drop ?_ | refine HSub.app ?_)), ?_⟩
   have hacc' := hacc.none hd (by omega)
   refine ⟨dn, rfl, ?_⟩
   rw [(fall_done hdl hall ho hz).trans hacc'.done, hat]
   rfl
  intro c6; try simp only [td] at c6
  have hz := c6
  refine V_skip (blk_n ?_)
  refine endX_n (by repeat first | exact .head | apply SetAt.tail) ?_
  refine ⟨[(y2, .cells #[.int .i64 g.lo, .int .i64 g.hi] 24), (y1, .cells (Box.cells b).toArray 28), (b7, .cells #[.bool dn] 4), (b6, .cells #[.func (.func 56) #[] #[]] 97), (b5, .cells #[.nilIface] 72), (b4, .cells #[.int .i64 (lo), .int .i64 (0)] 24), (b3, .cells #[.int .i64 ax.lo, .int .i64 ax.hi, .int .i64 ay.lo, .int .i64 ay.hi] 30), (b2, .cells #[.int .i64 g.lo, .int .i64 g.hi] 24), (b1, .cells (Box.cells b).toArray 28)], (by (try dsimp only); repeat (first | exact HSub.nil _ | refine HSub.take (by repeat first | exact Take.head | apply Take.tail) ?_ | exact HSub.refl _ | refine HSub.drop ?_ | refine HSub.app ?_)), ?_⟩
  have hl : (done ++ [[fallV g b (done.length + 1)]]).length = done.length + 1 := by simp
  have hacc' := hacc.none hd (by omega)
  refine ⟨_, _, _, _, rfl, ?_, ?_⟩
  ·rw [hl]; rw [hd]; exact hacc'
  rw [hl]; intro j h1 h2; by_cases e : j = done.length + 1
  ·rw [e]; exact ⟨ho, by omega⟩
  exact hall j h1 (by omega)
 ·intro l1 D1 r1 w1 hY hgi
  refine FnC.x ((dfalls1_c b g hgr w l1 y1 y2 _ _ hY ?_ ?_ w1 _ ⟨_, rfl, spZ, spZ, 0, false, rfl, AccV.zero, fun j h1 h2 => by simp at h2; omega⟩ hgi).mono fun _ w2 h => h)
  ·rintro done _ ⟨Hr, rfl, ax, ay, lo, dn, rfl, hacc, hall⟩
   exact ⟨.tail _ (.tail _ (.tail _ (.head _))), .tail _ (.tail _ (.head _))⟩
  rintro done _ ⟨Hr, rfl, ax, ay, lo, dn, rfl, hacc, hall⟩
  exact run_bnd hb hgr _ fun j h1 h2 => (hall j h1 h2).1
 ·intro l1 D1 ob1 done Hr hF hJ
  obtain ⟨ax, ay, lo, dn, rfl, hacc, hall⟩ := hJ
  rw [show done.length = 3000 from hF] at hall
  refine (blk_n (then_n ?_))
  refine V_seq (V_draw (.rd 0 (.rd 1 (.rd 2 (.wr 3 [2, 1] (.wr 4 [2] (.wr 5 [] .done)))))) mixed (by kernel_rfl) rfl ?_)
  refine Dp rfl rfl (p_build (r := [_, _, _, _]) pl30 zr30 rfl rfl rfl) ?_
  refine Dp rfl rfl (p_build (r := [_, _]) pl24 zr24 rfl rfl rfl) ?_
  refine Dr rfl rfl (r_loadB ag72 rfl rfl hE.long List.not_mem_nil) ?_
  refine D_wr (.go (E' := [(2, _)]) rfl (.plain rfl) (ws (cs' := [_, _, _, _]) sz30 rfl rfl rfl rfl rfl rfl rfl) rfl ?_)
  rintro _ _ ⟨rfl, rfl⟩
  refine ⟨(.cons rfl (.plain rfl) (r_loadB ag72 rfl rfl hE.long List.not_mem_nil) .nil), ?_⟩
  refine D_wr (.go (E' := [(2, _)]) rfl (.plain rfl) (ws (cs' := [_, _]) sz24 rfl rfl rfl rfl rfl rfl rfl) rfl ?_)
  rintro _ _ ⟨rfl, rfl⟩
  refine ⟨(.cons rfl (.plain rfl) (r_loadB ag72 rfl rfl hE.long List.not_mem_nil) .nil), ?_⟩
  refine D_wr (.go (E' := []) rfl (.plain rfl) (ws (cs' := [_]) sz72 rfl rfl rfl rfl rfl rfl rfl) rfl ?_)
  rintro _ _ ⟨rfl, rfl⟩
  refine ⟨.nil, ?_⟩
  refine D_then (kp [4, 5, 6] rfl) ?_
  refine V_ret ?_
  refine Leave.mark (by repeat first | exact .head | apply SetAt.tail) (Leave.nil (.cellA (us := [_, _, _, _]) rfl ag30 sz30 (by repeat first | exact mH | apply mT) rfl (.cellA (us := [_, _]) rfl ag24 sz24 (by repeat first | exact mH | apply mT) rfl (.cell rfl ag72 (by repeat first | exact mH | apply mT) rfl .nil))) ?_)
  rw [fall_end hall]; rfl
 ·intro l1 D1 ob1 done jc Hr hE
  obtain ⟨dn, rfl, rfl⟩ := hE
  refine V_ret (blk_r (then_r ?_))
  refine Leave.mark (by repeat first | exact .head | apply SetAt.tail) (Leave.nil (.cellA (us := [_, _, _, _]) rfl ag30 sz30 (by repeat first | exact mH | apply mT) rfl (.cellA (us := [_, _]) rfl ag24 sz24 (by repeat first | exact mH | apply mT) rfl (.cell rfl ag72 (by repeat first | exact mH | apply mT) rfl .nil))) ?_)
  rfl
 intro l1 D1 ob1 done ch Hr hS hJ
 exact hS.elim

end Go.Proofs.YtlcccpeelombbaaGreatDoor
