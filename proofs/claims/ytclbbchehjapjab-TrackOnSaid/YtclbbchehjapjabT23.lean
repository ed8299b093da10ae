/- Ytclbbchehjapjab: paths. -/
import Derived.Test.YtclbbchehjapjabT12
import Derived.Test.YtclbbchehjapjabPb
set_option linter.all false
namespace Go.Proofs.Ytclbbchehjapjab
open Go.Vc Go.Tk
set_option maxRecDepth 100000
theorem ticks_c (a b : Int) (w : World) : FnP Try.prog 21 [.int .i64 a, .int .i64 b] w (.bool (ticksB a b)) := by
  refine fn_pure Try.func21 rfl (by kernel_rfl) Try.ntmps21 Try.results21 rfl ?_
  refine V_seq (V_region rfl ?_)
  refine L_go rfl (X_p (p_assign rfl rfl) ?_)
  refine L_then (.cons (k := 0) rfl (.cons (k := 1) rfl .nil)) ?_
  refine V_seq (V_region rfl ?_)
  refine L_go rfl (X_p (p_move rfl rfl) ?_)
  refine L_go rfl (X_p (p_geq rfl rfl rfl) ?_)
  refine L_go rfl (X_p (p_move rfl rfl) ?_)
  refine L_cases (d := 7) rfl ?_ ?_
  · intro g1; have g1' := g1; try simp only [td] at g1'
    refine L_yes rfl rfl rfl g1 (X_p (p_move rfl rfl) ?_)
    refine L_yes rfl rfl rfl g1 (X_p (p_leq rfl rfl rfl) ?_)
    refine L_go rfl (X_p (p_pick_t rfl rfl g1 rfl) ?_)
    refine L_go rfl (X_p (p_move rfl rfl) ?_)
    refine L_cases (d := 11) rfl ?_ ?_
    · intro g2; have g2' := g2; try simp only [td] at g2'
      refine L_yes rfl rfl rfl g2 (X_p (p_move rfl rfl) ?_)
      refine L_yes rfl rfl rfl g2 (X_p (p_geq rfl rfl rfl) ?_)
      refine L_go rfl (X_p (p_pick_t rfl rfl g2 rfl) ?_)
      refine L_go rfl (X_p (p_move rfl rfl) ?_)
      refine L_cases (d := 15) rfl ?_ ?_
      · intro g3; have g3' := g3; try simp only [td] at g3'
        refine L_yes rfl rfl rfl g3 (X_p (p_move rfl rfl) ?_)
        refine L_yes rfl rfl rfl g3 (X_p (p_leq rfl rfl rfl) ?_)
        refine L_go rfl (X_p (p_pick_t rfl rfl g3 rfl) ?_)
        refine L_go rfl (X_p (p_assign rfl rfl) ?_)
        refine L_then (.cons (k := 4) rfl .nil) ?_
        refine V_ret ?_
        refine Leave.nil (.tmp rfl .nil) ?_
        show Value.bool _ = Value.bool _
        congr 1
        rw [Bool.eq_iff_iff]
        first | (simp [ticksB]; done) | (simp [ticksB]; omega)
      · intro g3; have g3' := g3; try simp only [td] at g3'
        refine L_no rfl rfl rfl g3 ?_
        refine L_no rfl rfl rfl g3 ?_
        refine L_go rfl (X_p (p_pick_f rfl rfl g3 rfl) ?_)
        refine L_go rfl (X_p (p_assign rfl rfl) ?_)
        refine L_then (.cons (k := 4) rfl .nil) ?_
        refine V_ret ?_
        refine Leave.nil (.tmp rfl .nil) ?_
        show Value.bool _ = Value.bool _
        congr 1
        rw [Bool.eq_iff_iff]
        first | (simp [ticksB]; done) | (simp [ticksB]; omega)
    · intro g2; have g2' := g2; try simp only [td] at g2'
      refine L_no rfl rfl rfl g2 ?_
      refine L_no rfl rfl rfl g2 ?_
      refine L_go rfl (X_p (p_pick_f rfl rfl g2 rfl) ?_)
      refine L_go rfl (X_p (p_move rfl rfl) ?_)
      refine L_no rfl rfl rfl rfl ?_
      refine L_no rfl rfl rfl rfl ?_
      refine L_go rfl (X_p (p_pick_f rfl rfl rfl rfl) ?_)
      refine L_go rfl (X_p (p_assign rfl rfl) ?_)
      refine L_then (.cons (k := 4) rfl .nil) ?_
      refine V_ret ?_
      refine Leave.nil (.tmp rfl .nil) ?_
      show Value.bool _ = Value.bool _
      congr 1
      rw [Bool.eq_iff_iff]
      first | (simp [ticksB]; done) | (simp [ticksB]; omega)
  · intro g1; have g1' := g1; try simp only [td] at g1'
    refine L_no rfl rfl rfl g1 ?_
    refine L_no rfl rfl rfl g1 ?_
    refine L_go rfl (X_p (p_pick_f rfl rfl g1 rfl) ?_)
    refine L_go rfl (X_p (p_move rfl rfl) ?_)
    refine L_no rfl rfl rfl rfl ?_
    refine L_no rfl rfl rfl rfl ?_
    refine L_go rfl (X_p (p_pick_f rfl rfl rfl rfl) ?_)
    refine L_go rfl (X_p (p_move rfl rfl) ?_)
    refine L_no rfl rfl rfl rfl ?_
    refine L_no rfl rfl rfl rfl ?_
    refine L_go rfl (X_p (p_pick_f rfl rfl rfl rfl) ?_)
    refine L_go rfl (X_p (p_assign rfl rfl) ?_)
    refine L_then (.cons (k := 4) rfl .nil) ?_
    refine V_ret ?_
    refine Leave.nil (.tmp rfl .nil) ?_
    show Value.bool _ = Value.bool _
    congr 1
    rw [Bool.eq_iff_iff]
    first | (simp [ticksB]; done) | (simp [ticksB]; omega)
set_option maxHeartbeats 4000000 in
theorem has_c (b : Box) (f g : Nat → Int) (h : HasB b f g) (w : World) : FnP Try.prog 24 [.agg (Box.cells b).toArray, .agg (vec3 f), .agg (vec3 g)] w (.bool true) := by
  obtain ⟨h0, h1, h2, h3, h4, h5⟩ := h
  simp only [InI3] at h0 h1 h2 h3 h4 h5
  refine fn_pure Try.func24 rfl (by kernel_rfl) Try.ntmps24 Try.results24 rfl ?_
  refine V_seq (V_region rfl ?_)
  refine L_go rfl (X_wr (w_box rfl rfl) ?_)
  rintro _ _ ⟨b1, hb1, rfl, rfl⟩
  refine L_go rfl (X_wr (w_box rfl rfl) ?_)
  rintro _ _ ⟨b2, hb2, rfl, rfl⟩
  refine L_go rfl (X_wr (w_box rfl rfl) ?_)
  rintro _ _ ⟨b3, hb3, rfl, rfl⟩
  refine L_go rfl (X_p (p_assign rfl rfl) ?_)
  refine L_then (.cons (k := 3) rfl (.cons (k := 4) rfl (.cons (k := 5) rfl .nil))) ?_
  refine V_mid (γ := Nat × Nat) (.cons (k := 4) rfl (.cons (k := 5) rfl .nil)) (fun (x7, x8) => [(7, .pointer (some ⟨x7, 0, none⟩)), (8, .pointer (some ⟨x8, 0, none⟩))]) (fun (x7, x8) => [(x8, .cells #[.int .i64 b.vx.lo, .int .i64 b.vx.hi, .int .i64 b.vy.lo, .int .i64 b.vy.hi, .int .i64 b.vz.lo, .int .i64 b.vz.hi] 99), (x7, .cells #[.int .i64 b.x.lo, .int .i64 b.x.hi, .int .i64 b.y.lo, .int .i64 b.y.hi, .int .i64 b.z.lo, .int .i64 b.z.hi] 99), (b3, .cells (vec3 g) 64), (b2, .cells (vec3 f) 64), (b1, .cells (Box.cells b).toArray 34)]) (fun (x7, x8) => True) ?_ ?_
  · refine V_draw (.rd 0 (.rd 1 (.rd 2 (.rd 3 (.rd 4 (.rd 5 (.rd 6 (.rd 7 (.rd 8 (.rd 9 (.rd 10 (.rd 11 (.rd 12 (.rd 13 (.wr2 14 [13, 12, 11, 10, 9, 8, 7, 6, 5, 4, 3, 2, 1, 0] (.wr 15 [13, 12, 11, 10, 9, 8, 7, 6, 5, 4, 3, 2, 1, 0] (.wr 16 [13, 12, 11, 10, 9, 8, 7] (.wr 17 [] .done))) 15 [13, 12, 11, 10, 9, 8, 7, 6, 5, 4, 3, 2, 1, 0] (.wr 14 [13, 12, 11, 10, 9, 8, 7, 6, 5, 4, 3, 2, 1, 0] (.wr 16 [13, 12, 11, 10, 9, 8, 7] (.wr 17 [] .done)))))))))))))))))) mixed (by kernel_rfl) rfl ?_
    refine D_p rfl (.plain rfl) (p_fieldo fo34_1 rfl rfl) ?_
    refine D_rd rfl (.plain rfl) (r_loadA (vs := [_, _]) ag32 sz32 rfl rfl (by repeat first | exact mH | apply mT) rfl) ?_
    refine D_p rfl (.plain rfl) (p_fieldo fo34_2 rfl rfl) ?_
    refine D_rd rfl (.plain rfl) (r_loadA (vs := [_, _]) ag32 sz32 rfl rfl (by repeat first | exact mH | apply mT) rfl) ?_
    refine D_p rfl (.plain rfl) (p_fieldo fo34_3 rfl rfl) ?_
    refine D_rd rfl (.plain rfl) (r_loadA (vs := [_, _]) ag32 sz32 rfl rfl (by repeat first | exact mH | apply mT) rfl) ?_
    refine D_p rfl (.plain rfl) (p_buildA (r := [_, _, _, _, _, _]) ar99 zr99 rfl rfl rfl) ?_
    refine D_p rfl (.plain rfl) (p_fieldo fo34_4 rfl rfl) ?_
    refine D_rd rfl (.plain rfl) (r_loadA (vs := [_, _]) ag32 sz32 rfl rfl (by repeat first | exact mH | apply mT) rfl) ?_
    refine D_p rfl (.plain rfl) (p_fieldo fo34_5 rfl rfl) ?_
    refine D_rd rfl (.plain rfl) (r_loadA (vs := [_, _]) ag32 sz32 rfl rfl (by repeat first | exact mH | apply mT) rfl) ?_
    refine D_p rfl (.plain rfl) (p_fieldo fo34_6 rfl rfl) ?_
    refine D_rd rfl (.plain rfl) (r_loadA (vs := [_, _]) ag32 sz32 rfl rfl (by repeat first | exact mH | apply mT) rfl) ?_
    refine D_p rfl (.plain rfl) (p_buildA (r := [_, _, _, _, _, _]) ar99 zr99 rfl rfl rfl) ?_
    refine D_wr2 rfl ?_ ?_
    · refine (.go (E' := [(12, _), (10, _), (8, _), (5, _), (3, _), (1, _)]) rfl (.plain rfl) (w_alloc zr99 rfl) rfl ?_)
      rintro _ _ ⟨b4, hb4, rfl, rfl⟩
      refine ⟨(.cons rfl (.plain rfl) (r_loadA (vs := [_, _]) ag32 sz32 rfl rfl (by repeat first | exact mH | apply mT) rfl) (.cons rfl (.plain rfl) (r_loadA (vs := [_, _]) ag32 sz32 rfl rfl (by repeat first | exact mH | apply mT) rfl) (.cons rfl (.plain rfl) (r_loadA (vs := [_, _]) ag32 sz32 rfl rfl (by repeat first | exact mH | apply mT) rfl) (.cons rfl (.plain rfl) (r_loadA (vs := [_, _]) ag32 sz32 rfl rfl (by repeat first | exact mH | apply mT) rfl) (.cons rfl (.plain rfl) (r_loadA (vs := [_, _]) ag32 sz32 rfl rfl (by repeat first | exact mH | apply mT) rfl) (.cons rfl (.plain rfl) (r_loadA (vs := [_, _]) ag32 sz32 rfl rfl (by repeat first | exact mH | apply mT) rfl) .nil)))))), ?_⟩
      refine D_wr (.go (E' := [(12, _), (10, _), (8, _), (5, _), (3, _), (1, _)]) rfl (.plain rfl) (w_alloc zr99 rfl) rfl ?_)
      rintro _ _ ⟨b5, hb5, rfl, rfl⟩
      refine ⟨(.cons rfl (.plain rfl) (r_loadA (vs := [_, _]) ag32 sz32 rfl rfl (by repeat first | exact mH | apply mT) rfl) (.cons rfl (.plain rfl) (r_loadA (vs := [_, _]) ag32 sz32 rfl rfl (by repeat first | exact mH | apply mT) rfl) (.cons rfl (.plain rfl) (r_loadA (vs := [_, _]) ag32 sz32 rfl rfl (by repeat first | exact mH | apply mT) rfl) (.cons rfl (.plain rfl) (r_loadA (vs := [_, _]) ag32 sz32 rfl rfl (by repeat first | exact mH | apply mT) rfl) (.cons rfl (.plain rfl) (r_loadA (vs := [_, _]) ag32 sz32 rfl rfl (by repeat first | exact mH | apply mT) rfl) (.cons rfl (.plain rfl) (r_loadA (vs := [_, _]) ag32 sz32 rfl rfl (by repeat first | exact mH | apply mT) rfl) .nil)))))), ?_⟩
      refine D_wr (.go (E' := [(12, _), (10, _), (8, _)]) rfl (.plain rfl) (w_store (cs' := [_, _, _, _, _, _]) sz99 rfl rfl rfl rfl rfl (by repeat first | exact .head | apply SetAt.tail) (Nat.le_of_ble_eq_true rfl) rfl) rfl ?_)
      rintro _ _ ⟨rfl, rfl⟩
      refine ⟨(.cons rfl (.plain rfl) (r_loadA (vs := [_, _]) ag32 sz32 rfl rfl (by repeat first | exact mH | apply mT) rfl) (.cons rfl (.plain rfl) (r_loadA (vs := [_, _]) ag32 sz32 rfl rfl (by repeat first | exact mH | apply mT) rfl) (.cons rfl (.plain rfl) (r_loadA (vs := [_, _]) ag32 sz32 rfl rfl (by repeat first | exact mH | apply mT) rfl) .nil))), ?_⟩
      refine D_wr (.go (E' := []) rfl (.plain rfl) (w_store (cs' := [_, _, _, _, _, _]) sz99 rfl rfl rfl rfl rfl (by repeat first | exact .head | apply SetAt.tail) (Nat.le_of_ble_eq_true rfl) rfl) rfl ?_)
      rintro _ _ ⟨rfl, rfl⟩
      refine ⟨.nil, ?_⟩
      refine D_then (.cons (k := 4) rfl (.cons (k := 5) rfl (.cons (k := 7) rfl (.cons (k := 8) rfl .nil)))) ?_
      refine ⟨(b4, b5), trivial, (.cons rfl (.cons rfl (.cons rfl (.cons rfl (.nil _))))), (by (try dsimp only); repeat (first | exact HSub.nil _ | refine HSub.take (by repeat first | exact Take.head | apply Take.tail) ?_ | exact HSub.refl _ | refine HSub.drop ?_ | refine HSub.app ?_)), rfl⟩
    · refine (.go (E' := [(12, _), (10, _), (8, _), (5, _), (3, _), (1, _)]) rfl (.plain rfl) (w_alloc zr99 rfl) rfl ?_)
      rintro _ _ ⟨b4, hb4, rfl, rfl⟩
      refine ⟨(.cons rfl (.plain rfl) (r_loadA (vs := [_, _]) ag32 sz32 rfl rfl (by repeat first | exact mH | apply mT) rfl) (.cons rfl (.plain rfl) (r_loadA (vs := [_, _]) ag32 sz32 rfl rfl (by repeat first | exact mH | apply mT) rfl) (.cons rfl (.plain rfl) (r_loadA (vs := [_, _]) ag32 sz32 rfl rfl (by repeat first | exact mH | apply mT) rfl) (.cons rfl (.plain rfl) (r_loadA (vs := [_, _]) ag32 sz32 rfl rfl (by repeat first | exact mH | apply mT) rfl) (.cons rfl (.plain rfl) (r_loadA (vs := [_, _]) ag32 sz32 rfl rfl (by repeat first | exact mH | apply mT) rfl) (.cons rfl (.plain rfl) (r_loadA (vs := [_, _]) ag32 sz32 rfl rfl (by repeat first | exact mH | apply mT) rfl) .nil)))))), ?_⟩
      refine D_wr (.go (E' := [(12, _), (10, _), (8, _), (5, _), (3, _), (1, _)]) rfl (.plain rfl) (w_alloc zr99 rfl) rfl ?_)
      rintro _ _ ⟨b5, hb5, rfl, rfl⟩
      refine ⟨(.cons rfl (.plain rfl) (r_loadA (vs := [_, _]) ag32 sz32 rfl rfl (by repeat first | exact mH | apply mT) rfl) (.cons rfl (.plain rfl) (r_loadA (vs := [_, _]) ag32 sz32 rfl rfl (by repeat first | exact mH | apply mT) rfl) (.cons rfl (.plain rfl) (r_loadA (vs := [_, _]) ag32 sz32 rfl rfl (by repeat first | exact mH | apply mT) rfl) (.cons rfl (.plain rfl) (r_loadA (vs := [_, _]) ag32 sz32 rfl rfl (by repeat first | exact mH | apply mT) rfl) (.cons rfl (.plain rfl) (r_loadA (vs := [_, _]) ag32 sz32 rfl rfl (by repeat first | exact mH | apply mT) rfl) (.cons rfl (.plain rfl) (r_loadA (vs := [_, _]) ag32 sz32 rfl rfl (by repeat first | exact mH | apply mT) rfl) .nil)))))), ?_⟩
      refine D_wr (.go (E' := [(12, _), (10, _), (8, _)]) rfl (.plain rfl) (w_store (cs' := [_, _, _, _, _, _]) sz99 rfl rfl rfl rfl rfl (by repeat first | exact .head | apply SetAt.tail) (Nat.le_of_ble_eq_true rfl) rfl) rfl ?_)
      rintro _ _ ⟨rfl, rfl⟩
      refine ⟨(.cons rfl (.plain rfl) (r_loadA (vs := [_, _]) ag32 sz32 rfl rfl (by repeat first | exact mH | apply mT) rfl) (.cons rfl (.plain rfl) (r_loadA (vs := [_, _]) ag32 sz32 rfl rfl (by repeat first | exact mH | apply mT) rfl) (.cons rfl (.plain rfl) (r_loadA (vs := [_, _]) ag32 sz32 rfl rfl (by repeat first | exact mH | apply mT) rfl) .nil))), ?_⟩
      refine D_wr (.go (E' := []) rfl (.plain rfl) (w_store (cs' := [_, _, _, _, _, _]) sz99 rfl rfl rfl rfl rfl (by repeat first | exact .head | apply SetAt.tail) (Nat.le_of_ble_eq_true rfl) rfl) rfl ?_)
      rintro _ _ ⟨rfl, rfl⟩
      refine ⟨.nil, ?_⟩
      refine D_then (.cons (k := 4) rfl (.cons (k := 5) rfl (.cons (k := 7) rfl (.cons (k := 8) rfl .nil)))) ?_
      refine ⟨(b5, b4), trivial, (.cons rfl (.cons rfl (.cons rfl (.cons rfl (.nil _))))), (by (try dsimp only); repeat (first | exact HSub.nil _ | refine HSub.take (by repeat first | exact Take.head | apply Take.tail) ?_ | exact HSub.refl _ | refine HSub.drop ?_ | refine HSub.app ?_)), rfl⟩
  · rintro ⟨x7, x8⟩ _
    refine V_seq ?_
    refine V_seq (V_region rfl ?_)
    refine L_go rfl (X_p (p_assign rfl rfl) ?_)
    refine L_then (.cons (k := 4) rfl (.cons (k := 5) rfl (.cons (k := 7) rfl (.cons (k := 8) rfl (.cons (k := 9) rfl .nil))))) ?_
    refine V_block ?_
    refine V_loopU ?_
    refine LU_step ?_
    refine V_seq ?_
    refine V_seq (V_region rfl ?_)
    refine L_go rfl (X_p (p_move rfl rfl) ?_)
    refine L_go rfl (X_p (p_lss rfl rfl rfl) ?_)
    refine L_then (.cons (k := 4) rfl (.cons (k := 5) rfl (.cons (k := 7) rfl (.cons (k := 8) rfl (.cons (k := 9) rfl (.cons (k := 25) rfl .nil)))))) ?_
    refine V_cond_t rfl rfl ?_
    refine V_skip (then_n ?_)
    refine V_seq ?_
    refine V_block ?_
    refine V_seq (V_draw (.rd 0 (.rd 1 (.rd 2 (.rd 3 (.rd 4 (.rd 5 (.rd 6 (.rd 7 (.rd 8 (.rd 9 (.rd 10 (.rd 11 (.rd 12 (.rd 13 (.rd 14 (.rd 15 (.rd 16 (.rd 17 (.rd 18 (.rd 19 (.rd 20 (.rd 21 (.rd 22 (.rd 23 (.rd 24 (.rd 25 (.rd 26 (.rd 27 (.rd 28 (.rd 29 (.rd 30 (.rd 31 (.rd 32 (.rd 33 (.rd 34 (.rd 35 (.rd 36 (.rd 37 .done)))))))))))))))))))))))))))))))))))))) mixed (by kernel_rfl) rfl ?_)
    refine D_p rfl (.plain rfl) (p_move rfl rfl) ?_
    refine D_p rfl (.plain rfl) (p_idxao ar64 rfl rfl rfl (by omega) (by omega)) ?_
    refine D_rd rfl (.plain rfl) (r_load ag3 rfl rfl (by repeat first | exact mH | apply mT) rfl) ?_
    refine D_p rfl (.plain rfl) (p_move rfl rfl) ?_
    refine D_p rfl (.plain rfl) (p_idxao ar99 rfl rfl rfl (by omega) (by omega)) ?_
    refine D_p rfl (.plain rfl) (p_fieldo fo32_0 rfl rfl) ?_
    refine D_rd rfl (.plain rfl) (r_load ag3 rfl rfl (by repeat first | exact mH | apply mT) rfl) ?_
    refine D_p rfl (.plain rfl) (p_lss rfl rfl rfl) ?_
    refine D_p rfl (.plain rfl) (p_move rfl rfl) ?_
    refine D_p rfl (.yes rfl rfl rfl (decide_eq_false (by first | omega | (dsimp only; omega)))) (p_move rfl rfl) ?_
    refine D_p rfl (.yes rfl rfl rfl (decide_eq_false (by first | omega | (dsimp only; omega)))) (p_idxao ar64 rfl rfl rfl (by omega) (by omega)) ?_
    refine D_rd rfl (.yes rfl rfl rfl (decide_eq_false (by first | omega | (dsimp only; omega)))) (r_load ag3 rfl rfl (by repeat first | exact mH | apply mT) rfl) ?_
    refine D_p rfl (.yes rfl rfl rfl (decide_eq_false (by first | omega | (dsimp only; omega)))) (p_move rfl rfl) ?_
    refine D_p rfl (.yes rfl rfl rfl (decide_eq_false (by first | omega | (dsimp only; omega)))) (p_idxao ar99 rfl rfl rfl (by omega) (by omega)) ?_
    refine D_p rfl (.yes rfl rfl rfl (decide_eq_false (by first | omega | (dsimp only; omega)))) (p_fieldo fo32_1 rfl rfl) ?_
    refine D_rd rfl (.yes rfl rfl rfl (decide_eq_false (by first | omega | (dsimp only; omega)))) (r_load ag3 rfl rfl (by repeat first | exact mH | apply mT) rfl) ?_
    refine D_p rfl (.yes rfl rfl rfl (decide_eq_false (by first | omega | (dsimp only; omega)))) (p_gtr rfl rfl rfl) ?_
    refine D_p rfl (.plain rfl) (p_pick_f rfl rfl (decide_eq_false (by first | omega | (dsimp only; omega))) rfl) ?_
    refine D_p rfl (.plain rfl) (p_move rfl rfl) ?_
    refine D_p rfl (.yes rfl rfl rfl (decide_eq_false (by first | omega | (dsimp only; omega)))) (p_move rfl rfl) ?_
    refine D_p rfl (.yes rfl rfl rfl (decide_eq_false (by first | omega | (dsimp only; omega)))) (p_idxao ar64 rfl rfl rfl (by omega) (by omega)) ?_
    refine D_rd rfl (.yes rfl rfl rfl (decide_eq_false (by first | omega | (dsimp only; omega)))) (r_load ag3 rfl rfl (by repeat first | exact mH | apply mT) rfl) ?_
    refine D_p rfl (.yes rfl rfl rfl (decide_eq_false (by first | omega | (dsimp only; omega)))) (p_move rfl rfl) ?_
    refine D_p rfl (.yes rfl rfl rfl (decide_eq_false (by first | omega | (dsimp only; omega)))) (p_idxao ar99 rfl rfl rfl (by omega) (by omega)) ?_
    refine D_p rfl (.yes rfl rfl rfl (decide_eq_false (by first | omega | (dsimp only; omega)))) (p_fieldo fo32_0 rfl rfl) ?_
    refine D_rd rfl (.yes rfl rfl rfl (decide_eq_false (by first | omega | (dsimp only; omega)))) (r_load ag3 rfl rfl (by repeat first | exact mH | apply mT) rfl) ?_
    refine D_p rfl (.yes rfl rfl rfl (decide_eq_false (by first | omega | (dsimp only; omega)))) (p_lss rfl rfl rfl) ?_
    refine D_p rfl (.plain rfl) (p_pick_f rfl rfl (decide_eq_false (by first | omega | (dsimp only; omega))) rfl) ?_
    refine D_p rfl (.plain rfl) (p_move rfl rfl) ?_
    refine D_p rfl (.yes rfl rfl rfl (decide_eq_false (by first | omega | (dsimp only; omega)))) (p_move rfl rfl) ?_
    refine D_p rfl (.yes rfl rfl rfl (decide_eq_false (by first | omega | (dsimp only; omega)))) (p_idxao ar64 rfl rfl rfl (by omega) (by omega)) ?_
    refine D_rd rfl (.yes rfl rfl rfl (decide_eq_false (by first | omega | (dsimp only; omega)))) (r_load ag3 rfl rfl (by repeat first | exact mH | apply mT) rfl) ?_
    refine D_p rfl (.yes rfl rfl rfl (decide_eq_false (by first | omega | (dsimp only; omega)))) (p_move rfl rfl) ?_
    refine D_p rfl (.yes rfl rfl rfl (decide_eq_false (by first | omega | (dsimp only; omega)))) (p_idxao ar99 rfl rfl rfl (by omega) (by omega)) ?_
    refine D_p rfl (.yes rfl rfl rfl (decide_eq_false (by first | omega | (dsimp only; omega)))) (p_fieldo fo32_1 rfl rfl) ?_
    refine D_rd rfl (.yes rfl rfl rfl (decide_eq_false (by first | omega | (dsimp only; omega)))) (r_load ag3 rfl rfl (by repeat first | exact mH | apply mT) rfl) ?_
    refine D_p rfl (.yes rfl rfl rfl (decide_eq_false (by first | omega | (dsimp only; omega)))) (p_gtr rfl rfl rfl) ?_
    refine D_p rfl (.plain rfl) (p_pick_f rfl rfl (decide_eq_false (by first | omega | (dsimp only; omega))) rfl) ?_
    refine D_then (.cons (k := 4) rfl (.cons (k := 5) rfl (.cons (k := 7) rfl (.cons (k := 8) rfl (.cons (k := 9) rfl (.cons (k := 65) rfl .nil)))))) ?_
    refine V_cond_f rfl (decide_eq_false (by first | omega | (dsimp only; omega))) ?_
    refine V_skip (blk_n (then_n ?_))
    refine V_region rfl ?_
    refine L_go rfl (X_p (p_move rfl rfl) ?_)
    first | refine L_go rfl (X_p (p_add' rfl rfl rfl (by unfold InI; omega)) ?_) | refine L_go rfl (X_p (p_add rfl rfl rfl) ?_)
    refine L_go rfl (X_p (p_assign rfl rfl) ?_)
    refine L_keep (.cons (k := 4) rfl (.cons (k := 5) rfl (.cons (k := 7) rfl (.cons (k := 8) rfl (.cons (k := 9) rfl .nil))))) (then_n ?_)
    refine LU_step ?_
    refine V_seq ?_
    refine V_seq (V_region rfl ?_)
    refine L_go rfl (X_p (p_move rfl rfl) ?_)
    refine L_go rfl (X_p (p_lss rfl rfl rfl) ?_)
    refine L_then (.cons (k := 4) rfl (.cons (k := 5) rfl (.cons (k := 7) rfl (.cons (k := 8) rfl (.cons (k := 9) rfl (.cons (k := 25) rfl .nil)))))) ?_
    refine V_cond_t rfl rfl ?_
    refine V_skip (then_n ?_)
    refine V_seq ?_
    refine V_block ?_
    refine V_seq (V_draw (.rd 0 (.rd 1 (.rd 2 (.rd 3 (.rd 4 (.rd 5 (.rd 6 (.rd 7 (.rd 8 (.rd 9 (.rd 10 (.rd 11 (.rd 12 (.rd 13 (.rd 14 (.rd 15 (.rd 16 (.rd 17 (.rd 18 (.rd 19 (.rd 20 (.rd 21 (.rd 22 (.rd 23 (.rd 24 (.rd 25 (.rd 26 (.rd 27 (.rd 28 (.rd 29 (.rd 30 (.rd 31 (.rd 32 (.rd 33 (.rd 34 (.rd 35 (.rd 36 (.rd 37 .done)))))))))))))))))))))))))))))))))))))) mixed (by kernel_rfl) rfl ?_)
    refine D_p rfl (.plain rfl) (p_move rfl rfl) ?_
    refine D_p rfl (.plain rfl) (p_idxao ar64 rfl rfl rfl (by omega) (by omega)) ?_
    refine D_rd rfl (.plain rfl) (r_load ag3 rfl rfl (by repeat first | exact mH | apply mT) rfl) ?_
    refine D_p rfl (.plain rfl) (p_move rfl rfl) ?_
    refine D_p rfl (.plain rfl) (p_idxao ar99 rfl rfl rfl (by omega) (by omega)) ?_
    refine D_p rfl (.plain rfl) (p_fieldo fo32_0 rfl rfl) ?_
    refine D_rd rfl (.plain rfl) (r_load ag3 rfl rfl (by repeat first | exact mH | apply mT) rfl) ?_
    refine D_p rfl (.plain rfl) (p_lss rfl rfl rfl) ?_
    refine D_p rfl (.plain rfl) (p_move rfl rfl) ?_
    refine D_p rfl (.yes rfl rfl rfl (decide_eq_false (by first | omega | (dsimp only; omega)))) (p_move rfl rfl) ?_
    refine D_p rfl (.yes rfl rfl rfl (decide_eq_false (by first | omega | (dsimp only; omega)))) (p_idxao ar64 rfl rfl rfl (by omega) (by omega)) ?_
    refine D_rd rfl (.yes rfl rfl rfl (decide_eq_false (by first | omega | (dsimp only; omega)))) (r_load ag3 rfl rfl (by repeat first | exact mH | apply mT) rfl) ?_
    refine D_p rfl (.yes rfl rfl rfl (decide_eq_false (by first | omega | (dsimp only; omega)))) (p_move rfl rfl) ?_
    refine D_p rfl (.yes rfl rfl rfl (decide_eq_false (by first | omega | (dsimp only; omega)))) (p_idxao ar99 rfl rfl rfl (by omega) (by omega)) ?_
    refine D_p rfl (.yes rfl rfl rfl (decide_eq_false (by first | omega | (dsimp only; omega)))) (p_fieldo fo32_1 rfl rfl) ?_
    refine D_rd rfl (.yes rfl rfl rfl (decide_eq_false (by first | omega | (dsimp only; omega)))) (r_load ag3 rfl rfl (by repeat first | exact mH | apply mT) rfl) ?_
    refine D_p rfl (.yes rfl rfl rfl (decide_eq_false (by first | omega | (dsimp only; omega)))) (p_gtr rfl rfl rfl) ?_
    refine D_p rfl (.plain rfl) (p_pick_f rfl rfl (decide_eq_false (by first | omega | (dsimp only; omega))) rfl) ?_
    refine D_p rfl (.plain rfl) (p_move rfl rfl) ?_
    refine D_p rfl (.yes rfl rfl rfl (decide_eq_false (by first | omega | (dsimp only; omega)))) (p_move rfl rfl) ?_
    refine D_p rfl (.yes rfl rfl rfl (decide_eq_false (by first | omega | (dsimp only; omega)))) (p_idxao ar64 rfl rfl rfl (by omega) (by omega)) ?_
    refine D_rd rfl (.yes rfl rfl rfl (decide_eq_false (by first | omega | (dsimp only; omega)))) (r_load ag3 rfl rfl (by repeat first | exact mH | apply mT) rfl) ?_
    refine D_p rfl (.yes rfl rfl rfl (decide_eq_false (by first | omega | (dsimp only; omega)))) (p_move rfl rfl) ?_
    refine D_p rfl (.yes rfl rfl rfl (decide_eq_false (by first | omega | (dsimp only; omega)))) (p_idxao ar99 rfl rfl rfl (by omega) (by omega)) ?_
    refine D_p rfl (.yes rfl rfl rfl (decide_eq_false (by first | omega | (dsimp only; omega)))) (p_fieldo fo32_0 rfl rfl) ?_
    refine D_rd rfl (.yes rfl rfl rfl (decide_eq_false (by first | omega | (dsimp only; omega)))) (r_load ag3 rfl rfl (by repeat first | exact mH | apply mT) rfl) ?_
    refine D_p rfl (.yes rfl rfl rfl (decide_eq_false (by first | omega | (dsimp only; omega)))) (p_lss rfl rfl rfl) ?_
    refine D_p rfl (.plain rfl) (p_pick_f rfl rfl (decide_eq_false (by first | omega | (dsimp only; omega))) rfl) ?_
    refine D_p rfl (.plain rfl) (p_move rfl rfl) ?_
    refine D_p rfl (.yes rfl rfl rfl (decide_eq_false (by first | omega | (dsimp only; omega)))) (p_move rfl rfl) ?_
    refine D_p rfl (.yes rfl rfl rfl (decide_eq_false (by first | omega | (dsimp only; omega)))) (p_idxao ar64 rfl rfl rfl (by omega) (by omega)) ?_
    refine D_rd rfl (.yes rfl rfl rfl (decide_eq_false (by first | omega | (dsimp only; omega)))) (r_load ag3 rfl rfl (by repeat first | exact mH | apply mT) rfl) ?_
    refine D_p rfl (.yes rfl rfl rfl (decide_eq_false (by first | omega | (dsimp only; omega)))) (p_move rfl rfl) ?_
    refine D_p rfl (.yes rfl rfl rfl (decide_eq_false (by first | omega | (dsimp only; omega)))) (p_idxao ar99 rfl rfl rfl (by omega) (by omega)) ?_
    refine D_p rfl (.yes rfl rfl rfl (decide_eq_false (by first | omega | (dsimp only; omega)))) (p_fieldo fo32_1 rfl rfl) ?_
    refine D_rd rfl (.yes rfl rfl rfl (decide_eq_false (by first | omega | (dsimp only; omega)))) (r_load ag3 rfl rfl (by repeat first | exact mH | apply mT) rfl) ?_
    refine D_p rfl (.yes rfl rfl rfl (decide_eq_false (by first | omega | (dsimp only; omega)))) (p_gtr rfl rfl rfl) ?_
    refine D_p rfl (.plain rfl) (p_pick_f rfl rfl (decide_eq_false (by first | omega | (dsimp only; omega))) rfl) ?_
    refine D_then (.cons (k := 4) rfl (.cons (k := 5) rfl (.cons (k := 7) rfl (.cons (k := 8) rfl (.cons (k := 9) rfl (.cons (k := 65) rfl .nil)))))) ?_
    refine V_cond_f rfl (decide_eq_false (by first | omega | (dsimp only; omega))) ?_
    refine V_skip (blk_n (then_n ?_))
    refine V_region rfl ?_
    refine L_go rfl (X_p (p_move rfl rfl) ?_)
    first | refine L_go rfl (X_p (p_add' rfl rfl rfl (by unfold InI; omega)) ?_) | refine L_go rfl (X_p (p_add rfl rfl rfl) ?_)
    refine L_go rfl (X_p (p_assign rfl rfl) ?_)
    refine L_keep (.cons (k := 4) rfl (.cons (k := 5) rfl (.cons (k := 7) rfl (.cons (k := 8) rfl (.cons (k := 9) rfl .nil))))) (then_n ?_)
    refine LU_step ?_
    refine V_seq ?_
    refine V_seq (V_region rfl ?_)
    refine L_go rfl (X_p (p_move rfl rfl) ?_)
    refine L_go rfl (X_p (p_lss rfl rfl rfl) ?_)
    refine L_then (.cons (k := 4) rfl (.cons (k := 5) rfl (.cons (k := 7) rfl (.cons (k := 8) rfl (.cons (k := 9) rfl (.cons (k := 25) rfl .nil)))))) ?_
    refine V_cond_t rfl rfl ?_
    refine V_skip (then_n ?_)
    refine V_seq ?_
    refine V_block ?_
    refine V_seq (V_draw (.rd 0 (.rd 1 (.rd 2 (.rd 3 (.rd 4 (.rd 5 (.rd 6 (.rd 7 (.rd 8 (.rd 9 (.rd 10 (.rd 11 (.rd 12 (.rd 13 (.rd 14 (.rd 15 (.rd 16 (.rd 17 (.rd 18 (.rd 19 (.rd 20 (.rd 21 (.rd 22 (.rd 23 (.rd 24 (.rd 25 (.rd 26 (.rd 27 (.rd 28 (.rd 29 (.rd 30 (.rd 31 (.rd 32 (.rd 33 (.rd 34 (.rd 35 (.rd 36 (.rd 37 .done)))))))))))))))))))))))))))))))))))))) mixed (by kernel_rfl) rfl ?_)
    refine D_p rfl (.plain rfl) (p_move rfl rfl) ?_
    refine D_p rfl (.plain rfl) (p_idxao ar64 rfl rfl rfl (by omega) (by omega)) ?_
    refine D_rd rfl (.plain rfl) (r_load ag3 rfl rfl (by repeat first | exact mH | apply mT) rfl) ?_
    refine D_p rfl (.plain rfl) (p_move rfl rfl) ?_
    refine D_p rfl (.plain rfl) (p_idxao ar99 rfl rfl rfl (by omega) (by omega)) ?_
    refine D_p rfl (.plain rfl) (p_fieldo fo32_0 rfl rfl) ?_
    refine D_rd rfl (.plain rfl) (r_load ag3 rfl rfl (by repeat first | exact mH | apply mT) rfl) ?_
    refine D_p rfl (.plain rfl) (p_lss rfl rfl rfl) ?_
    refine D_p rfl (.plain rfl) (p_move rfl rfl) ?_
    refine D_p rfl (.yes rfl rfl rfl (decide_eq_false (by first | omega | (dsimp only; omega)))) (p_move rfl rfl) ?_
    refine D_p rfl (.yes rfl rfl rfl (decide_eq_false (by first | omega | (dsimp only; omega)))) (p_idxao ar64 rfl rfl rfl (by omega) (by omega)) ?_
    refine D_rd rfl (.yes rfl rfl rfl (decide_eq_false (by first | omega | (dsimp only; omega)))) (r_load ag3 rfl rfl (by repeat first | exact mH | apply mT) rfl) ?_
    refine D_p rfl (.yes rfl rfl rfl (decide_eq_false (by first | omega | (dsimp only; omega)))) (p_move rfl rfl) ?_
    refine D_p rfl (.yes rfl rfl rfl (decide_eq_false (by first | omega | (dsimp only; omega)))) (p_idxao ar99 rfl rfl rfl (by omega) (by omega)) ?_
    refine D_p rfl (.yes rfl rfl rfl (decide_eq_false (by first | omega | (dsimp only; omega)))) (p_fieldo fo32_1 rfl rfl) ?_
    refine D_rd rfl (.yes rfl rfl rfl (decide_eq_false (by first | omega | (dsimp only; omega)))) (r_load ag3 rfl rfl (by repeat first | exact mH | apply mT) rfl) ?_
    refine D_p rfl (.yes rfl rfl rfl (decide_eq_false (by first | omega | (dsimp only; omega)))) (p_gtr rfl rfl rfl) ?_
    refine D_p rfl (.plain rfl) (p_pick_f rfl rfl (decide_eq_false (by first | omega | (dsimp only; omega))) rfl) ?_
    refine D_p rfl (.plain rfl) (p_move rfl rfl) ?_
    refine D_p rfl (.yes rfl rfl rfl (decide_eq_false (by first | omega | (dsimp only; omega)))) (p_move rfl rfl) ?_
    refine D_p rfl (.yes rfl rfl rfl (decide_eq_false (by first | omega | (dsimp only; omega)))) (p_idxao ar64 rfl rfl rfl (by omega) (by omega)) ?_
    refine D_rd rfl (.yes rfl rfl rfl (decide_eq_false (by first | omega | (dsimp only; omega)))) (r_load ag3 rfl rfl (by repeat first | exact mH | apply mT) rfl) ?_
    refine D_p rfl (.yes rfl rfl rfl (decide_eq_false (by first | omega | (dsimp only; omega)))) (p_move rfl rfl) ?_
    refine D_p rfl (.yes rfl rfl rfl (decide_eq_false (by first | omega | (dsimp only; omega)))) (p_idxao ar99 rfl rfl rfl (by omega) (by omega)) ?_
    refine D_p rfl (.yes rfl rfl rfl (decide_eq_false (by first | omega | (dsimp only; omega)))) (p_fieldo fo32_0 rfl rfl) ?_
    refine D_rd rfl (.yes rfl rfl rfl (decide_eq_false (by first | omega | (dsimp only; omega)))) (r_load ag3 rfl rfl (by repeat first | exact mH | apply mT) rfl) ?_
    refine D_p rfl (.yes rfl rfl rfl (decide_eq_false (by first | omega | (dsimp only; omega)))) (p_lss rfl rfl rfl) ?_
    refine D_p rfl (.plain rfl) (p_pick_f rfl rfl (decide_eq_false (by first | omega | (dsimp only; omega))) rfl) ?_
    refine D_p rfl (.plain rfl) (p_move rfl rfl) ?_
    refine D_p rfl (.yes rfl rfl rfl (decide_eq_false (by first | omega | (dsimp only; omega)))) (p_move rfl rfl) ?_
    refine D_p rfl (.yes rfl rfl rfl (decide_eq_false (by first | omega | (dsimp only; omega)))) (p_idxao ar64 rfl rfl rfl (by omega) (by omega)) ?_
    refine D_rd rfl (.yes rfl rfl rfl (decide_eq_false (by first | omega | (dsimp only; omega)))) (r_load ag3 rfl rfl (by repeat first | exact mH | apply mT) rfl) ?_
    refine D_p rfl (.yes rfl rfl rfl (decide_eq_false (by first | omega | (dsimp only; omega)))) (p_move rfl rfl) ?_
    refine D_p rfl (.yes rfl rfl rfl (decide_eq_false (by first | omega | (dsimp only; omega)))) (p_idxao ar99 rfl rfl rfl (by omega) (by omega)) ?_
    refine D_p rfl (.yes rfl rfl rfl (decide_eq_false (by first | omega | (dsimp only; omega)))) (p_fieldo fo32_1 rfl rfl) ?_
    refine D_rd rfl (.yes rfl rfl rfl (decide_eq_false (by first | omega | (dsimp only; omega)))) (r_load ag3 rfl rfl (by repeat first | exact mH | apply mT) rfl) ?_
    refine D_p rfl (.yes rfl rfl rfl (decide_eq_false (by first | omega | (dsimp only; omega)))) (p_gtr rfl rfl rfl) ?_
    refine D_p rfl (.plain rfl) (p_pick_f rfl rfl (decide_eq_false (by first | omega | (dsimp only; omega))) rfl) ?_
    refine D_then (.cons (k := 4) rfl (.cons (k := 5) rfl (.cons (k := 7) rfl (.cons (k := 8) rfl (.cons (k := 9) rfl (.cons (k := 65) rfl .nil)))))) ?_
    refine V_cond_f rfl (decide_eq_false (by first | omega | (dsimp only; omega))) ?_
    refine V_skip (blk_n (then_n ?_))
    refine V_region rfl ?_
    refine L_go rfl (X_p (p_move rfl rfl) ?_)
    first | refine L_go rfl (X_p (p_add' rfl rfl rfl (by unfold InI; omega)) ?_) | refine L_go rfl (X_p (p_add rfl rfl rfl) ?_)
    refine L_go rfl (X_p (p_assign rfl rfl) ?_)
    refine L_keep (.cons (k := 4) rfl (.cons (k := 5) rfl (.cons (k := 7) rfl (.cons (k := 8) rfl (.cons (k := 9) rfl .nil))))) (then_n ?_)
    refine LU_step ?_
    refine V_seq ?_
    refine V_seq (V_region rfl ?_)
    refine L_go rfl (X_p (p_move rfl rfl) ?_)
    refine L_go rfl (X_p (p_lss rfl rfl rfl) ?_)
    refine L_then (.cons (k := 4) rfl (.cons (k := 5) rfl (.cons (k := 7) rfl (.cons (k := 8) rfl (.cons (k := 9) rfl (.cons (k := 25) rfl .nil)))))) ?_
    refine V_cond_f rfl rfl ?_
    refine V_exit (then_e (then_e (blk_e rfl (then_n ?_))))
    refine V_seq (V_region rfl ?_)
    refine L_go rfl (X_p (p_assign rfl rfl) ?_)
    refine L_then (.cons (k := 6) rfl .nil) ?_
    refine V_ret ?_
    refine Leave.nil (.tmp rfl .nil) ?_
    rfl
set_option maxHeartbeats 4000000 in
theorem spot_c (t : Task) (p : PathM) (sv av tv pv : Value) (ra : Option Addr) (rc : Nat) (u : Int) (hf : 0 ≤ t.frm ∧ t.frm ≤ 100000) (hu : u ≤ 200000) (hsm : SmallP t p 601) (w : World) (hr : SliceR w 3 (.slice ra 602 rc) (rowsP t p 602)) : FnP Try.prog 22 [.agg #[.int .i64 t.frm, sv, av, tv, pv], .slice ra 602 rc, .int .i64 u] w (spotR t p u) := by
  refine fn_pure Try.func22 rfl (by kernel_rfl) Try.ntmps22 Try.results22 rfl ?_
  refine V_seq (V_region rfl ?_)
  refine L_go rfl (X_wr (w_box rfl rfl) ?_)
  rintro _ _ ⟨b1, hb1, rfl, rfl⟩
  refine L_go rfl (X_wr (w_alloc zr64 rfl) ?_)
  rintro _ _ ⟨b2, hb2, rfl, rfl⟩
  refine L_go rfl (X_wr (w_alloc zr64 rfl) ?_)
  rintro _ _ ⟨b3, hb3, rfl, rfl⟩
  refine L_go rfl (X_p (p_assign rfl rfl) ?_)
  refine L_then (.cons (k := 1) rfl (.cons (k := 2) rfl (.cons (k := 3) rfl (.cons (k := 6) rfl (.cons (k := 7) rfl .nil))))) ?_
  refine V_seq ?_
  refine V_seq (V_region rfl ?_)
  refine L_go rfl (X_p (p_move rfl rfl) ?_)
  refine L_go rfl (X_p (p_fieldo fo25_0 rfl rfl) ?_)
  refine L_go rfl (X_rd (r_load ag3 rfl rfl (by repeat first | exact mH | apply mT) rfl) ?_)
  refine L_go rfl (X_p (p_lss rfl rfl rfl) ?_)
  refine L_then (.cons (k := 1) rfl (.cons (k := 2) rfl (.cons (k := 3) rfl (.cons (k := 6) rfl (.cons (k := 7) rfl (.cons (k := 15) rfl .nil)))))) ?_
  refine V_cond rfl ?_ ?_
  · intro c1; try simp only [td] at c1
    refine V_seq (V_region rfl ?_)
    refine L_go rfl (X_p (p_buildA (r := [_, _, _]) ar64 zr64 rfl rfl rfl) ?_)
    refine L_go rfl (X_p (p_buildA (r := [_, _, _]) ar64 zr64 rfl rfl rfl) ?_)
    refine L_go rfl (X_wr (w_store (cs' := [_, _, _]) sz64 rfl rfl rfl rfl rfl (by repeat first | exact .head | apply SetAt.tail) (Nat.le_of_ble_eq_true rfl) rfl) ?_)
    rintro _ _ ⟨rfl, rfl⟩
    refine L_go rfl (X_wr (w_store (cs' := [_, _, _]) sz64 rfl rfl rfl rfl rfl (by repeat first | exact .head | apply SetAt.tail) (Nat.le_of_ble_eq_true rfl) rfl) ?_)
    rintro _ _ ⟨rfl, rfl⟩
    refine L_go rfl (X_p (p_assign rfl rfl) ?_)
    refine L_then (.cons (k := 6) rfl (.cons (k := 7) rfl (.cons (k := 8) rfl .nil))) ?_
    refine V_ret (then_r ?_)
    refine Leave.nil (.cellA (us := [_, _, _]) rfl ag64 sz64 (by repeat first | exact mH | apply mT) rfl (.cellA (us := [_, _, _]) rfl ag64 sz64 (by repeat first | exact mH | apply mT) rfl (.tmp rfl .nil))) ?_
    exact (spot_lt (by omega)).symm
  · intro c1; try simp only [td] at c1
    refine V_skip (then_n ?_)
    refine V_seq (V_region rfl ?_)
    refine L_go rfl (X_p (p_move rfl rfl) ?_)
    refine L_go rfl (X_p (p_fieldo fo25_0 rfl rfl) ?_)
    refine L_go rfl (X_rd (r_load ag3 rfl rfl (by repeat first | exact mH | apply mT) rfl) ?_)
    first | refine L_go rfl (X_p (p_sub' rfl rfl rfl (by unfold InI; omega)) ?_) | refine L_go rfl (X_p (p_sub rfl rfl rfl) ?_)
    refine L_go rfl (X_p (p_assign rfl rfl) ?_)
    refine L_then (.cons (k := 1) rfl (.cons (k := 6) rfl (.cons (k := 7) rfl (.cons (k := 9) rfl .nil)))) ?_
    refine V_seq ?_
    refine V_seq (V_region rfl ?_)
    refine L_go rfl (X_p (p_move rfl rfl) ?_)
    refine L_go rfl (X_p (p_lss rfl rfl rfl) ?_)
    refine L_go rfl (X_p (p_move rfl rfl) ?_)
    refine L_cases (d := 24) rfl ?_ ?_
    · intro g1; have g1' := g1; try simp only [td] at g1'
      exfalso; omega
    · intro g1; have g1' := g1; try simp only [td] at g1'
      refine L_yes rfl rfl rfl g1 (X_p (p_move rfl rfl) ?_)
      first | refine L_yes rfl rfl rfl g1 (X_p (p_add' rfl rfl rfl (by unfold InI; omega)) ?_) | refine L_yes rfl rfl rfl g1 (X_p (p_add rfl rfl rfl) ?_)
      first | refine L_yes rfl rfl rfl g1 (X_p (p_add' rfl rfl rfl (by unfold InI; omega)) ?_) | refine L_yes rfl rfl rfl g1 (X_p (p_add rfl rfl rfl) ?_)
      refine L_yes rfl rfl rfl g1 (X_p (p_move rfl rfl) ?_)
      refine L_yes rfl rfl rfl g1 (X_p (p_len isl60 rfl rfl) ?_)
      refine L_yes rfl rfl rfl g1 (X_p (p_geq rfl rfl rfl) ?_)
      refine L_go rfl (X_p (p_pick_f rfl rfl g1 rfl) ?_)
      refine L_then (.cons (k := 1) rfl (.cons (k := 6) rfl (.cons (k := 7) rfl (.cons (k := 9) rfl (.cons (k := 31) rfl .nil))))) ?_
      refine V_cond rfl ?_ ?_
      · intro c2; try simp only [td] at c2
        refine V_seq (V_region rfl ?_)
        refine L_go rfl (X_p (p_buildA (r := [_, _, _]) ar64 zr64 rfl rfl rfl) ?_)
        refine L_go rfl (X_p (p_buildA (r := [_, _, _]) ar64 zr64 rfl rfl rfl) ?_)
        refine L_go rfl (X_wr (w_store (cs' := [_, _, _]) sz64 rfl rfl rfl rfl rfl (by repeat first | exact .head | apply SetAt.tail) (Nat.le_of_ble_eq_true rfl) rfl) ?_)
        rintro _ _ ⟨rfl, rfl⟩
        refine L_go rfl (X_wr (w_store (cs' := [_, _, _]) sz64 rfl rfl rfl rfl rfl (by repeat first | exact .head | apply SetAt.tail) (Nat.le_of_ble_eq_true rfl) rfl) ?_)
        rintro _ _ ⟨rfl, rfl⟩
        refine L_go rfl (X_p (p_assign rfl rfl) ?_)
        refine L_then (.cons (k := 6) rfl (.cons (k := 7) rfl (.cons (k := 8) rfl .nil))) ?_
        refine V_ret (then_r ?_)
        refine Leave.nil (.cellA (us := [_, _, _]) rfl ag64 sz64 (by repeat first | exact mH | apply mT) rfl (.cellA (us := [_, _, _]) rfl ag64 sz64 (by repeat first | exact mH | apply mT) rfl (.tmp rfl .nil))) ?_
        exact (spot_out (by omega) (by omega)).symm
      · intro c2; try simp only [td] at c2
        obtain ⟨xb, rfl, hc1⟩ := hr.at (i := (u - t.frm + 1).toNat) (rowsP_at (by omega))
        obtain ⟨xb2, hxb, hc0⟩ := hr.at (i := (u - t.frm).toNat) (rowsP_at (by omega))
        cases hxb
        have s00 := hsm (u - t.frm).toNat (by omega) 0 (by decide)
        have s01 := hsm (u - t.frm).toNat (by omega) 1 (by decide)
        have s02 := hsm (u - t.frm).toNat (by omega) 2 (by decide)
        have s10 := hsm (u - t.frm + 1).toNat (by omega) 0 (by decide)
        have s11 := hsm (u - t.frm + 1).toNat (by omega) 1 (by decide)
        have s12 := hsm (u - t.frm + 1).toNat (by omega) 2 (by decide)
        refine V_skip (then_n ?_)
        refine V_seq (V_region rfl ?_)
        refine L_go rfl (X_wr (w_alloc zr64 rfl) ?_)
        rintro _ _ ⟨b4, hb4, rfl, rfl⟩
        refine L_then (.cons (k := 1) rfl (.cons (k := 6) rfl (.cons (k := 7) rfl (.cons (k := 9) rfl (.cons (k := 10) rfl .nil))))) ?_
        refine V_seq ?_
        refine V_seq (V_region rfl ?_)
        refine L_go rfl (X_p (p_assign rfl rfl) ?_)
        refine L_then (.cons (k := 1) rfl (.cons (k := 6) rfl (.cons (k := 7) rfl (.cons (k := 9) rfl (.cons (k := 10) rfl (.cons (k := 11) rfl .nil)))))) ?_
        refine V_block ?_
        refine V_loopU ?_
        refine LU_step ?_
        refine V_seq ?_
        refine V_seq (V_region rfl ?_)
        refine L_go rfl (X_p (p_move rfl rfl) ?_)
        refine L_go rfl (X_p (p_lss rfl rfl rfl) ?_)
        refine L_then (.cons (k := 1) rfl (.cons (k := 6) rfl (.cons (k := 7) rfl (.cons (k := 9) rfl (.cons (k := 10) rfl (.cons (k := 11) rfl (.cons (k := 35) rfl .nil))))))) ?_
        refine V_cond_t rfl rfl ?_
        refine V_skip (then_n ?_)
        refine V_seq ?_
        refine V_block ?_
        refine V_draw (.rd 0 (.rd 1 (.rd 2 (.rd 3 (.rd 4 (.rd 5 (.rd 6 (.rd 7 (.rd 8 (.rd 9 (.rd 10 (.rd 11 (.rd 12 (.rd 13 (.rd 14 (.rd 15 (.wr 16 [] .done))))))))))))))))) mixed (by kernel_rfl) rfl ?_
        refine D_p rfl (.plain rfl) (p_move rfl rfl) ?_
        refine D_p rfl (.plain rfl) (p_move rfl rfl) ?_
        refine D_p rfl (.plain rfl) (p_move rfl rfl) ?_
        first | refine D_p rfl (.plain rfl) (p_add' rfl rfl rfl (by unfold InI; omega)) ?_ | refine D_p rfl (.plain rfl) (p_add rfl rfl rfl) ?_
        refine D_p rfl (.plain rfl) (p_move rfl rfl) ?_
        refine D_p rfl (.plain rfl) (p_idx es60 rfl rfl rfl (by omega) (by omega)) ?_
        refine D_p rfl (.plain rfl) (p_idxa ar64 rfl rfl rfl (by omega) (by omega)) ?_
        refine D_rd rfl (.plain rfl) (r_loadB ag3 rfl rfl (hc1 _ _ rfl) List.not_mem_nil) ?_
        refine D_p rfl (.plain rfl) (p_move rfl rfl) ?_
        refine D_p rfl (.plain rfl) (p_move rfl rfl) ?_
        refine D_p rfl (.plain rfl) (p_move rfl rfl) ?_
        refine D_p rfl (.plain rfl) (p_idx es60 rfl rfl rfl (by omega) (by omega)) ?_
        refine D_p rfl (.plain rfl) (p_idxa ar64 rfl rfl rfl (by omega) (by omega)) ?_
        refine D_rd rfl (.plain rfl) (r_loadB ag3 rfl rfl (hc0 _ _ rfl) List.not_mem_nil) ?_
        first | refine D_p rfl (.plain rfl) (p_sub' rfl rfl rfl (by unfold InI; omega)) ?_ | refine D_p rfl (.plain rfl) (p_sub rfl rfl rfl) ?_
        refine D_p rfl (.plain rfl) (p_idxao ar64 rfl rfl rfl (by omega) (by omega)) ?_
        refine D_wr (.go (E' := []) rfl (.plain rfl) (w_store (cs' := [_, _, _]) sz3 rfl rfl rfl rfl rfl (by repeat first | exact .head | apply SetAt.tail) (Nat.le_of_ble_eq_true rfl) rfl) rfl ?_)
        rintro _ _ ⟨rfl, rfl⟩
        refine ⟨.nil, ?_⟩
        refine D_keep (.cons (k := 1) rfl (.cons (k := 6) rfl (.cons (k := 7) rfl (.cons (k := 9) rfl (.cons (k := 10) rfl (.cons (k := 11) rfl .nil)))))) (blk_n (then_n ?_))
        refine V_region rfl ?_
        refine L_go rfl (X_p (p_move rfl rfl) ?_)
        first | refine L_go rfl (X_p (p_add' rfl rfl rfl (by unfold InI; omega)) ?_) | refine L_go rfl (X_p (p_add rfl rfl rfl) ?_)
        refine L_go rfl (X_p (p_assign rfl rfl) ?_)
        refine L_keep (.cons (k := 1) rfl (.cons (k := 6) rfl (.cons (k := 7) rfl (.cons (k := 9) rfl (.cons (k := 10) rfl (.cons (k := 11) rfl .nil)))))) (then_n ?_)
        refine LU_step ?_
        refine V_seq ?_
        refine V_seq (V_region rfl ?_)
        refine L_go rfl (X_p (p_move rfl rfl) ?_)
        refine L_go rfl (X_p (p_lss rfl rfl rfl) ?_)
        refine L_then (.cons (k := 1) rfl (.cons (k := 6) rfl (.cons (k := 7) rfl (.cons (k := 9) rfl (.cons (k := 10) rfl (.cons (k := 11) rfl (.cons (k := 35) rfl .nil))))))) ?_
        refine V_cond_t rfl rfl ?_
        refine V_skip (then_n ?_)
        refine V_seq ?_
        refine V_block ?_
        refine V_draw (.rd 0 (.rd 1 (.rd 2 (.rd 3 (.rd 4 (.rd 5 (.rd 6 (.rd 7 (.rd 8 (.rd 9 (.rd 10 (.rd 11 (.rd 12 (.rd 13 (.rd 14 (.rd 15 (.wr 16 [] .done))))))))))))))))) mixed (by kernel_rfl) rfl ?_
        refine D_p rfl (.plain rfl) (p_move rfl rfl) ?_
        refine D_p rfl (.plain rfl) (p_move rfl rfl) ?_
        refine D_p rfl (.plain rfl) (p_move rfl rfl) ?_
        first | refine D_p rfl (.plain rfl) (p_add' rfl rfl rfl (by unfold InI; omega)) ?_ | refine D_p rfl (.plain rfl) (p_add rfl rfl rfl) ?_
        refine D_p rfl (.plain rfl) (p_move rfl rfl) ?_
        refine D_p rfl (.plain rfl) (p_idx es60 rfl rfl rfl (by omega) (by omega)) ?_
        refine D_p rfl (.plain rfl) (p_idxa ar64 rfl rfl rfl (by omega) (by omega)) ?_
        refine D_rd rfl (.plain rfl) (r_loadB ag3 rfl rfl (hc1 _ _ rfl) List.not_mem_nil) ?_
        refine D_p rfl (.plain rfl) (p_move rfl rfl) ?_
        refine D_p rfl (.plain rfl) (p_move rfl rfl) ?_
        refine D_p rfl (.plain rfl) (p_move rfl rfl) ?_
        refine D_p rfl (.plain rfl) (p_idx es60 rfl rfl rfl (by omega) (by omega)) ?_
        refine D_p rfl (.plain rfl) (p_idxa ar64 rfl rfl rfl (by omega) (by omega)) ?_
        refine D_rd rfl (.plain rfl) (r_loadB ag3 rfl rfl (hc0 _ _ rfl) List.not_mem_nil) ?_
        first | refine D_p rfl (.plain rfl) (p_sub' rfl rfl rfl (by unfold InI; omega)) ?_ | refine D_p rfl (.plain rfl) (p_sub rfl rfl rfl) ?_
        refine D_p rfl (.plain rfl) (p_idxao ar64 rfl rfl rfl (by omega) (by omega)) ?_
        refine D_wr (.go (E' := []) rfl (.plain rfl) (w_store (cs' := [_, _, _]) sz3 rfl rfl rfl rfl rfl (by repeat first | exact .head | apply SetAt.tail) (Nat.le_of_ble_eq_true rfl) rfl) rfl ?_)
        rintro _ _ ⟨rfl, rfl⟩
        refine ⟨.nil, ?_⟩
        refine D_keep (.cons (k := 1) rfl (.cons (k := 6) rfl (.cons (k := 7) rfl (.cons (k := 9) rfl (.cons (k := 10) rfl (.cons (k := 11) rfl .nil)))))) (blk_n (then_n ?_))
        refine V_region rfl ?_
        refine L_go rfl (X_p (p_move rfl rfl) ?_)
        first | refine L_go rfl (X_p (p_add' rfl rfl rfl (by unfold InI; omega)) ?_) | refine L_go rfl (X_p (p_add rfl rfl rfl) ?_)
        refine L_go rfl (X_p (p_assign rfl rfl) ?_)
        refine L_keep (.cons (k := 1) rfl (.cons (k := 6) rfl (.cons (k := 7) rfl (.cons (k := 9) rfl (.cons (k := 10) rfl (.cons (k := 11) rfl .nil)))))) (then_n ?_)
        refine LU_step ?_
        refine V_seq ?_
        refine V_seq (V_region rfl ?_)
        refine L_go rfl (X_p (p_move rfl rfl) ?_)
        refine L_go rfl (X_p (p_lss rfl rfl rfl) ?_)
        refine L_then (.cons (k := 1) rfl (.cons (k := 6) rfl (.cons (k := 7) rfl (.cons (k := 9) rfl (.cons (k := 10) rfl (.cons (k := 11) rfl (.cons (k := 35) rfl .nil))))))) ?_
        refine V_cond_t rfl rfl ?_
        refine V_skip (then_n ?_)
        refine V_seq ?_
        refine V_block ?_
        refine V_draw (.rd 0 (.rd 1 (.rd 2 (.rd 3 (.rd 4 (.rd 5 (.rd 6 (.rd 7 (.rd 8 (.rd 9 (.rd 10 (.rd 11 (.rd 12 (.rd 13 (.rd 14 (.rd 15 (.wr 16 [] .done))))))))))))))))) mixed (by kernel_rfl) rfl ?_
        refine D_p rfl (.plain rfl) (p_move rfl rfl) ?_
        refine D_p rfl (.plain rfl) (p_move rfl rfl) ?_
        refine D_p rfl (.plain rfl) (p_move rfl rfl) ?_
        first | refine D_p rfl (.plain rfl) (p_add' rfl rfl rfl (by unfold InI; omega)) ?_ | refine D_p rfl (.plain rfl) (p_add rfl rfl rfl) ?_
        refine D_p rfl (.plain rfl) (p_move rfl rfl) ?_
        refine D_p rfl (.plain rfl) (p_idx es60 rfl rfl rfl (by omega) (by omega)) ?_
        refine D_p rfl (.plain rfl) (p_idxa ar64 rfl rfl rfl (by omega) (by omega)) ?_
        refine D_rd rfl (.plain rfl) (r_loadB ag3 rfl rfl (hc1 _ _ rfl) List.not_mem_nil) ?_
        refine D_p rfl (.plain rfl) (p_move rfl rfl) ?_
        refine D_p rfl (.plain rfl) (p_move rfl rfl) ?_
        refine D_p rfl (.plain rfl) (p_move rfl rfl) ?_
        refine D_p rfl (.plain rfl) (p_idx es60 rfl rfl rfl (by omega) (by omega)) ?_
        refine D_p rfl (.plain rfl) (p_idxa ar64 rfl rfl rfl (by omega) (by omega)) ?_
        refine D_rd rfl (.plain rfl) (r_loadB ag3 rfl rfl (hc0 _ _ rfl) List.not_mem_nil) ?_
        first | refine D_p rfl (.plain rfl) (p_sub' rfl rfl rfl (by unfold InI; omega)) ?_ | refine D_p rfl (.plain rfl) (p_sub rfl rfl rfl) ?_
        refine D_p rfl (.plain rfl) (p_idxao ar64 rfl rfl rfl (by omega) (by omega)) ?_
        refine D_wr (.go (E' := []) rfl (.plain rfl) (w_store (cs' := [_, _, _]) sz3 rfl rfl rfl rfl rfl (by repeat first | exact .head | apply SetAt.tail) (Nat.le_of_ble_eq_true rfl) rfl) rfl ?_)
        rintro _ _ ⟨rfl, rfl⟩
        refine ⟨.nil, ?_⟩
        refine D_keep (.cons (k := 1) rfl (.cons (k := 6) rfl (.cons (k := 7) rfl (.cons (k := 9) rfl (.cons (k := 10) rfl (.cons (k := 11) rfl .nil)))))) (blk_n (then_n ?_))
        refine V_region rfl ?_
        refine L_go rfl (X_p (p_move rfl rfl) ?_)
        first | refine L_go rfl (X_p (p_add' rfl rfl rfl (by unfold InI; omega)) ?_) | refine L_go rfl (X_p (p_add rfl rfl rfl) ?_)
        refine L_go rfl (X_p (p_assign rfl rfl) ?_)
        refine L_keep (.cons (k := 1) rfl (.cons (k := 6) rfl (.cons (k := 7) rfl (.cons (k := 9) rfl (.cons (k := 10) rfl (.cons (k := 11) rfl .nil)))))) (then_n ?_)
        refine LU_step ?_
        refine V_seq ?_
        refine V_seq (V_region rfl ?_)
        refine L_go rfl (X_p (p_move rfl rfl) ?_)
        refine L_go rfl (X_p (p_lss rfl rfl rfl) ?_)
        refine L_then (.cons (k := 1) rfl (.cons (k := 6) rfl (.cons (k := 7) rfl (.cons (k := 9) rfl (.cons (k := 10) rfl (.cons (k := 11) rfl (.cons (k := 35) rfl .nil))))))) ?_
        refine V_cond_f rfl rfl ?_
        refine V_exit (then_e (then_e (blk_e rfl (then_n ?_))))
        refine V_seq (V_draw (.rd 0 (.rd 1 (.rd 2 (.rd 3 (.rd 4 (.wr 5 [4] (.wr 6 [] (.rd 7 .done)))))))) mixed (by kernel_rfl) rfl ?_)
        refine D_p rfl (.plain rfl) (p_move rfl rfl) ?_
        refine D_p rfl (.plain rfl) (p_move rfl rfl) ?_
        refine D_p rfl (.plain rfl) (p_idx es60 rfl rfl rfl (by omega) (by omega)) ?_
        refine D_rd rfl (.plain rfl) (r_loadBA ag64 sz64 rfl rfl hc0 rfl List.not_mem_nil) ?_
        refine D_rd rfl (.plain rfl) (r_loadA (vs := [_, _, _]) ag64 sz64 rfl rfl (by repeat first | exact mH | apply mT) rfl) ?_
        refine D_wr (.go (E' := [(4, _)]) rfl (.plain rfl) (w_store (cs' := [_, _, _]) sz64 rfl rfl rfl rfl rfl (by repeat first | exact .head | apply SetAt.tail) (Nat.le_of_ble_eq_true rfl) rfl) rfl ?_)
        rintro _ _ ⟨rfl, rfl⟩
        refine ⟨(.cons rfl (.plain rfl) (r_loadA (vs := [_, _, _]) ag64 sz64 rfl rfl (by repeat first | exact mH | apply mT) rfl) .nil), ?_⟩
        refine D_wr (.go (E' := []) rfl (.plain rfl) (w_store (cs' := [_, _, _]) sz64 rfl rfl rfl rfl rfl (by repeat first | exact .head | apply SetAt.tail) (Nat.le_of_ble_eq_true rfl) rfl) rfl ?_)
        rintro _ _ ⟨rfl, rfl⟩
        refine ⟨.nil, ?_⟩
        refine D_p rfl (.plain rfl) (p_assign rfl rfl) ?_
        refine D_then (.cons (k := 6) rfl (.cons (k := 7) rfl (.cons (k := 8) rfl .nil))) ?_
        refine V_ret ?_
        refine Leave.nil (.cellA (us := [_, _, _]) rfl ag64 sz64 (by repeat first | exact mH | apply mT) rfl (.cellA (us := [_, _, _]) rfl ag64 sz64 (by repeat first | exact mH | apply mT) rfl (.tmp rfl .nil))) ?_
        exact (spot_in (by omega) (by omega)).symm
set_option maxHeartbeats 8000000 in
theorem run_c (p : PathM) (pv : Value) (w : World) (hpr : PathR w pv p) (t : Task) (hG : GoodT t) (tv pv2 : Value) : FnC Try.prog 55 [pv, .agg #[.int .i64 t.frm, .int .i64 t.speed, .int .i64 t.accel, tv, pv2]] w fun v w' => ∃ Hc, Vc.Good w [] Hc w' ∧ ∃ A G, Hc = A ++ G ∧ RunOut t p 64 v A G := by
  obtain ⟨pp, pc, wa, wc, rfl, hps, hws, hpsl, hpwl⟩ := hpr.ex
  obtain ⟨hf, hs, ha⟩ := hG.nums
  refine fn_new Try.func55 rfl (by kernel_rfl) Try.ntmps55 Try.results55 rfl ?_
  refine V_seq (V_region rfl ?_)
  refine L_go rfl (X_wr (w_box rfl rfl) ?_)
  rintro _ _ ⟨b1, hb1, rfl, rfl⟩
  refine L_go rfl (X_wr (w_box rfl rfl) ?_)
  rintro _ _ ⟨b2, hb2, rfl, rfl⟩
  refine L_go rfl (X_p (p_assign rfl rfl) ?_)
  refine L_go rfl (X_p (p_assign rfl rfl) ?_)
  refine L_then (.cons (k := 2) rfl (.cons (k := 3) rfl .nil)) ?_
  refine V_seq (V_region rfl ?_)
  refine L_go rfl (X_wr (w_alloc zr64 rfl) ?_)
  rintro _ _ ⟨b3, hb3, rfl, rfl⟩
  refine L_go rfl (X_wr (w_alloc zr64 rfl) ?_)
  rintro _ _ ⟨b4, hb4, rfl, rfl⟩
  refine L_then (.cons (k := 2) rfl (.cons (k := 3) rfl (.cons (k := 6) rfl (.cons (k := 7) rfl .nil)))) ?_
  refine V_seq (V_region rfl ?_)
  refine L_go rfl (X_rd (r_loadA (vs := [_, _, _]) ag64 sz64 rfl rfl (by repeat first | exact mH | apply mT | apply List.mem_append_right) rfl) ?_)
  refine L_go rfl (X_wr (w_slice (r := [_, _, _]) un60 sz64 zr64 rfl (by decide) rfl (by decide) rfl rfl) ?_)
  rintro _ _ ⟨b5, hb5, rfl, rfl⟩
  refine L_go rfl (X_p (p_assign rfl rfl) ?_)
  refine L_then (.cons (k := 2) rfl (.cons (k := 3) rfl (.cons (k := 6) rfl (.cons (k := 7) rfl (.cons (k := 8) rfl .nil))))) ?_
  refine V_seq ?_
  refine V_seq (V_region rfl ?_)
  refine L_go rfl (X_p (p_assign rfl rfl) ?_)
  refine L_then (.cons (k := 2) rfl (.cons (k := 3) rfl (.cons (k := 6) rfl (.cons (k := 7) rfl (.cons (k := 8) rfl (.cons (k := 9) rfl .nil)))))) ?_
  refine V_block ?_
  refine V_loop1 (γ := Int × (Nat → Int) × (Nat → Int) × Nat × Option Addr × Nat × Heap) (.cons (k := 2) rfl (.cons (k := 3) rfl (.cons (k := 6) rfl (.cons (k := 7) rfl .nil)))) (fun (i, fv, fa, n, sa, sc, G) => [(9, .int .i64 i), (8, .slice sa n sc)]) (fun (i, fv, fa, n, sa, sc, G) => G ++ ((b4, .cells (vec3 fa) 64) :: (b3, .cells (vec3 fv) 64) :: (b2, t.obj tv pv2 25) :: [(b1, .cells (pathV pp (fun k => (p.push k).length) pc (.slice wa p.wrong.length wc)) 56)])) (fun (i, fv, fa, n, sa, sc, G) => 0 ≤ i ∧ i ≤ 601 ∧ RunI t p i.toNat 0 fv fa ∧ SmallP t p i.toNat ∧ n = i.toNat + 1 ∧ Grow 64 3 (.slice sa n sc) n (rowsP t p n).flatten G) (fun (i, fv, fa, n, sa, sc, G) => (601 - i).toNat) ((0, fun _ => 0, fun _ => 0, 1, some ⟨b5, 0, none⟩, 1, [(b5, .cells #[.int .i64 0, .int .i64 0, .int .i64 0] 64)])) (.cons rfl (.cons rfl (.nil _))) (by repeat (first | exact List.nil_sublist _ | exact List.Sublist.refl _ | apply List.Sublist.cons_cons | apply List.Sublist.cons)) (⟨by omega, by omega, RunI.zero, SmallP.zero, rfl, .row (by decide) (by decide) rfl rfl rfl⟩) ?_
  rintro ⟨i, fv, fa, n, sa, sc, G⟩ hi
  obtain ⟨hi0, hi1, hI, hsm, hn, hgr⟩ := hi
  refine V_seq ?_
  refine V_seq (V_region rfl ?_)
  refine L_go rfl (X_p (p_move rfl rfl) ?_)
  refine L_go rfl (X_p (p_leq rfl rfl rfl) ?_)
  refine L_then (.cons (k := 2) rfl (.cons (k := 3) rfl (.cons (k := 6) rfl (.cons (k := 7) rfl (.cons (k := 8) rfl (.cons (k := 9) rfl (.cons (k := 15) rfl .nil))))))) ?_
  refine V_cond rfl ?_ ?_
  · intro c1; have c1r := c1; try simp only [td] at c1
    refine V_skip (then_n ?_)
    refine V_seq ?_
    refine V_block ?_
    refine V_seq ?_
    refine V_seq (V_region rfl ?_)
    refine L_go rfl (X_p (p_assign rfl rfl) ?_)
    refine L_then (.cons (k := 2) rfl (.cons (k := 3) rfl (.cons (k := 6) rfl (.cons (k := 7) rfl (.cons (k := 8) rfl (.cons (k := 9) rfl (.cons (k := 10) rfl .nil))))))) ?_
    refine V_block ?_
    refine V_loop1 (γ := Int × (Nat → Int) × (Nat → Int)) (.cons (k := 2) rfl (.cons (k := 3) rfl (.cons (k := 6) rfl (.cons (k := 7) rfl (.cons (k := 8) rfl (.cons (k := 9) rfl .nil)))))) (fun (k, gv, ga) => [(10, .int .i64 k)]) (fun (k, gv, ga) => G ++ ((b4, .cells (vec3 ga) 64) :: (b3, .cells (vec3 gv) 64) :: (b2, t.obj tv pv2 25) :: [(b1, .cells (pathV pp (fun k => (p.push k).length) pc (.slice wa p.wrong.length wc)) 56)])) (fun (k, gv, ga) => 0 ≤ k ∧ k ≤ 3 ∧ RunI t p i.toNat k.toNat gv ga) (fun (k, gv, ga) => (3 - k).toNat) ((0, fv, fa)) (.cons rfl (.nil _)) (by repeat (first | exact List.nil_sublist _ | exact List.Sublist.refl _ | apply List.Sublist.cons_cons | apply List.Sublist.cons)) (⟨by omega, by omega, hI⟩) ?_
    rintro ⟨k, gv, ga⟩ hi
    obtain ⟨hk0, hk1, hI2⟩ := hi
    refine V_seq ?_
    refine V_seq (V_region rfl ?_)
    refine L_go rfl (X_p (p_move rfl rfl) ?_)
    refine L_go rfl (X_p (p_lss rfl rfl rfl) ?_)
    refine L_then (.cons (k := 2) rfl (.cons (k := 3) rfl (.cons (k := 6) rfl (.cons (k := 7) rfl (.cons (k := 8) rfl (.cons (k := 9) rfl (.cons (k := 10) rfl (.cons (k := 19) rfl .nil)))))))) ?_
    refine V_cond rfl ?_ ?_
    · intro c2; have c2r := c2; try simp only [td] at c2
      have hbv := hI2.bv ⟨by omega, by omega⟩ (j := k.toNat) (by omega)
      have hba := hI2.b k.toNat (by omega)
      refine V_skip (then_n ?_)
      refine V_seq ?_
      refine V_block ?_
      refine V_seq (V_region rfl ?_)
      refine L_go rfl (X_p (p_assign rfl rfl) ?_)
      refine L_then (.cons (k := 2) rfl (.cons (k := 3) rfl (.cons (k := 6) rfl (.cons (k := 7) rfl (.cons (k := 8) rfl (.cons (k := 9) rfl (.cons (k := 10) rfl (.cons (k := 11) rfl .nil)))))))) ?_
      refine V_seq ?_
      refine V_seq (V_region rfl ?_)
      refine L_go rfl (X_p (p_move rfl rfl) ?_)
      refine L_go rfl (X_p (p_fieldo fo56_0 rfl rfl) ?_)
      refine L_go rfl (X_p (p_idxao ar54 rfl rfl rfl (by omega) (by omega)) ?_)
      refine L_go rfl (X_rd (r_load ag53 rfl rfl (by repeat first | exact mH | apply mT | apply List.mem_append_right) (sl_at (by omega) (by omega))) ?_)
      refine L_go rfl (X_p (p_len isl53 rfl rfl) ?_)
      refine L_go rfl (X_p (p_gtr rfl rfl rfl) ?_)
      refine L_then (.cons (k := 2) rfl (.cons (k := 3) rfl (.cons (k := 6) rfl (.cons (k := 7) rfl (.cons (k := 8) rfl (.cons (k := 9) rfl (.cons (k := 10) rfl (.cons (k := 11) rfl (.cons (k := 27) rfl .nil))))))))) ?_
      refine V_cond rfl ?_ ?_
      · intro c3; have c3r := c3; try simp only [td] at c3
        have hn0 : 0 < (p.push k.toNat).length := by omega
        obtain ⟨hm, hme⟩ := tmod_nat (i := i) hi0 hn0
        obtain ⟨xb, hxb, hxc⟩ := (hps k.toNat (by omega)).at (i := (i.tmod ((p.push k.toNat).length : Int)).toNat) (getD_cells (f := fun n => [Value.int .i8 n]) (d := 0) (by rw [hme]; exact Nat.mod_lt _ hn0))
        have h8 := (hpr.ok.push k.toNat).getD (i.tmod ((p.push k.toNat).length : Int)).toNat
        refine V_draw (.rd 0 (.rd 1 (.rd 2 (.rd 3 (.rd 4 (.rd 5 (.rd 6 (.rd 7 (.rd 8 (.rd 9 (.rd 10 (.rd 11 (.rd 12 (.rd 13 (.rd 14 (.rd 15 (.rd 16 (.rd 17 (.rd 18 (.rd 19 .done)))))))))))))))))))) mixed (by kernel_rfl) rfl ?_
        refine D_p rfl (.plain rfl) (p_fieldo fo25_2 rfl rfl) ?_
        refine D_rd rfl (.plain rfl) (r_load ag3 rfl rfl (by repeat first | exact mH | apply mT | apply List.mem_append_right) rfl) ?_
        refine D_p rfl (.plain rfl) (p_move rfl rfl) ?_
        refine D_p rfl (.plain rfl) (p_fieldo fo56_0 rfl rfl) ?_
        refine D_p rfl (.plain rfl) (p_idxao ar54 rfl rfl rfl (by omega) (by omega)) ?_
        refine D_rd rfl (.plain rfl) (r_load ag53 rfl rfl (by repeat first | exact mH | apply mT | apply List.mem_append_right) (sl_at (by omega) (by omega))) ?_
        refine D_p rfl (.plain rfl) (p_move rfl rfl) ?_
        refine D_p rfl (.plain rfl) (p_move rfl rfl) ?_
        refine D_p rfl (.plain rfl) (p_fieldo fo56_0 rfl rfl) ?_
        refine D_p rfl (.plain rfl) (p_idxao ar54 rfl rfl rfl (by omega) (by omega)) ?_
        refine D_rd rfl (.plain rfl) (r_load ag53 rfl rfl (by repeat first | exact mH | apply mT | apply List.mem_append_right) (sl_at (by omega) (by omega))) ?_
        refine D_p rfl (.plain rfl) (p_len isl53 rfl rfl) ?_
        refine D_p rfl (.plain rfl) (p_rem rfl rfl rfl (by first | decide | omega)) ?_
        refine D_p rfl (.plain rfl) (p_idxe es53 hxb rfl rfl rfl (by omega) (by omega)) ?_
        refine D_rd rfl (.plain rfl) (r_loadB ag117 rfl rfl (hxc.zero) List.not_mem_nil) ?_
        refine D_p rfl (.plain rfl) (p_convI un117 un3 rfl rfl (by unfold InI; omega)) ?_
        refine D_p rfl (.plain rfl) (p_max rfl rfl rfl) ?_
        refine D_p rfl (.plain rfl) (p_mul' rfl rfl rfl ((mul127 (A := 1000000) (a := t.accel) ⟨by omega, by omega⟩ (by decide) h8.2).1)) ?_
        refine D_p rfl (.plain rfl) (p_quo' rfl rfl rfl (by first | decide | omega) ((mul127 (A := 1000000) (a := t.accel) ⟨by omega, by omega⟩ (by decide) h8.2).2.1)) ?_
        have hq := (mul127 (A := 1000000) (a := t.accel) ⟨by omega, by omega⟩ (by decide) h8.2).2.2
        refine D_p rfl (.plain rfl) (p_assign rfl rfl) ?_
        refine D_then (.cons (k := 2) rfl (.cons (k := 3) rfl (.cons (k := 6) rfl (.cons (k := 7) rfl (.cons (k := 8) rfl (.cons (k := 9) rfl (.cons (k := 10) rfl (.cons (k := 11) rfl .nil)))))))) ?_
        refine V_seq (V_draw (.rd 0 (.rd 1 (.rd 2 (.rd 3 (.rd 4 (.rd 5 (.rd 6 (.rd 7 (.rd 8 (.rd 9 (.rd 10 (.rd 11 (.rd 12 (.rd 13 (.wr 14 [] .done))))))))))))))) mixed (by kernel_rfl) rfl ?_)
        refine D_p rfl (.plain rfl) (p_move rfl rfl) ?_
        refine D_p rfl (.plain rfl) (p_fieldo fo25_1 rfl rfl) ?_
        refine D_rd rfl (.plain rfl) (r_load ag3 rfl rfl (by repeat first | exact mH | apply mT | apply List.mem_append_right) rfl) ?_
        first | refine D_p rfl (.plain rfl) (p_neg' rfl rfl (by unfold InI; omega)) ?_ | refine D_p rfl (.plain rfl) (p_neg rfl rfl) ?_
        refine D_p rfl (.plain rfl) (p_fieldo fo25_1 rfl rfl) ?_
        refine D_rd rfl (.plain rfl) (r_load ag3 rfl rfl (by repeat first | exact mH | apply mT | apply List.mem_append_right) rfl) ?_
        refine D_p rfl (.plain rfl) (p_move rfl rfl) ?_
        refine D_p rfl (.plain rfl) (p_idxao ar64 rfl rfl rfl (by omega) (by omega)) ?_
        refine D_rd rfl (.plain rfl) (r_load ag3 rfl rfl (by repeat first | exact mH | apply mT | apply List.mem_append_right) (vec_at (by omega) (by omega))) ?_
        refine D_p rfl (.plain rfl) (p_move rfl rfl) ?_
        first | refine D_p rfl (.plain rfl) (p_add' rfl rfl rfl (by unfold InI; omega)) ?_ | refine D_p rfl (.plain rfl) (p_add rfl rfl rfl) ?_
        refine D_p rfl (.plain rfl) (p_min rfl rfl rfl) ?_
        refine D_p rfl (.plain rfl) (p_max rfl rfl rfl) ?_
        refine D_p rfl (.plain rfl) (p_idxao ar64 rfl rfl rfl (by omega) (by omega)) ?_
        refine D_wr (.go (E' := []) rfl (.plain rfl) (w_store (cs' := (vec3 (upd gv k.toNat _)).toList) sz3 rfl rfl rfl rfl rfl (by repeat first | exact .head | apply SetAt.tail | apply SetAt.app) (by show 0 + _ * 1 + 1 ≤ 3; omega) (vec_set (by omega) (by omega))) rfl ?_)
        rintro _ _ ⟨rfl, rfl⟩
        refine ⟨.nil, ?_⟩
        refine D_then (.cons (k := 2) rfl (.cons (k := 3) rfl (.cons (k := 6) rfl (.cons (k := 7) rfl (.cons (k := 8) rfl (.cons (k := 9) rfl (.cons (k := 10) rfl .nil))))))) ?_
        refine V_seq (V_draw (.rd 0 (.rd 1 (.rd 2 (.rd 3 (.rd 4 (.rd 5 (.rd 6 (.rd 7 (.rd 8 (.wr 9 [] .done)))))))))) mixed (by kernel_rfl) rfl ?_)
        refine D_p rfl (.plain rfl) (p_move rfl rfl) ?_
        refine D_p rfl (.plain rfl) (p_move rfl rfl) ?_
        refine D_p rfl (.plain rfl) (p_idxao ar64 rfl rfl rfl (by omega) (by omega)) ?_
        refine D_rd rfl (.plain rfl) (r_load ag3 rfl rfl (by repeat first | exact mH | apply mT | apply List.mem_append_right) (vec_at (by omega) (by omega))) ?_
        refine D_p rfl (.plain rfl) (p_move rfl rfl) ?_
        refine D_p rfl (.plain rfl) (p_idxao ar64 rfl rfl rfl (by omega) (by omega)) ?_
        refine D_rd rfl (.plain rfl) (r_load ag3 rfl rfl (by repeat first | exact mH | apply mT | apply List.mem_append_right) (upd_at (by omega) (by omega))) ?_
        first | refine D_p rfl (.plain rfl) (p_add' rfl rfl rfl (by unfold InI; omega)) ?_ | refine D_p rfl (.plain rfl) (p_add rfl rfl rfl) ?_
        refine D_p rfl (.plain rfl) (p_idxao ar64 rfl rfl rfl (by omega) (by omega)) ?_
        refine D_wr (.go (E' := []) rfl (.plain rfl) (w_store (cs' := (vec3 (upd ga k.toNat _)).toList) sz3 rfl rfl rfl rfl rfl (by repeat first | exact .head | apply SetAt.tail | apply SetAt.app) (by show 0 + _ * 1 + 1 ≤ 3; omega) (vec_set (by omega) (by omega))) rfl ?_)
        rintro _ _ ⟨rfl, rfl⟩
        refine ⟨.nil, ?_⟩
        refine D_then (.cons (k := 2) rfl (.cons (k := 3) rfl (.cons (k := 6) rfl (.cons (k := 7) rfl (.cons (k := 8) rfl (.cons (k := 9) rfl (.cons (k := 10) rfl .nil))))))) ?_
        refine V_seq (V_region rfl ?_)
        refine L_go rfl (X_p (p_move rfl rfl) ?_)
        refine L_go rfl (X_p (p_idxao ar64 rfl rfl rfl (by omega) (by omega)) ?_)
        refine L_go rfl (X_rd (r_load ag3 rfl rfl (by repeat first | exact mH | apply mT | apply List.mem_append_right) (upd_at (by omega) (by omega))) ?_)
        refine L_go rfl (X_p (p_gtr rfl rfl rfl) ?_)
        refine L_go rfl (X_p (p_move rfl rfl) ?_)
        refine L_cases (d := 74) rfl ?_ ?_
        · intro g1; have g1' := g1; try simp only [td] at g1'
          refine L_no rfl rfl rfl g1 ?_
          refine L_no rfl rfl rfl g1 ?_
          refine L_no rfl rfl rfl g1 ?_
          refine L_no rfl rfl rfl g1 ?_
          refine L_go rfl (X_p (p_pick_t rfl rfl g1 rfl) ?_)
          refine L_then (.cons (k := 2) rfl (.cons (k := 3) rfl (.cons (k := 6) rfl (.cons (k := 7) rfl (.cons (k := 8) rfl (.cons (k := 9) rfl (.cons (k := 10) rfl (.cons (k := 79) rfl .nil)))))))) ?_
          refine V_cond_t rfl rfl ?_
          refine V_seq (V_region rfl ?_)
          refine L_go rfl (X_p (p_assign rfl rfl) ?_)
          refine L_go rfl (X_p (p_assign rfl rfl) ?_)
          refine L_then (.cons (k := 4) rfl (.cons (k := 5) rfl .nil)) ?_
          refine V_ret (blk_r (then_r (then_r (blk_r (then_r (blk_r (then_r (then_r (blk_r (then_r ?_))))))))))
          refine Leave.nil (.tmp rfl (.tmp rfl .nil)) ?_
          exact ⟨[], HSub.nil _, [], [], rfl, false, none, 0, 0, [], rfl, rfl, .nil, fun h => by cases h⟩
        · intro g1; have g1' := g1; try simp only [td] at g1'
          refine L_yes rfl rfl rfl g1 (X_p (p_move rfl rfl) ?_)
          refine L_yes rfl rfl rfl g1 (X_p (p_idxao ar64 rfl rfl rfl (by omega) (by omega)) ?_)
          refine L_yes rfl rfl rfl g1 (X_rd (r_load ag3 rfl rfl (by repeat first | exact mH | apply mT | apply List.mem_append_right) (upd_at (by omega) (by omega))) ?_)
          refine L_yes rfl rfl rfl g1 (X_p (p_lss rfl rfl rfl) ?_)
          refine L_go rfl (X_p (p_pick_f rfl rfl g1 rfl) ?_)
          refine L_then (.cons (k := 2) rfl (.cons (k := 3) rfl (.cons (k := 6) rfl (.cons (k := 7) rfl (.cons (k := 8) rfl (.cons (k := 9) rfl (.cons (k := 10) rfl (.cons (k := 79) rfl .nil)))))))) ?_
          refine V_cond rfl ?_ ?_
          · intro c4; have c4r := c4; try simp only [td] at c4
            refine V_seq (V_region rfl ?_)
            refine L_go rfl (X_p (p_assign rfl rfl) ?_)
            refine L_go rfl (X_p (p_assign rfl rfl) ?_)
            refine L_then (.cons (k := 4) rfl (.cons (k := 5) rfl .nil)) ?_
            refine V_ret (blk_r (then_r (then_r (blk_r (then_r (blk_r (then_r (then_r (blk_r (then_r ?_))))))))))
            refine Leave.nil (.tmp rfl (.tmp rfl .nil)) ?_
            exact ⟨[], HSub.nil _, [], [], rfl, false, none, 0, 0, [], rfl, rfl, .nil, fun h => by cases h⟩
          · intro c4; have c4r := c4; try simp only [td] at c4
            refine V_skip (blk_n (then_n ?_))
            refine V_region rfl ?_
            refine L_go rfl (X_p (p_move rfl rfl) ?_)
            first | refine L_go rfl (X_p (p_add' rfl rfl rfl (by unfold InI; omega)) ?_) | refine L_go rfl (X_p (p_add rfl rfl rfl) ?_)
            refine L_go rfl (X_p (p_assign rfl rfl) ?_)
            refine L_keep (.cons (k := 2) rfl (.cons (k := 3) rfl (.cons (k := 6) rfl (.cons (k := 7) rfl (.cons (k := 8) rfl (.cons (k := 9) rfl (.cons (k := 10) rfl .nil))))))) (then_n ?_)
            refine ⟨(k + 1, upd gv k.toNat _, upd ga k.toNat _), ?_, ?_, (.cons rfl (.cons rfl (.cons rfl (.cons rfl (.cons rfl (.cons rfl (.cons rfl (.nil _)))))))), (by repeat (first | exact List.nil_sublist _ | exact List.Sublist.refl _ | apply List.Sublist.cons_cons | apply List.Sublist.cons | apply List.sublist_append_of_sublist_right)), rfl⟩
            · have e : (k + 1).toNat = k.toNat + 1 := by omega
              refine ⟨by omega, by omega, ?_⟩
              rw [e]
              exact hI2.step (by omega) (by rw [accT_yes hn0 hme]) rfl (by omega)
            · dsimp only; omega
      · intro c3; have c3r := c3; try simp only [td] at c3
        refine V_skip (then_n ?_)
        refine V_seq (V_draw (.rd 0 (.rd 1 (.rd 2 (.rd 3 (.rd 4 (.rd 5 (.rd 6 (.rd 7 (.rd 8 (.rd 9 (.rd 10 (.rd 11 (.rd 12 (.rd 13 (.wr 14 [] .done))))))))))))))) mixed (by kernel_rfl) rfl ?_)
        refine D_p rfl (.plain rfl) (p_move rfl rfl) ?_
        refine D_p rfl (.plain rfl) (p_fieldo fo25_1 rfl rfl) ?_
        refine D_rd rfl (.plain rfl) (r_load ag3 rfl rfl (by repeat first | exact mH | apply mT | apply List.mem_append_right) rfl) ?_
        first | refine D_p rfl (.plain rfl) (p_neg' rfl rfl (by unfold InI; omega)) ?_ | refine D_p rfl (.plain rfl) (p_neg rfl rfl) ?_
        refine D_p rfl (.plain rfl) (p_fieldo fo25_1 rfl rfl) ?_
        refine D_rd rfl (.plain rfl) (r_load ag3 rfl rfl (by repeat first | exact mH | apply mT | apply List.mem_append_right) rfl) ?_
        refine D_p rfl (.plain rfl) (p_move rfl rfl) ?_
        refine D_p rfl (.plain rfl) (p_idxao ar64 rfl rfl rfl (by omega) (by omega)) ?_
        refine D_rd rfl (.plain rfl) (r_load ag3 rfl rfl (by repeat first | exact mH | apply mT | apply List.mem_append_right) (vec_at (by omega) (by omega))) ?_
        refine D_p rfl (.plain rfl) (p_move rfl rfl) ?_
        first | refine D_p rfl (.plain rfl) (p_add' rfl rfl rfl (by unfold InI; omega)) ?_ | refine D_p rfl (.plain rfl) (p_add rfl rfl rfl) ?_
        refine D_p rfl (.plain rfl) (p_min rfl rfl rfl) ?_
        refine D_p rfl (.plain rfl) (p_max rfl rfl rfl) ?_
        refine D_p rfl (.plain rfl) (p_idxao ar64 rfl rfl rfl (by omega) (by omega)) ?_
        refine D_wr (.go (E' := []) rfl (.plain rfl) (w_store (cs' := (vec3 (upd gv k.toNat _)).toList) sz3 rfl rfl rfl rfl rfl (by repeat first | exact .head | apply SetAt.tail | apply SetAt.app) (by show 0 + _ * 1 + 1 ≤ 3; omega) (vec_set (by omega) (by omega))) rfl ?_)
        rintro _ _ ⟨rfl, rfl⟩
        refine ⟨.nil, ?_⟩
        refine D_then (.cons (k := 2) rfl (.cons (k := 3) rfl (.cons (k := 6) rfl (.cons (k := 7) rfl (.cons (k := 8) rfl (.cons (k := 9) rfl (.cons (k := 10) rfl .nil))))))) ?_
        refine V_seq (V_draw (.rd 0 (.rd 1 (.rd 2 (.rd 3 (.rd 4 (.rd 5 (.rd 6 (.rd 7 (.rd 8 (.wr 9 [] .done)))))))))) mixed (by kernel_rfl) rfl ?_)
        refine D_p rfl (.plain rfl) (p_move rfl rfl) ?_
        refine D_p rfl (.plain rfl) (p_move rfl rfl) ?_
        refine D_p rfl (.plain rfl) (p_idxao ar64 rfl rfl rfl (by omega) (by omega)) ?_
        refine D_rd rfl (.plain rfl) (r_load ag3 rfl rfl (by repeat first | exact mH | apply mT | apply List.mem_append_right) (vec_at (by omega) (by omega))) ?_
        refine D_p rfl (.plain rfl) (p_move rfl rfl) ?_
        refine D_p rfl (.plain rfl) (p_idxao ar64 rfl rfl rfl (by omega) (by omega)) ?_
        refine D_rd rfl (.plain rfl) (r_load ag3 rfl rfl (by repeat first | exact mH | apply mT | apply List.mem_append_right) (upd_at (by omega) (by omega))) ?_
        first | refine D_p rfl (.plain rfl) (p_add' rfl rfl rfl (by unfold InI; omega)) ?_ | refine D_p rfl (.plain rfl) (p_add rfl rfl rfl) ?_
        refine D_p rfl (.plain rfl) (p_idxao ar64 rfl rfl rfl (by omega) (by omega)) ?_
        refine D_wr (.go (E' := []) rfl (.plain rfl) (w_store (cs' := (vec3 (upd ga k.toNat _)).toList) sz3 rfl rfl rfl rfl rfl (by repeat first | exact .head | apply SetAt.tail | apply SetAt.app) (by show 0 + _ * 1 + 1 ≤ 3; omega) (vec_set (by omega) (by omega))) rfl ?_)
        rintro _ _ ⟨rfl, rfl⟩
        refine ⟨.nil, ?_⟩
        refine D_then (.cons (k := 2) rfl (.cons (k := 3) rfl (.cons (k := 6) rfl (.cons (k := 7) rfl (.cons (k := 8) rfl (.cons (k := 9) rfl (.cons (k := 10) rfl .nil))))))) ?_
        refine V_seq (V_region rfl ?_)
        refine L_go rfl (X_p (p_move rfl rfl) ?_)
        refine L_go rfl (X_p (p_idxao ar64 rfl rfl rfl (by omega) (by omega)) ?_)
        refine L_go rfl (X_rd (r_load ag3 rfl rfl (by repeat first | exact mH | apply mT | apply List.mem_append_right) (upd_at (by omega) (by omega))) ?_)
        refine L_go rfl (X_p (p_gtr rfl rfl rfl) ?_)
        refine L_go rfl (X_p (p_move rfl rfl) ?_)
        refine L_cases (d := 74) rfl ?_ ?_
        · intro g2; have g2' := g2; try simp only [td] at g2'
          refine L_no rfl rfl rfl g2 ?_
          refine L_no rfl rfl rfl g2 ?_
          refine L_no rfl rfl rfl g2 ?_
          refine L_no rfl rfl rfl g2 ?_
          refine L_go rfl (X_p (p_pick_t rfl rfl g2 rfl) ?_)
          refine L_then (.cons (k := 2) rfl (.cons (k := 3) rfl (.cons (k := 6) rfl (.cons (k := 7) rfl (.cons (k := 8) rfl (.cons (k := 9) rfl (.cons (k := 10) rfl (.cons (k := 79) rfl .nil)))))))) ?_
          refine V_cond_t rfl rfl ?_
          refine V_seq (V_region rfl ?_)
          refine L_go rfl (X_p (p_assign rfl rfl) ?_)
          refine L_go rfl (X_p (p_assign rfl rfl) ?_)
          refine L_then (.cons (k := 4) rfl (.cons (k := 5) rfl .nil)) ?_
          refine V_ret (blk_r (then_r (then_r (blk_r (then_r (blk_r (then_r (then_r (blk_r (then_r ?_))))))))))
          refine Leave.nil (.tmp rfl (.tmp rfl .nil)) ?_
          exact ⟨[], HSub.nil _, [], [], rfl, false, none, 0, 0, [], rfl, rfl, .nil, fun h => by cases h⟩
        · intro g2; have g2' := g2; try simp only [td] at g2'
          refine L_yes rfl rfl rfl g2 (X_p (p_move rfl rfl) ?_)
          refine L_yes rfl rfl rfl g2 (X_p (p_idxao ar64 rfl rfl rfl (by omega) (by omega)) ?_)
          refine L_yes rfl rfl rfl g2 (X_rd (r_load ag3 rfl rfl (by repeat first | exact mH | apply mT | apply List.mem_append_right) (upd_at (by omega) (by omega))) ?_)
          refine L_yes rfl rfl rfl g2 (X_p (p_lss rfl rfl rfl) ?_)
          refine L_go rfl (X_p (p_pick_f rfl rfl g2 rfl) ?_)
          refine L_then (.cons (k := 2) rfl (.cons (k := 3) rfl (.cons (k := 6) rfl (.cons (k := 7) rfl (.cons (k := 8) rfl (.cons (k := 9) rfl (.cons (k := 10) rfl (.cons (k := 79) rfl .nil)))))))) ?_
          refine V_cond rfl ?_ ?_
          · intro c5; have c5r := c5; try simp only [td] at c5
            refine V_seq (V_region rfl ?_)
            refine L_go rfl (X_p (p_assign rfl rfl) ?_)
            refine L_go rfl (X_p (p_assign rfl rfl) ?_)
            refine L_then (.cons (k := 4) rfl (.cons (k := 5) rfl .nil)) ?_
            refine V_ret (blk_r (then_r (then_r (blk_r (then_r (blk_r (then_r (then_r (blk_r (then_r ?_))))))))))
            refine Leave.nil (.tmp rfl (.tmp rfl .nil)) ?_
            exact ⟨[], HSub.nil _, [], [], rfl, false, none, 0, 0, [], rfl, rfl, .nil, fun h => by cases h⟩
          · intro c5; have c5r := c5; try simp only [td] at c5
            refine V_skip (blk_n (then_n ?_))
            refine V_region rfl ?_
            refine L_go rfl (X_p (p_move rfl rfl) ?_)
            first | refine L_go rfl (X_p (p_add' rfl rfl rfl (by unfold InI; omega)) ?_) | refine L_go rfl (X_p (p_add rfl rfl rfl) ?_)
            refine L_go rfl (X_p (p_assign rfl rfl) ?_)
            refine L_keep (.cons (k := 2) rfl (.cons (k := 3) rfl (.cons (k := 6) rfl (.cons (k := 7) rfl (.cons (k := 8) rfl (.cons (k := 9) rfl (.cons (k := 10) rfl .nil))))))) (then_n ?_)
            refine ⟨(k + 1, upd gv k.toNat _, upd ga k.toNat _), ?_, ?_, (.cons rfl (.cons rfl (.cons rfl (.cons rfl (.cons rfl (.cons rfl (.cons rfl (.nil _)))))))), (by repeat (first | exact List.nil_sublist _ | exact List.Sublist.refl _ | apply List.Sublist.cons_cons | apply List.Sublist.cons | apply List.sublist_append_of_sublist_right)), rfl⟩
            · have e : (k + 1).toNat = k.toNat + 1 := by omega
              refine ⟨by omega, by omega, ?_⟩
              rw [e]
              exact hI2.step (by omega) (by rw [← accT_no (by omega)]) rfl (by omega)
            · dsimp only; omega
    · intro c2; have c2r := c2; try simp only [td] at c2
      refine V_exit (then_e (then_e (blk_e rfl (then_n ?_))))
      refine V_region rfl ?_
      refine L_go rfl (X_p (p_move rfl rfl) ?_)
      refine L_go rfl (X_rd (r_loadA (vs := [_, _, _]) ag64 sz64 rfl rfl (by repeat first | exact mH | apply mT | apply List.mem_append_right) rfl) ?_)
      refine L_go rfl (X_wr (w_slice (r := [_, _, _]) un60 sz64 zr64 rfl (by decide) rfl (by decide) rfl rfl) ?_)
      rintro _ _ ⟨b6, hb6, rfl, rfl⟩
      refine L_go rfl (X_wr (w_app (pre := [_]) (G := G) ap60 rfl rfl rfl hgr rfl rfl (news_own (by repeat first | exact mH | apply mT | apply List.mem_append_right)) (by intro u hu; simp only [List.mem_cons, List.not_mem_nil, or_false] at hu; rcases hu with rfl | rfl | rfl <;> rfl) (by omega) (by simp only [maxLen]; omega)) ?_)
      rintro _ _ ⟨G1a, G1c, G1, rfl, rfl, hgr1⟩
      try simp only [List.cons_append, List.nil_append, List.append_nil]
      refine L_go rfl (X_p (p_assign rfl rfl) ?_)
      refine L_keep (.cons (k := 2) rfl (.cons (k := 3) rfl (.cons (k := 6) rfl (.cons (k := 7) rfl (.cons (k := 8) rfl (.cons (k := 9) rfl .nil)))))) (blk_n (then_n ?_))
      refine V_region rfl ?_
      refine L_go rfl (X_p (p_move rfl rfl) ?_)
      first | refine L_go rfl (X_p (p_add' rfl rfl rfl (by unfold InI; omega)) ?_) | refine L_go rfl (X_p (p_add rfl rfl rfl) ?_)
      refine L_go rfl (X_p (p_assign rfl rfl) ?_)
      refine L_keep (.cons (k := 2) rfl (.cons (k := 3) rfl (.cons (k := 6) rfl (.cons (k := 7) rfl (.cons (k := 8) rfl (.cons (k := 9) rfl .nil)))))) (then_n ?_)
      refine ⟨(i + 1, gv, ga, n + 1, _, _, G1), ?_, ?_, (.cons rfl (.cons rfl (.cons rfl (.cons rfl (.cons rfl (.cons rfl (.nil _))))))), (by repeat (first | exact List.nil_sublist _ | exact List.Sublist.refl _ | apply List.Sublist.cons_cons | apply List.Sublist.cons | apply List.sublist_append_of_sublist_right)), rfl⟩
      · have e3 : k.toNat = 3 := by omega
        rw [e3] at hI2
        have hN := hI2.next
        have e : (i + 1).toNat = i.toNat + 1 := by omega
        subst hn
        refine ⟨by omega, by omega, by rw [e]; exact hN, by rw [e]; exact hsm.next hN, by dsimp only; omega, ?_⟩
        rw [rowsP_succ hN]; exact hgr1
      · dsimp only; omega
  · intro c1; have c1r := c1; try simp only [td] at c1
    refine V_exit (then_e (then_e (blk_e rfl (then_n ?_))))
    refine V_seq (V_region rfl ?_)
    refine L_go rfl (X_p (p_move rfl rfl) ?_)
    refine L_go rfl (X_p (p_assign rfl rfl) ?_)
    refine L_go rfl (X_p (p_assign rfl rfl) ?_)
    refine L_then (.cons (k := 4) rfl (.cons (k := 5) rfl .nil)) ?_
    refine V_ret ?_
    refine Leave.nil (.tmp rfl (.tmp rfl .nil)) ?_
    have ei : i = 601 := by omega
    subst ei
    exact ⟨G, HSub.left _ _, [], G, rfl, true, sa, n, sc, _, rfl, rfl, hgr, fun _ => ⟨hn, by rw [hn]; rfl, hsm⟩⟩
set_option maxHeartbeats 16000000 in
theorem follow_c (p : PathM) (pv : Value) (w : World) (hpr : PathR w pv p) (t : Task) (tv pv2 : Value) (ht : TaskR w (.agg #[.int .i64 t.frm, .int .i64 t.speed, .int .i64 t.accel, tv, pv2]) t) (but : Int) : FnC Try.prog 20 [pv, .agg #[.int .i64 t.frm, .int .i64 t.speed, .int .i64 t.accel, tv, pv2], .int .i64 but] w fun v w' => ∃ Hc, Vc.Good w [] Hc w' ∧ ∃ A G, Hc = A ++ G ∧ FollowOut t p but 114 64 tv v A G := by
  obtain ⟨pp, pc, wa, wc, rfl, hps, hws, hpsl, hpwl⟩ := hpr.ex
  have hT := ht
  obtain ⟨_, _, _, htr, hpl⟩ := ht.lit
  obtain ⟨ta, tc, rfl, htc, hte⟩ := htr.ex
  obtain ⟨pa, pc2, rfl, hpc, hpe⟩ := hpl.ex
  have hlpl := ht.lpl
  simp only [List.length_map] at hT hpl hpc htc ⊢
  refine fn_new Try.func20 rfl (by kernel_rfl) Try.ntmps20 Try.results20 rfl ?_
  refine V_seq (V_region rfl ?_)
  refine L_go rfl (X_wr (w_box rfl rfl) ?_)
  rintro _ _ ⟨b1, hb1, rfl, rfl⟩
  refine L_go rfl (X_wr (w_box rfl rfl) ?_)
  rintro _ _ ⟨b2, hb2, rfl, rfl⟩
  refine L_go rfl (X_wr (w_alloc zr25 rfl) ?_)
  rintro _ _ ⟨b3, hb3, rfl, rfl⟩
  refine L_go rfl (X_p (p_assign rfl rfl) ?_)
  refine L_go rfl (X_p (p_assign rfl rfl) ?_)
  refine L_then (.cons (k := 2) rfl (.cons (k := 3) rfl (.cons (k := 4) rfl (.cons (k := 6) rfl .nil)))) ?_
  refine V_seq (V_region rfl ?_)
  refine L_go rfl (X_rd (r_loadA (vs := [_, _, _, _, _]) ag25 sz25 rfl rfl (by repeat first | exact mH | apply mT | apply List.mem_append_right) rfl) ?_)
  refine L_go rfl (X_wr (w_callP rfl rfl rfl (fun w hg => check_c t _ w (hT.good hg))) ?_)
  rintro _ _ ⟨rfl, rfl⟩
  refine L_go rfl (X_p (p_move rfl rfl) ?_)
  refine L_go rfl (X_p (p_ext rfl rfl rfl) ?_)
  refine L_go rfl (X_p (p_ext rfl rfl rfl) ?_)
  refine L_go rfl (X_p (p_ext rfl rfl rfl) ?_)
  refine L_go rfl (X_p (p_assign rfl rfl) ?_)
  refine L_go rfl (X_p (p_assign rfl rfl) ?_)
  refine L_go rfl (X_p (p_assign rfl rfl) ?_)
  refine L_then (.cons (k := 2) rfl (.cons (k := 3) rfl (.cons (k := 4) rfl (.cons (k := 6) rfl (.cons (k := 11) rfl .nil))))) ?_
  refine V_seq ?_
  refine V_seq (V_region rfl ?_)
  refine L_go rfl (X_p (p_move rfl rfl) ?_)
  refine L_go rfl (X_p (p_neq rfl rfl rfl) ?_)
  refine L_go rfl (X_p (p_move rfl rfl) ?_)
  refine L_cases (d := 29) rfl ?_ ?_
  · intro g1; have g1' := g1; try simp only [td] at g1'
    refine L_no rfl rfl rfl g1 ?_
    refine L_no rfl rfl rfl g1 ?_
    refine L_no rfl rfl rfl g1 ?_
    refine L_go rfl (X_p (p_pick_t rfl rfl g1 rfl) ?_)
    refine L_go rfl (X_p (p_move rfl rfl) ?_)
    refine L_no rfl rfl rfl rfl ?_
    refine L_no rfl rfl rfl rfl ?_
    refine L_no rfl rfl rfl rfl ?_
    refine L_go rfl (X_p (p_pick_t rfl rfl rfl rfl) ?_)
    refine L_go rfl (X_p (p_move rfl rfl) ?_)
    refine L_no rfl rfl rfl rfl ?_
    refine L_no rfl rfl rfl rfl ?_
    refine L_no rfl rfl rfl rfl ?_
    refine L_go rfl (X_p (p_pick_t rfl rfl rfl rfl) ?_)
    refine L_go rfl (X_p (p_move rfl rfl) ?_)
    refine L_no rfl rfl rfl rfl ?_
    refine L_no rfl rfl rfl rfl ?_
    refine L_no rfl rfl rfl rfl ?_
    refine L_go rfl (X_p (p_pick_t rfl rfl rfl rfl) ?_)
    refine L_then (.cons (k := 2) rfl (.cons (k := 3) rfl (.cons (k := 4) rfl (.cons (k := 6) rfl (.cons (k := 48) rfl .nil))))) ?_
    refine V_cond_t rfl rfl ?_
    refine V_seq (V_region rfl ?_)
    refine L_go rfl (X_rd (r_loadA (vs := [_, _, _, _, _]) ag25 sz25 rfl rfl (by repeat first | exact mH | apply mT | apply List.mem_append_right) rfl) ?_)
    refine L_go rfl (X_wr (w_store (cs' := [_, _, _, _, _]) sz25 rfl rfl rfl rfl rfl (by repeat first | exact .head | apply SetAt.tail) (Nat.le_of_ble_eq_true rfl) rfl) ?_)
    rintro _ _ ⟨rfl, rfl⟩
    refine L_go rfl (X_p (p_assign rfl rfl) ?_)
    refine L_go rfl (X_p (p_assign rfl rfl) ?_)
    refine L_then (.cons (k := 6) rfl (.cons (k := 7) rfl (.cons (k := 8) rfl .nil))) ?_
    refine V_ret (then_r ?_)
    refine Leave.nil (.cellA (us := [_, _, _, _, _]) rfl ag25 sz25 (by repeat first | exact mH | apply mT | apply List.mem_append_right) rfl (.tmp rfl (.tmp rfl .nil))) ?_
    exact ⟨[], HSub.nil _, [], [], rfl, false, _, _, _, _, _, _, [], rfl, fun h => by cases h⟩
  · intro g1; have g1' := g1; try simp only [td] at g1'
    have hG := good_of_check g1'
    obtain ⟨hf, hs, ha⟩ := hG.nums
    have hpl60 := hG.h2
    refine L_yes rfl rfl rfl g1 (X_p (p_fieldo fo25_1 rfl rfl) ?_)
    refine L_yes rfl rfl rfl g1 (X_rd (r_load ag3 rfl rfl (by repeat first | exact mH | apply mT | apply List.mem_append_right) rfl) ?_)
    refine L_yes rfl rfl rfl g1 (X_p (p_lss rfl rfl rfl) ?_)
    refine L_go rfl (X_p (p_pick_f rfl rfl g1 rfl) ?_)
    refine L_go rfl (X_p (p_move rfl rfl) ?_)
    refine L_yes rfl rfl rfl (decide_eq_false (by omega)) (X_p (p_fieldo fo25_1 rfl rfl) ?_)
    refine L_yes rfl rfl rfl (decide_eq_false (by omega)) (X_rd (r_load ag3 rfl rfl (by repeat first | exact mH | apply mT | apply List.mem_append_right) rfl) ?_)
    refine L_yes rfl rfl rfl (decide_eq_false (by omega)) (X_p (p_gtr rfl rfl rfl) ?_)
    refine L_go rfl (X_p (p_pick_f rfl rfl (decide_eq_false (by omega)) rfl) ?_)
    refine L_go rfl (X_p (p_move rfl rfl) ?_)
    refine L_yes rfl rfl rfl (decide_eq_false (by omega)) (X_p (p_fieldo fo25_2 rfl rfl) ?_)
    refine L_yes rfl rfl rfl (decide_eq_false (by omega)) (X_rd (r_load ag3 rfl rfl (by repeat first | exact mH | apply mT | apply List.mem_append_right) rfl) ?_)
    refine L_yes rfl rfl rfl (decide_eq_false (by omega)) (X_p (p_lss rfl rfl rfl) ?_)
    refine L_go rfl (X_p (p_pick_f rfl rfl (decide_eq_false (by omega)) rfl) ?_)
    refine L_go rfl (X_p (p_move rfl rfl) ?_)
    refine L_yes rfl rfl rfl (decide_eq_false (by omega)) (X_p (p_fieldo fo25_2 rfl rfl) ?_)
    refine L_yes rfl rfl rfl (decide_eq_false (by omega)) (X_rd (r_load ag3 rfl rfl (by repeat first | exact mH | apply mT | apply List.mem_append_right) rfl) ?_)
    refine L_yes rfl rfl rfl (decide_eq_false (by omega)) (X_p (p_gtr rfl rfl rfl) ?_)
    refine L_go rfl (X_p (p_pick_f rfl rfl (decide_eq_false (by omega)) rfl) ?_)
    refine L_then (.cons (k := 2) rfl (.cons (k := 3) rfl (.cons (k := 4) rfl (.cons (k := 6) rfl (.cons (k := 48) rfl .nil))))) ?_
    refine V_cond_f rfl (decide_eq_false (by omega)) ?_
    refine V_skip (then_n ?_)
    refine V_seq (V_region rfl ?_)
    refine L_go rfl (X_rd (r_loadA (vs := [_, _, _, _]) ag56 sz56 rfl rfl (by repeat first | exact mH | apply mT | apply List.mem_append_right) rfl) ?_)
    refine L_go rfl (X_rd (r_loadA (vs := [_, _, _, _, _]) ag25 sz25 rfl rfl (by repeat first | exact mH | apply mT | apply List.mem_append_right) rfl) ?_)
    refine L_go rfl (X_wr (w_callG (pre := [_, _, _]) rfl rfl rfl rfl (fun w hg => run_c p _ w (hpr.good hg) t hG _ _)) ?_)
    rintro _ _ ⟨_, G1, rfl, hfr1, ok1, ra, rn, rc, rxs, rfl, rfl, hgr1, hok1⟩
    try simp only [List.cons_append, List.nil_append, List.append_nil]
    refine L_go rfl (X_p (p_move rfl rfl) ?_)
    refine L_go rfl (X_p (p_ext rfl rfl rfl) ?_)
    refine L_go rfl (X_p (p_ext rfl rfl rfl) ?_)
    refine L_go rfl (X_p (p_assign rfl rfl) ?_)
    refine L_go rfl (X_p (p_assign rfl rfl) ?_)
    refine L_then (.cons (k := 2) rfl (.cons (k := 3) rfl (.cons (k := 4) rfl (.cons (k := 6) rfl (.cons (k := 12) rfl (.cons (k := 13) rfl .nil)))))) ?_
    refine V_seq ?_
    refine V_seq (V_region rfl ?_)
    refine L_go rfl (X_p (p_move rfl rfl) ?_)
    refine L_go rfl (X_p (p_not rfl rfl) ?_)
    refine L_then (.cons (k := 2) rfl (.cons (k := 3) rfl (.cons (k := 4) rfl (.cons (k := 6) rfl (.cons (k := 12) rfl (.cons (k := 57) rfl .nil)))))) ?_
    refine V_cond rfl ?_ ?_
    · intro c1; have c1r := c1; try simp only [td] at c1
      refine V_seq (V_region rfl ?_)
      refine L_go rfl (X_rd (r_loadA (vs := [_, _, _, _, _]) ag25 sz25 rfl rfl (by repeat first | exact mH | apply mT | apply List.mem_append_right) rfl) ?_)
      refine L_go rfl (X_wr (w_store (cs' := [_, _, _, _, _]) sz25 rfl rfl rfl rfl rfl (by repeat first | exact .head | apply SetAt.tail) (Nat.le_of_ble_eq_true rfl) rfl) ?_)
      rintro _ _ ⟨rfl, rfl⟩
      refine L_go rfl (X_p (p_assign rfl rfl) ?_)
      refine L_go rfl (X_p (p_assign rfl rfl) ?_)
      refine L_then (.cons (k := 6) rfl (.cons (k := 7) rfl (.cons (k := 8) rfl .nil))) ?_
      refine V_ret (then_r ?_)
      refine Leave.nil (.cellA (us := [_, _, _, _, _]) rfl ag25 sz25 (by repeat first | exact mH | apply mT | apply List.mem_append_right) rfl (.tmp rfl (.tmp rfl .nil))) ?_
      exact ⟨[], HSub.nil _, [], [], rfl, false, _, _, _, _, _, _, [], rfl, fun h => by cases h⟩
    · intro c1; have c1r := c1; try simp only [td] at c1
      have hk1 : ok1 = true := by revert c1r; cases ok1 <;> simp
      obtain ⟨rfl, rfl, hsm⟩ := hok1 hk1
      refine V_skip (then_n ?_)
      refine V_seq (V_region rfl ?_)
      refine L_go rfl (X_wr (w_slice (r := []) un23 sz114 zr114 rfl (by decide) rfl (by decide) rfl rfl) ?_)
      rintro _ _ ⟨b5, hb5, rfl, rfl⟩
      refine L_go rfl (X_p (p_fieldo fo25_4 rfl rfl) ?_)
      refine L_go rfl (X_rd (r_load ag23 rfl rfl (by repeat first | exact mH | apply mT | apply List.mem_append_right) rfl) ?_)
      refine L_go rfl (X_wr (w_appT (pre := []) (G := [_]) ap23 rfl rfl rfl (Grow.row (cur := #[]) (by decide) (by decide) rfl rfl rfl) rfl (by rw [pl_flat_len]) (news_slice (els := t.plots.map Plot.cells) rfl hpl pl_len (by decide)) pl_one (by omega) (by simp only [maxLen]; omega)) ?_)
      rintro _ _ ⟨GSa, GSc, GS, rfl, rfl, hgs⟩
      try simp only [List.cons_append, List.nil_append, List.append_nil]
      simp only [Nat.zero_add] at hgs ⊢
      refine L_go rfl (X_p (p_fieldo fo25_4 rfl rfl) ?_)
      refine L_go rfl (X_wr (w_store (cs' := [_, _, _, _, _]) sz23 rfl rfl rfl rfl rfl (by repeat first | exact .head | apply SetAt.tail) (Nat.le_of_ble_eq_true rfl) rfl) ?_)
      rintro _ _ ⟨rfl, rfl⟩
      refine L_then (.cons (k := 2) rfl (.cons (k := 3) rfl (.cons (k := 4) rfl (.cons (k := 6) rfl (.cons (k := 12) rfl .nil))))) ?_
      refine V_seq ?_
      refine V_seq (V_region rfl ?_)
      refine L_go rfl (X_p (p_assign rfl rfl) ?_)
      refine L_then (.cons (k := 2) rfl (.cons (k := 3) rfl (.cons (k := 4) rfl (.cons (k := 6) rfl (.cons (k := 12) rfl (.cons (k := 14) rfl .nil)))))) ?_
      refine V_block ?_
      refine V_loop1 (γ := Int × Heap) (.cons (k := 2) rfl (.cons (k := 3) rfl (.cons (k := 4) rfl (.cons (k := 6) rfl (.cons (k := 12) rfl .nil))))) (fun (k, GS) => [(14, .int .i64 k)]) (fun (k, GS) => (b3, .cells #[.int .i64 0, .int .i64 0, .int .i64 0, .slice none 0 0, .slice none 0 0] 25) :: (b2, t.obj (.slice ta t.trackers.length tc) (.slice GSa t.plots.length GSc) 25) :: (b1, .cells (pathV pp (fun k => (p.push k).length) pc (.slice wa p.wrong.length wc)) 56) :: (G1 ++ GS)) (fun (k, GS) => 0 ≤ k ∧ k ≤ t.plots.length ∧ Grow 114 5 (.slice GSa t.plots.length GSc) t.plots.length ((tellL t p but k.toNat).map Plot.cells).flatten GS ∧ ∀ j : Nat, (j : Int) < k → (t.pl j).tracker ≠ but → (t.pl j).tick - t.frm ≤ 592) (fun (k, GS) => (t.plots.length - k).toNat) ((0, GS)) (.cons rfl (.nil _)) (by repeat (first | exact List.nil_sublist _ | exact List.Sublist.refl _ | apply List.Sublist.cons_cons | apply List.Sublist.cons)) (⟨by omega, by omega, by rw [show (0 : Int).toNat = 0 from rfl, tellL_zero]; exact hgs, fun j hj => by omega⟩) ?_
      rintro ⟨k, GS⟩ hi
      clear hgs
      obtain ⟨hk0, hk1, hgs, hsp⟩ := hi
      refine V_seq ?_
      refine V_seq (V_region rfl ?_)
      refine L_go rfl (X_p (p_move rfl rfl) ?_)
      refine L_go rfl (X_p (p_fieldo fo25_4 rfl rfl) ?_)
      refine L_go rfl (X_rd (r_load ag23 rfl rfl (by repeat first | exact mH | apply mT | apply List.mem_append_right) rfl) ?_)
      refine L_go rfl (X_p (p_len isl23 rfl rfl) ?_)
      refine L_go rfl (X_p (p_lss rfl rfl rfl) ?_)
      refine L_then (.cons (k := 2) rfl (.cons (k := 3) rfl (.cons (k := 4) rfl (.cons (k := 6) rfl (.cons (k := 12) rfl (.cons (k := 14) rfl (.cons (k := 68) rfl .nil))))))) ?_
      refine V_cond rfl ?_ ?_
      · intro c2; have c2r := c2; try simp only [td] at c2
        obtain ⟨gb, cur, rfl, rfl, hcur, hcs, hgn, hgm⟩ := Grow.form2 hgs (by omega)
        obtain ⟨f0, f1⟩ := told_at (t := t) (p := p) (but := but) hk0 (by omega)
        obtain ⟨hb1, hb2, hb3, hb4⟩ := plot_bnd hG (k := k.toNat) (by omega)
        
        refine V_skip (then_n ?_)
        refine V_seq ?_
        refine V_block ?_
        refine V_seq (V_region rfl ?_)
        refine L_go rfl (X_p (p_fieldo fo25_4 rfl rfl) ?_)
        refine L_go rfl (X_rd (r_load ag23 rfl rfl (by repeat first | exact mH | apply mT | apply List.mem_append_right) rfl) ?_)
        refine L_go rfl (X_p (p_move rfl rfl) ?_)
        refine L_go rfl (X_p (p_idxo es23 rfl rfl rfl (by omega) (by omega)) ?_)
        refine L_go rfl (X_p (p_assign rfl rfl) ?_)
        refine L_then (.cons (k := 2) rfl (.cons (k := 3) rfl (.cons (k := 4) rfl (.cons (k := 6) rfl (.cons (k := 12) rfl (.cons (k := 14) rfl (.cons (k := 15) rfl .nil))))))) ?_
        refine V_seq ?_
        refine V_seq (V_draw (.rd 0 (.rd 1 (.rd 2 (.rd 3 (.rd 4 (.rd 5 (.rd 6 (.rd 7 (.rd 8 (.rd 9 (.rd 10 (.rd 11 (.rd 12 (.rd 13 (.rd 14 (.rd 15 (.rd 16 (.rd 17 (.rd 18 (.rd 19 (.rd 20 (.rd 21 (.rd 22 .done))))))))))))))))))))))) mixed (by kernel_rfl) rfl ?_)
        refine D_p rfl (.plain rfl) (p_move rfl rfl) ?_
        refine D_p rfl (.plain rfl) (p_nil rfl rfl) ?_
        refine D_p rfl (.plain rfl) (p_fieldo fo114_0 rfl rfl) ?_
        refine D_rd rfl (.plain rfl) (r_load ag3 rfl rfl (by repeat first | exact mH | apply mT | apply List.mem_append_right) (v := .int .i64 (t.pl k.toNat).tracker) (cur_at hcur f0)) ?_
        refine D_p rfl (.plain rfl) (p_move rfl rfl) ?_
        refine D_p rfl (.plain rfl) (p_eql rfl rfl rfl) ?_
        refine D_p rfl (.plain rfl) (p_move rfl rfl) ?_
        refine D_cases (d := 81) rfl ?_ ?_
        · intro g2; have g2' := g2; try simp only [td] at g2'
          refine D_no rfl (.mk' rfl rfl rfl g2) ?_
          refine D_no rfl (.mk' rfl rfl rfl g2) ?_
          refine D_no rfl (.mk' rfl rfl rfl g2) ?_
          refine D_no rfl (.mk' rfl rfl rfl g2) ?_
          refine D_no rfl (.mk' rfl rfl rfl g2) ?_
          refine D_p rfl (.plain rfl) (p_pick_t rfl rfl g2 rfl) ?_
          refine D_p rfl (.plain rfl) (p_move rfl rfl) ?_
          refine D_no rfl (.mk' rfl rfl rfl rfl) ?_
          refine D_no rfl (.mk' rfl rfl rfl rfl) ?_
          refine D_no rfl (.mk' rfl rfl rfl rfl) ?_
          refine D_no rfl (.mk' rfl rfl rfl rfl) ?_
          refine D_no rfl (.mk' rfl rfl rfl rfl) ?_
          refine D_no rfl (.mk' rfl rfl rfl rfl) ?_
          refine D_no rfl (.mk' rfl rfl rfl rfl) ?_
          refine D_no rfl (.mk' rfl rfl rfl rfl) ?_
          refine D_p rfl (.plain rfl) (p_pick_t rfl rfl rfl rfl) ?_
          refine D_then (.cons (k := 2) rfl (.cons (k := 3) rfl (.cons (k := 4) rfl (.cons (k := 6) rfl (.cons (k := 12) rfl (.cons (k := 14) rfl (.cons (k := 15) rfl (.cons (k := 97) rfl .nil)))))))) ?_
          refine V_cond_t rfl rfl ?_
          refine V_exit (then_e (blk_e rfl (then_n ?_)))
          refine V_region rfl ?_
          refine L_go rfl (X_p (p_move rfl rfl) ?_)
          first | refine L_go rfl (X_p (p_add' rfl rfl rfl (by unfold InI; omega)) ?_) | refine L_go rfl (X_p (p_add rfl rfl rfl) ?_)
          refine L_go rfl (X_p (p_assign rfl rfl) ?_)
          refine L_keep (.cons (k := 2) rfl (.cons (k := 3) rfl (.cons (k := 4) rfl (.cons (k := 6) rfl (.cons (k := 12) rfl (.cons (k := 14) rfl .nil)))))) (then_n ?_)
          refine ⟨(k + 1, [(gb, .cells cur 114)]), ?_, ?_, (.cons rfl (.cons rfl (.cons rfl (.cons rfl (.cons rfl (.cons rfl (.nil _))))))), (by repeat (first | exact List.nil_sublist _ | exact List.Sublist.refl _ | apply List.Sublist.cons_cons | apply List.Sublist.cons | apply List.sublist_append_of_sublist_right)), rfl⟩
          · refine ⟨by omega, by omega, ?_, ?_⟩
            · rw [tellL_no hk0 (by omega)]; exact .row hgn hgm hcs hcur (by rw [pl_flat_len, tellL_len])
            · intro j hj hne
              by_cases e : j = k.toNat
              · subst e; exact absurd (by omega) hne
              · exact hsp j (by omega) hne
          · dsimp only; omega
        · intro g2; have g2' := g2; try simp only [td] at g2'
          have hne : (t.pl k.toNat).tracker ≠ but := by omega
          refine D_p rfl (.yes rfl rfl rfl g2) (p_move rfl rfl) ?_
          refine D_p rfl (.yes rfl rfl rfl g2) (p_nil rfl rfl) ?_
          refine D_p rfl (.yes rfl rfl rfl g2) (p_fieldo fo114_0 rfl rfl) ?_
          refine D_rd rfl (.yes rfl rfl rfl g2) (r_load ag3 rfl rfl (by repeat first | exact mH | apply mT | apply List.mem_append_right) (v := .int .i64 (t.pl k.toNat).tracker) (cur_at hcur f0)) ?_
          refine D_p rfl (.yes rfl rfl rfl g2) (p_lss rfl rfl rfl) ?_
          refine D_p rfl (.plain rfl) (p_pick_f rfl rfl g2 rfl) ?_
          refine D_p rfl (.plain rfl) (p_move rfl rfl) ?_
          refine D_p rfl (.yes rfl rfl rfl (decide_eq_false (by omega))) (p_move rfl rfl) ?_
          refine D_p rfl (.yes rfl rfl rfl (decide_eq_false (by omega))) (p_nil rfl rfl) ?_
          refine D_p rfl (.yes rfl rfl rfl (decide_eq_false (by omega))) (p_fieldo fo114_0 rfl rfl) ?_
          refine D_rd rfl (.yes rfl rfl rfl (decide_eq_false (by omega))) (r_load ag3 rfl rfl (by repeat first | exact mH | apply mT | apply List.mem_append_right) (v := .int .i64 (t.pl k.toNat).tracker) (cur_at hcur f0)) ?_
          refine D_p rfl (.yes rfl rfl rfl (decide_eq_false (by omega))) (p_fieldo fo25_3 rfl rfl) ?_
          refine D_rd rfl (.yes rfl rfl rfl (decide_eq_false (by omega))) (r_load ag22 rfl rfl (by repeat first | exact mH | apply mT | apply List.mem_append_right) rfl) ?_
          refine D_p rfl (.yes rfl rfl rfl (decide_eq_false (by omega))) (p_len isl22 rfl rfl) ?_
          refine D_p rfl (.yes rfl rfl rfl (decide_eq_false (by omega))) (p_geq rfl rfl rfl) ?_
          refine D_p rfl (.plain rfl) (p_pick_f rfl rfl (decide_eq_false (by omega)) rfl) ?_
          refine D_then (.cons (k := 2) rfl (.cons (k := 3) rfl (.cons (k := 4) rfl (.cons (k := 6) rfl (.cons (k := 12) rfl (.cons (k := 14) rfl (.cons (k := 15) rfl (.cons (k := 97) rfl .nil)))))))) ?_
          refine V_cond_f rfl (decide_eq_false (by omega)) ?_
          refine V_skip (then_n ?_)
          refine V_mid (γ := Nat × Nat) (.cons (k := 2) rfl (.cons (k := 3) rfl (.cons (k := 4) rfl (.cons (k := 6) rfl (.cons (k := 12) rfl (.cons (k := 14) rfl (.cons (k := 15) rfl .nil))))))) (fun (x16, x17) => [(16, .pointer (some ⟨x16, 0, none⟩)), (17, .pointer (some ⟨x17, 0, none⟩)), (18, .bool (spotOk t (t.pl k.toNat).tick))]) (fun (x16, x17) => (x17, .cells (vec3 fun j => spotV t p j (t.pl k.toNat).tick) 64) :: (x16, .cells (vec3 fun j => spotP t p j (t.pl k.toNat).tick) 64) :: (b3, .cells #[.int .i64 0, .int .i64 0, .int .i64 0, .slice none 0 0, .slice none 0 0] 25) :: (b2, t.obj (.slice ta t.trackers.length tc) (.slice (some ⟨gb, 0, none⟩) t.plots.length GSc) 25) :: (b1, .cells (pathV pp (fun k => (p.push k).length) pc (.slice wa p.wrong.length wc)) 56) :: (G1 ++ [(gb, .cells cur 114)])) (fun (x16, x17) => True) ?_ ?_
          · refine V_draw (.rd 0 (.rd 1 (.rd 2 (.rd 3 (.rd 4 (.rd 5 (.wr3 6 [4, 3, 2] (.rd 7 (.rd 8 (.rd 9 (.rd 10 (.wr2 11 [10, 9, 8, 7, 5, 4, 3, 2, 1, 0] (.wr 12 [10, 9, 8, 7, 5, 4, 3, 2, 1, 0] (.wr 13 [10, 9] (.wr 14 [10] (.rd 15 .done)))) 12 [10, 9, 8, 7, 5, 4, 3, 2, 1, 0] (.wr 11 [10, 9, 8, 7, 5, 4, 3, 2, 1, 0] (.wr 13 [10, 9] (.wr 14 [10] (.rd 15 .done))))))))) 11 [5, 4, 3, 2, 1, 0] (.wr2 6 [4, 3, 2] (.rd 7 (.rd 8 (.rd 9 (.rd 10 (.wr 12 [10, 9, 8, 7, 5, 4, 3, 2, 1, 0] (.wr 13 [10, 9] (.wr 14 [10] (.rd 15 .done)))))))) 12 [5, 4, 3, 2, 1, 0] (.wr 6 [4, 3, 2] (.rd 7 (.rd 8 (.rd 9 (.rd 10 (.wr 13 [10, 9] (.wr 14 [10] (.rd 15 .done))))))))) 12 [5, 4, 3, 2, 1, 0] (.wr2 6 [4, 3, 2] (.rd 7 (.rd 8 (.rd 9 (.rd 10 (.wr 11 [10, 9, 8, 7, 5, 4, 3, 2, 1, 0] (.wr 13 [10, 9] (.wr 14 [10] (.rd 15 .done)))))))) 11 [5, 4, 3, 2, 1, 0] (.wr 6 [4, 3, 2] (.rd 7 (.rd 8 (.rd 9 (.rd 10 (.wr 13 [10, 9] (.wr 14 [10] (.rd 15 .done)))))))))))))))) mixed (by kernel_rfl) rfl ?_
            refine D_rd rfl (.plain rfl) (r_loadA (vs := [_, _, _, _, _]) ag25 sz25 rfl rfl (by repeat first | exact mH | apply mT | apply List.mem_append_right) rfl) ?_
            refine D_p rfl (.plain rfl) (p_move rfl rfl) ?_
            refine D_p rfl (.plain rfl) (p_move rfl rfl) ?_
            refine D_p rfl (.plain rfl) (p_nil rfl rfl) ?_
            refine D_p rfl (.plain rfl) (p_fieldo fo114_1 rfl rfl) ?_
            refine D_rd rfl (.plain rfl) (r_load ag3 rfl rfl (by repeat first | exact mH | apply mT | apply List.mem_append_right) (v := .int .i64 (t.pl k.toNat).tick) (cur_at hcur f1)) ?_
            refine D_wr3 rfl rfl rfl ?_ ?_ ?_
            · refine (.go (E' := []) rfl (.plain rfl) (w_callP rfl rfl rfl (fun w hg => spot_c t p _ _ _ _ ra rc (t.pl k.toNat).tick hf (by omega) hsm w (Grow.rows (els := rowsP t p 602) hgr1 rowsP_3 rowsP_len.symm (fun p hp => hg.own p (by repeat first | exact hp | exact List.mem_append_left _ hp | apply List.mem_append_right | apply mT))))) rfl ?_)
              rintro _ _ ⟨rfl, rfl⟩
              refine ⟨.nil, ?_⟩
              refine D_p rfl (.plain rfl) (p_move rfl rfl) ?_
              refine D_p rfl (.plain rfl) (p_ext rfl rfl rfl) ?_
              refine D_p rfl (.plain rfl) (p_ext rfl rfl rfl) ?_
              refine D_p rfl (.plain rfl) (p_ext rfl rfl rfl) ?_
              refine D_wr2 rfl ?_ ?_
              · refine (.go (E' := []) rfl (.plain rfl) (w_alloc zr64 rfl) rfl ?_)
                rintro _ _ ⟨b6, hb6, rfl, rfl⟩
                refine ⟨.nil, ?_⟩
                refine D_wr (.go (E' := []) rfl (.plain rfl) (w_alloc zr64 rfl) rfl ?_)
                rintro _ _ ⟨b7, hb7, rfl, rfl⟩
                refine ⟨.nil, ?_⟩
                refine D_wr (.go (E' := []) rfl (.plain rfl) (w_store (cs' := [_, _, _]) sz64 rfl rfl rfl rfl rfl (by repeat first | exact .head | apply SetAt.tail) (Nat.le_of_ble_eq_true rfl) rfl) rfl ?_)
                rintro _ _ ⟨rfl, rfl⟩
                refine ⟨.nil, ?_⟩
                refine D_wr (.go (E' := []) rfl (.plain rfl) (w_store (cs' := [_, _, _]) sz64 rfl rfl rfl rfl rfl (by repeat first | exact .head | apply SetAt.tail) (Nat.le_of_ble_eq_true rfl) rfl) rfl ?_)
                rintro _ _ ⟨rfl, rfl⟩
                refine ⟨.nil, ?_⟩
                refine D_p rfl (.plain rfl) (p_assign rfl rfl) ?_
                refine D_then (.cons (k := 2) rfl (.cons (k := 3) rfl (.cons (k := 4) rfl (.cons (k := 6) rfl (.cons (k := 12) rfl (.cons (k := 14) rfl (.cons (k := 15) rfl (.cons (k := 16) rfl (.cons (k := 17) rfl (.cons (k := 18) rfl .nil)))))))))) ?_
                refine ⟨(b6, b7), trivial, (.cons rfl (.cons rfl (.cons rfl (.cons rfl (.cons rfl (.cons rfl (.cons rfl (.cons rfl (.cons rfl (.cons rfl (.nil _))))))))))), (by (try dsimp only); repeat (first | exact HSub.nil _ | refine HSub.take (by repeat first | exact Take.head | apply Take.tail) ?_ | exact HSub.refl _ | refine HSub.drop ?_ | refine HSub.app ?_)), rfl⟩
              · refine (.go (E' := []) rfl (.plain rfl) (w_alloc zr64 rfl) rfl ?_)
                rintro _ _ ⟨b6, hb6, rfl, rfl⟩
                refine ⟨.nil, ?_⟩
                refine D_wr (.go (E' := []) rfl (.plain rfl) (w_alloc zr64 rfl) rfl ?_)
                rintro _ _ ⟨b7, hb7, rfl, rfl⟩
                refine ⟨.nil, ?_⟩
                refine D_wr (.go (E' := []) rfl (.plain rfl) (w_store (cs' := [_, _, _]) sz64 rfl rfl rfl rfl rfl (by repeat first | exact .head | apply SetAt.tail) (Nat.le_of_ble_eq_true rfl) rfl) rfl ?_)
                rintro _ _ ⟨rfl, rfl⟩
                refine ⟨.nil, ?_⟩
                refine D_wr (.go (E' := []) rfl (.plain rfl) (w_store (cs' := [_, _, _]) sz64 rfl rfl rfl rfl rfl (by repeat first | exact .head | apply SetAt.tail) (Nat.le_of_ble_eq_true rfl) rfl) rfl ?_)
                rintro _ _ ⟨rfl, rfl⟩
                refine ⟨.nil, ?_⟩
                refine D_p rfl (.plain rfl) (p_assign rfl rfl) ?_
                refine D_then (.cons (k := 2) rfl (.cons (k := 3) rfl (.cons (k := 4) rfl (.cons (k := 6) rfl (.cons (k := 12) rfl (.cons (k := 14) rfl (.cons (k := 15) rfl (.cons (k := 16) rfl (.cons (k := 17) rfl (.cons (k := 18) rfl .nil)))))))))) ?_
                refine ⟨(b7, b6), trivial, (.cons rfl (.cons rfl (.cons rfl (.cons rfl (.cons rfl (.cons rfl (.cons rfl (.cons rfl (.cons rfl (.cons rfl (.nil _))))))))))), (by (try dsimp only); repeat (first | exact HSub.nil _ | refine HSub.take (by repeat first | exact Take.head | apply Take.tail) ?_ | exact HSub.refl _ | refine HSub.drop ?_ | refine HSub.app ?_)), rfl⟩
            · refine (.go (E' := [(5, _), (0, _)]) rfl (.plain rfl) (w_alloc zr64 rfl) rfl ?_)
              rintro _ _ ⟨b6, hb6, rfl, rfl⟩
              refine ⟨(.cons rfl (.plain rfl) (r_load ag3 rfl rfl (by repeat first | exact mH | apply mT | apply List.mem_append_right) (v := .int .i64 (t.pl k.toNat).tick) (cur_at hcur f1)) (.cons rfl (.plain rfl) (r_loadA (vs := [_, _, _, _, _]) ag25 sz25 rfl rfl (by repeat first | exact mH | apply mT | apply List.mem_append_right) rfl) .nil)), ?_⟩
              refine D_wr2 rfl ?_ ?_
              · refine (.go (E' := []) rfl (.plain rfl) (w_callP rfl rfl rfl (fun w hg => spot_c t p _ _ _ _ ra rc (t.pl k.toNat).tick hf (by omega) hsm w (Grow.rows (els := rowsP t p 602) hgr1 rowsP_3 rowsP_len.symm (fun p hp => hg.own p (by repeat first | exact hp | exact List.mem_append_left _ hp | apply List.mem_append_right | apply mT))))) rfl ?_)
                rintro _ _ ⟨rfl, rfl⟩
                refine ⟨.nil, ?_⟩
                refine D_p rfl (.plain rfl) (p_move rfl rfl) ?_
                refine D_p rfl (.plain rfl) (p_ext rfl rfl rfl) ?_
                refine D_p rfl (.plain rfl) (p_ext rfl rfl rfl) ?_
                refine D_p rfl (.plain rfl) (p_ext rfl rfl rfl) ?_
                refine D_wr (.go (E' := []) rfl (.plain rfl) (w_alloc zr64 rfl) rfl ?_)
                rintro _ _ ⟨b7, hb7, rfl, rfl⟩
                refine ⟨.nil, ?_⟩
                refine D_wr (.go (E' := []) rfl (.plain rfl) (w_store (cs' := [_, _, _]) sz64 rfl rfl rfl rfl rfl (by repeat first | exact .head | apply SetAt.tail) (Nat.le_of_ble_eq_true rfl) rfl) rfl ?_)
                rintro _ _ ⟨rfl, rfl⟩
                refine ⟨.nil, ?_⟩
                refine D_wr (.go (E' := []) rfl (.plain rfl) (w_store (cs' := [_, _, _]) sz64 rfl rfl rfl rfl rfl (by repeat first | exact .head | apply SetAt.tail) (Nat.le_of_ble_eq_true rfl) rfl) rfl ?_)
                rintro _ _ ⟨rfl, rfl⟩
                refine ⟨.nil, ?_⟩
                refine D_p rfl (.plain rfl) (p_assign rfl rfl) ?_
                refine D_then (.cons (k := 2) rfl (.cons (k := 3) rfl (.cons (k := 4) rfl (.cons (k := 6) rfl (.cons (k := 12) rfl (.cons (k := 14) rfl (.cons (k := 15) rfl (.cons (k := 16) rfl (.cons (k := 17) rfl (.cons (k := 18) rfl .nil)))))))))) ?_
                refine ⟨(b6, b7), trivial, (.cons rfl (.cons rfl (.cons rfl (.cons rfl (.cons rfl (.cons rfl (.cons rfl (.cons rfl (.cons rfl (.cons rfl (.nil _))))))))))), (by (try dsimp only); repeat (first | exact HSub.nil _ | refine HSub.take (by repeat first | exact Take.head | apply Take.tail) ?_ | exact HSub.refl _ | refine HSub.drop ?_ | refine HSub.app ?_)), rfl⟩
              · refine (.go (E' := [(5, _), (0, _)]) rfl (.plain rfl) (w_alloc zr64 rfl) rfl ?_)
                rintro _ _ ⟨b7, hb7, rfl, rfl⟩
                refine ⟨(.cons rfl (.plain rfl) (r_load ag3 rfl rfl (by repeat first | exact mH | apply mT | apply List.mem_append_right) (v := .int .i64 (t.pl k.toNat).tick) (cur_at hcur f1)) (.cons rfl (.plain rfl) (r_loadA (vs := [_, _, _, _, _]) ag25 sz25 rfl rfl (by repeat first | exact mH | apply mT | apply List.mem_append_right) rfl) .nil)), ?_⟩
                refine D_wr (.go (E' := []) rfl (.plain rfl) (w_callP rfl rfl rfl (fun w hg => spot_c t p _ _ _ _ ra rc (t.pl k.toNat).tick hf (by omega) hsm w (Grow.rows (els := rowsP t p 602) hgr1 rowsP_3 rowsP_len.symm (fun p hp => hg.own p (by repeat first | exact hp | exact List.mem_append_left _ hp | apply List.mem_append_right | apply mT))))) rfl ?_)
                rintro _ _ ⟨rfl, rfl⟩
                refine ⟨.nil, ?_⟩
                refine D_p rfl (.plain rfl) (p_move rfl rfl) ?_
                refine D_p rfl (.plain rfl) (p_ext rfl rfl rfl) ?_
                refine D_p rfl (.plain rfl) (p_ext rfl rfl rfl) ?_
                refine D_p rfl (.plain rfl) (p_ext rfl rfl rfl) ?_
                refine D_wr (.go (E' := []) rfl (.plain rfl) (w_store (cs' := [_, _, _]) sz64 rfl rfl rfl rfl rfl (by repeat first | exact .head | apply SetAt.tail) (Nat.le_of_ble_eq_true rfl) rfl) rfl ?_)
                rintro _ _ ⟨rfl, rfl⟩
                refine ⟨.nil, ?_⟩
                refine D_wr (.go (E' := []) rfl (.plain rfl) (w_store (cs' := [_, _, _]) sz64 rfl rfl rfl rfl rfl (by repeat first | exact .head | apply SetAt.tail) (Nat.le_of_ble_eq_true rfl) rfl) rfl ?_)
                rintro _ _ ⟨rfl, rfl⟩
                refine ⟨.nil, ?_⟩
                refine D_p rfl (.plain rfl) (p_assign rfl rfl) ?_
                refine D_then (.cons (k := 2) rfl (.cons (k := 3) rfl (.cons (k := 4) rfl (.cons (k := 6) rfl (.cons (k := 12) rfl (.cons (k := 14) rfl (.cons (k := 15) rfl (.cons (k := 16) rfl (.cons (k := 17) rfl (.cons (k := 18) rfl .nil)))))))))) ?_
                refine ⟨(b6, b7), trivial, (.cons rfl (.cons rfl (.cons rfl (.cons rfl (.cons rfl (.cons rfl (.cons rfl (.cons rfl (.cons rfl (.cons rfl (.nil _))))))))))), (by (try dsimp only); repeat (first | exact HSub.nil _ | refine HSub.take (by repeat first | exact Take.head | apply Take.tail) ?_ | exact HSub.refl _ | refine HSub.drop ?_ | refine HSub.app ?_)), rfl⟩
            · refine (.go (E' := [(5, _), (0, _)]) rfl (.plain rfl) (w_alloc zr64 rfl) rfl ?_)
              rintro _ _ ⟨b6, hb6, rfl, rfl⟩
              refine ⟨(.cons rfl (.plain rfl) (r_load ag3 rfl rfl (by repeat first | exact mH | apply mT | apply List.mem_append_right) (v := .int .i64 (t.pl k.toNat).tick) (cur_at hcur f1)) (.cons rfl (.plain rfl) (r_loadA (vs := [_, _, _, _, _]) ag25 sz25 rfl rfl (by repeat first | exact mH | apply mT | apply List.mem_append_right) rfl) .nil)), ?_⟩
              refine D_wr2 rfl ?_ ?_
              · refine (.go (E' := []) rfl (.plain rfl) (w_callP rfl rfl rfl (fun w hg => spot_c t p _ _ _ _ ra rc (t.pl k.toNat).tick hf (by omega) hsm w (Grow.rows (els := rowsP t p 602) hgr1 rowsP_3 rowsP_len.symm (fun p hp => hg.own p (by repeat first | exact hp | exact List.mem_append_left _ hp | apply List.mem_append_right | apply mT))))) rfl ?_)
                rintro _ _ ⟨rfl, rfl⟩
                refine ⟨.nil, ?_⟩
                refine D_p rfl (.plain rfl) (p_move rfl rfl) ?_
                refine D_p rfl (.plain rfl) (p_ext rfl rfl rfl) ?_
                refine D_p rfl (.plain rfl) (p_ext rfl rfl rfl) ?_
                refine D_p rfl (.plain rfl) (p_ext rfl rfl rfl) ?_
                refine D_wr (.go (E' := []) rfl (.plain rfl) (w_alloc zr64 rfl) rfl ?_)
                rintro _ _ ⟨b7, hb7, rfl, rfl⟩
                refine ⟨.nil, ?_⟩
                refine D_wr (.go (E' := []) rfl (.plain rfl) (w_store (cs' := [_, _, _]) sz64 rfl rfl rfl rfl rfl (by repeat first | exact .head | apply SetAt.tail) (Nat.le_of_ble_eq_true rfl) rfl) rfl ?_)
                rintro _ _ ⟨rfl, rfl⟩
                refine ⟨.nil, ?_⟩
                refine D_wr (.go (E' := []) rfl (.plain rfl) (w_store (cs' := [_, _, _]) sz64 rfl rfl rfl rfl rfl (by repeat first | exact .head | apply SetAt.tail) (Nat.le_of_ble_eq_true rfl) rfl) rfl ?_)
                rintro _ _ ⟨rfl, rfl⟩
                refine ⟨.nil, ?_⟩
                refine D_p rfl (.plain rfl) (p_assign rfl rfl) ?_
                refine D_then (.cons (k := 2) rfl (.cons (k := 3) rfl (.cons (k := 4) rfl (.cons (k := 6) rfl (.cons (k := 12) rfl (.cons (k := 14) rfl (.cons (k := 15) rfl (.cons (k := 16) rfl (.cons (k := 17) rfl (.cons (k := 18) rfl .nil)))))))))) ?_
                refine ⟨(b7, b6), trivial, (.cons rfl (.cons rfl (.cons rfl (.cons rfl (.cons rfl (.cons rfl (.cons rfl (.cons rfl (.cons rfl (.cons rfl (.nil _))))))))))), (by (try dsimp only); repeat (first | exact HSub.nil _ | refine HSub.take (by repeat first | exact Take.head | apply Take.tail) ?_ | exact HSub.refl _ | refine HSub.drop ?_ | refine HSub.app ?_)), rfl⟩
              · refine (.go (E' := [(5, _), (0, _)]) rfl (.plain rfl) (w_alloc zr64 rfl) rfl ?_)
                rintro _ _ ⟨b7, hb7, rfl, rfl⟩
                refine ⟨(.cons rfl (.plain rfl) (r_load ag3 rfl rfl (by repeat first | exact mH | apply mT | apply List.mem_append_right) (v := .int .i64 (t.pl k.toNat).tick) (cur_at hcur f1)) (.cons rfl (.plain rfl) (r_loadA (vs := [_, _, _, _, _]) ag25 sz25 rfl rfl (by repeat first | exact mH | apply mT | apply List.mem_append_right) rfl) .nil)), ?_⟩
                refine D_wr (.go (E' := []) rfl (.plain rfl) (w_callP rfl rfl rfl (fun w hg => spot_c t p _ _ _ _ ra rc (t.pl k.toNat).tick hf (by omega) hsm w (Grow.rows (els := rowsP t p 602) hgr1 rowsP_3 rowsP_len.symm (fun p hp => hg.own p (by repeat first | exact hp | exact List.mem_append_left _ hp | apply List.mem_append_right | apply mT))))) rfl ?_)
                rintro _ _ ⟨rfl, rfl⟩
                refine ⟨.nil, ?_⟩
                refine D_p rfl (.plain rfl) (p_move rfl rfl) ?_
                refine D_p rfl (.plain rfl) (p_ext rfl rfl rfl) ?_
                refine D_p rfl (.plain rfl) (p_ext rfl rfl rfl) ?_
                refine D_p rfl (.plain rfl) (p_ext rfl rfl rfl) ?_
                refine D_wr (.go (E' := []) rfl (.plain rfl) (w_store (cs' := [_, _, _]) sz64 rfl rfl rfl rfl rfl (by repeat first | exact .head | apply SetAt.tail) (Nat.le_of_ble_eq_true rfl) rfl) rfl ?_)
                rintro _ _ ⟨rfl, rfl⟩
                refine ⟨.nil, ?_⟩
                refine D_wr (.go (E' := []) rfl (.plain rfl) (w_store (cs' := [_, _, _]) sz64 rfl rfl rfl rfl rfl (by repeat first | exact .head | apply SetAt.tail) (Nat.le_of_ble_eq_true rfl) rfl) rfl ?_)
                rintro _ _ ⟨rfl, rfl⟩
                refine ⟨.nil, ?_⟩
                refine D_p rfl (.plain rfl) (p_assign rfl rfl) ?_
                refine D_then (.cons (k := 2) rfl (.cons (k := 3) rfl (.cons (k := 4) rfl (.cons (k := 6) rfl (.cons (k := 12) rfl (.cons (k := 14) rfl (.cons (k := 15) rfl (.cons (k := 16) rfl (.cons (k := 17) rfl (.cons (k := 18) rfl .nil)))))))))) ?_
                refine ⟨(b7, b6), trivial, (.cons rfl (.cons rfl (.cons rfl (.cons rfl (.cons rfl (.cons rfl (.cons rfl (.cons rfl (.cons rfl (.cons rfl (.nil _))))))))))), (by (try dsimp only); repeat (first | exact HSub.nil _ | refine HSub.take (by repeat first | exact Take.head | apply Take.tail) ?_ | exact HSub.refl _ | refine HSub.drop ?_ | refine HSub.app ?_)), rfl⟩
          · rintro ⟨x16, x17⟩ _
            refine V_seq ?_
            refine V_seq (V_region rfl ?_)
            refine L_go rfl (X_p (p_move rfl rfl) ?_)
            refine L_go rfl (X_p (p_not rfl rfl) ?_)
            refine L_then (.cons (k := 2) rfl (.cons (k := 3) rfl (.cons (k := 4) rfl (.cons (k := 6) rfl (.cons (k := 12) rfl (.cons (k := 14) rfl (.cons (k := 15) rfl (.cons (k := 16) rfl (.cons (k := 110) rfl .nil))))))))) ?_
            refine V_cond rfl ?_ ?_
            · intro c3; have c3r := c3; try simp only [td] at c3
              refine V_seq (V_region rfl ?_)
              refine L_go rfl (X_rd (r_loadA (vs := [_, _, _, _, _]) ag25 sz25 rfl rfl (by repeat first | exact mH | apply mT | apply List.mem_append_right) rfl) ?_)
              refine L_go rfl (X_wr (w_store (cs' := [_, _, _, _, _]) sz25 rfl rfl rfl rfl rfl (by repeat first | exact .head | apply SetAt.tail) (Nat.le_of_ble_eq_true rfl) rfl) ?_)
              rintro _ _ ⟨rfl, rfl⟩
              refine L_go rfl (X_p (p_assign rfl rfl) ?_)
              refine L_go rfl (X_p (p_assign rfl rfl) ?_)
              refine L_then (.cons (k := 6) rfl (.cons (k := 7) rfl (.cons (k := 8) rfl .nil))) ?_
              refine V_ret (then_r (blk_r (then_r (then_r (blk_r (then_r ?_))))))
              refine Leave.nil (.cellA (us := [_, _, _, _, _]) rfl ag25 sz25 (by repeat first | exact mH | apply mT | apply List.mem_append_right) rfl (.tmp rfl (.tmp rfl .nil))) ?_
              exact ⟨[], HSub.nil _, [], [], rfl, false, _, _, _, _, _, _, [], rfl, fun h => by cases h⟩
            · intro c3; have c3r := c3; try simp only [td] at c3
              have hso : spotOk t (t.pl k.toNat).tick = true := by revert c3r; cases spotOk t (t.pl k.toNat).tick <;> simp
              have hsl := spotOk_le hso
              have hsp0 : -2000000000 ≤ spotP t p 0 (t.pl k.toNat).tick ∧ spotP t p 0 (t.pl k.toNat).tick ≤ 2000000000 := spotP_bnd hsm 0 (by decide)
              have hsp1 : -2000000000 ≤ spotP t p 1 (t.pl k.toNat).tick ∧ spotP t p 1 (t.pl k.toNat).tick ≤ 2000000000 := spotP_bnd hsm 1 (by decide)
              have hsp2 : -2000000000 ≤ spotP t p 2 (t.pl k.toNat).tick ∧ spotP t p 2 (t.pl k.toNat).tick ≤ 2000000000 := spotP_bnd hsm 2 (by decide)
              obtain ⟨he0, he1⟩ := err_bnd hG (k := k.toNat) (by omega)
              refine V_skip (then_n ?_)
              refine V_seq (V_region rfl ?_)
              refine L_go rfl (X_wr (w_alloc zr64 rfl) ?_)
              rintro _ _ ⟨b6, hb6, rfl, rfl⟩
              refine L_then (.cons (k := 2) rfl (.cons (k := 3) rfl (.cons (k := 4) rfl (.cons (k := 6) rfl (.cons (k := 12) rfl (.cons (k := 14) rfl (.cons (k := 15) rfl (.cons (k := 16) rfl (.cons (k := 19) rfl .nil))))))))) ?_
              refine V_seq ?_
              refine V_seq (V_region rfl ?_)
              refine L_go rfl (X_p (p_assign rfl rfl) ?_)
              refine L_then (.cons (k := 2) rfl (.cons (k := 3) rfl (.cons (k := 4) rfl (.cons (k := 6) rfl (.cons (k := 12) rfl (.cons (k := 14) rfl (.cons (k := 15) rfl (.cons (k := 16) rfl (.cons (k := 19) rfl (.cons (k := 20) rfl .nil)))))))))) ?_
              refine V_block ?_
              refine V_loop1 (γ := Int × (Nat → Int)) (.cons (k := 2) rfl (.cons (k := 3) rfl (.cons (k := 4) rfl (.cons (k := 6) rfl (.cons (k := 12) rfl (.cons (k := 14) rfl (.cons (k := 15) rfl (.cons (k := 16) rfl (.cons (k := 19) rfl .nil))))))))) (fun (m, wf) => [(20, .int .i64 m)]) (fun (m, wf) => (b6, .cells (vec3 wf) 64) :: (x17, .cells (vec3 fun j => spotV t p j (t.pl k.toNat).tick) 64) :: (x16, .cells (vec3 fun j => spotP t p j (t.pl k.toNat).tick) 64) :: (b3, .cells #[.int .i64 0, .int .i64 0, .int .i64 0, .slice none 0 0, .slice none 0 0] 25) :: (b2, t.obj (.slice ta t.trackers.length tc) (.slice (some ⟨gb, 0, none⟩) t.plots.length GSc) 25) :: (b1, .cells (pathV pp (fun k => (p.push k).length) pc (.slice wa p.wrong.length wc)) 56) :: (G1 ++ [(gb, .cells cur 114)])) (fun (m, wf) => 0 ≤ m ∧ m ≤ 3 ∧ WrI t p k.toNat m.toNat wf) (fun (m, wf) => (3 - m).toNat) ((0, fun _ => 0)) (.cons rfl (.nil _)) (by repeat (first | exact List.nil_sublist _ | exact List.Sublist.refl _ | apply List.Sublist.cons_cons | apply List.Sublist.cons)) (⟨by omega, by omega, WrI.zero⟩) ?_
              rintro ⟨m, wf⟩ hi
              obtain ⟨hm0, hm1, hW⟩ := hi
              refine V_seq ?_
              refine V_seq (V_region rfl ?_)
              refine L_go rfl (X_p (p_move rfl rfl) ?_)
              refine L_go rfl (X_p (p_lss rfl rfl rfl) ?_)
              refine L_go rfl (X_p (p_move rfl rfl) ?_)
              refine L_cases (d := 114) rfl ?_ ?_
              · intro g3; have g3' := g3; try simp only [td] at g3'
                refine L_yes rfl rfl rfl g3 (X_p (p_fieldo fo56_1 rfl rfl) ?_)
                refine L_yes rfl rfl rfl g3 (X_rd (r_load ag53 rfl rfl (by repeat first | exact mH | apply mT | apply List.mem_append_right) rfl) ?_)
                refine L_yes rfl rfl rfl g3 (X_p (p_len isl53 rfl rfl) ?_)
                refine L_yes rfl rfl rfl g3 (X_p (p_gtr rfl rfl rfl) ?_)
                refine L_go rfl (X_p (p_pick_t rfl rfl g3 rfl) ?_)
                refine L_then (.cons (k := 2) rfl (.cons (k := 3) rfl (.cons (k := 4) rfl (.cons (k := 6) rfl (.cons (k := 12) rfl (.cons (k := 14) rfl (.cons (k := 15) rfl (.cons (k := 16) rfl (.cons (k := 19) rfl (.cons (k := 20) rfl (.cons (k := 119) rfl .nil))))))))))) ?_
                refine V_cond rfl ?_ ?_
                · intro c4; have c4r := c4; try simp only [td] at c4
                  have hn0 : 0 < p.wrong.length := by omega
                  obtain ⟨hm, hme⟩ := tmod_nat (i := 3 * k + m) (by omega) hn0
                  obtain ⟨xb, rfl, hxc⟩ := hws.at (i := ((3 * k + m).tmod ((p.wrong.length : Nat) : Int)).toNat) (getD_cells (f := fun n => [Value.int .i8 n]) (d := 0) (by rw [hme]; exact Nat.mod_lt _ hn0))
                  have h8 := hpr.ok.wrong.getD ((3 * k + m).tmod ((p.wrong.length : Nat) : Int)).toNat
                  obtain ⟨tb, rfl, hct⟩ := hte (t.pl k.toNat).tracker.toNat _ (getD_cells (d := trZ) (by omega))
                  refine V_skip (then_n ?_)
                  refine V_seq ?_
                  refine V_block ?_
                  refine V_draw (.rd 0 (.rd 1 (.rd 2 (.rd 3 (.rd 4 (.rd 5 (.rd 6 (.rd 7 (.rd 8 (.rd 9 (.rd 10 (.rd 11 (.rd 12 (.rd 13 (.rd 14 (.rd 15 (.rd 16 (.rd 17 (.rd 18 (.rd 19 (.rd 20 (.rd 21 (.rd 22 (.rd 23 (.rd 24 (.rd 25 (.rd 26 (.wr 27 [] .done)))))))))))))))))))))))))))) mixed (by kernel_rfl) rfl ?_
                  refine D_p rfl (.plain rfl) (p_move rfl rfl) ?_
                  refine D_p rfl (.plain rfl) (p_fieldo fo25_3 rfl rfl) ?_
                  refine D_rd rfl (.plain rfl) (r_load ag22 rfl rfl (by repeat first | exact mH | apply mT | apply List.mem_append_right) rfl) ?_
                  refine D_p rfl (.plain rfl) (p_move rfl rfl) ?_
                  refine D_p rfl (.plain rfl) (p_nil rfl rfl) ?_
                  refine D_p rfl (.plain rfl) (p_fieldo fo114_0 rfl rfl) ?_
                  refine D_rd rfl (.plain rfl) (r_load ag3 rfl rfl (by repeat first | exact mH | apply mT | apply List.mem_append_right) (v := .int .i64 (t.pl k.toNat).tracker) (cur_at hcur f0)) ?_
                  refine D_p rfl (.plain rfl) (p_idx es22 rfl rfl rfl (by omega) (by omega)) ?_
                  refine D_p rfl (.plain rfl) (p_field fo116_3 rfl rfl) ?_
                  refine D_rd rfl (.plain rfl) (r_loadB ag3 rfl rfl (hct 3 _ rfl) List.not_mem_nil) ?_
                  refine D_p rfl (.plain rfl) (p_fieldo fo56_1 rfl rfl) ?_
                  refine D_rd rfl (.plain rfl) (r_load ag53 rfl rfl (by repeat first | exact mH | apply mT | apply List.mem_append_right) rfl) ?_
                  refine D_p rfl (.plain rfl) (p_move rfl rfl) ?_
                  first | refine D_p rfl (.plain rfl) (p_mul' rfl rfl rfl (by unfold InI; omega)) ?_ | refine D_p rfl (.plain rfl) (p_mul rfl rfl rfl) ?_
                  refine D_p rfl (.plain rfl) (p_move rfl rfl) ?_
                  first | refine D_p rfl (.plain rfl) (p_add' rfl rfl rfl (by unfold InI; omega)) ?_ | refine D_p rfl (.plain rfl) (p_add rfl rfl rfl) ?_
                  refine D_p rfl (.plain rfl) (p_fieldo fo56_1 rfl rfl) ?_
                  refine D_rd rfl (.plain rfl) (r_load ag53 rfl rfl (by repeat first | exact mH | apply mT | apply List.mem_append_right) rfl) ?_
                  refine D_p rfl (.plain rfl) (p_len isl53 rfl rfl) ?_
                  refine D_p rfl (.plain rfl) (p_rem rfl rfl rfl (by first | decide | omega)) ?_
                  refine D_p rfl (.plain rfl) (p_idx es53 rfl rfl rfl (by omega) (by omega)) ?_
                  refine D_rd rfl (.plain rfl) (r_loadB ag117 rfl rfl (hxc.zero) List.not_mem_nil) ?_
                  refine D_p rfl (.plain rfl) (p_convI un117 un3 rfl rfl (by unfold InI; omega)) ?_
                  refine D_p rfl (.plain rfl) (p_max rfl rfl rfl) ?_
                  refine D_p rfl (.plain rfl) (p_mul' rfl rfl rfl ((mul127 (A := 10000000) (a := (t.trackers.getD (t.pl k.toNat).tracker.toNat trZ).error) ⟨he0, he1⟩ (by decide) h8.2).1)) ?_
                  refine D_p rfl (.plain rfl) (p_quo' rfl rfl rfl (by first | decide | omega) ((mul127 (A := 10000000) (a := (t.trackers.getD (t.pl k.toNat).tracker.toNat trZ).error) ⟨he0, he1⟩ (by decide) h8.2).2.1)) ?_
                  refine D_p rfl (.plain rfl) (p_idxao ar64 rfl rfl rfl (by omega) (by omega)) ?_
                  refine D_wr (.go (E' := []) rfl (.plain rfl) (w_store (cs' := (vec3 (upd wf m.toNat _)).toList) sz3 rfl rfl rfl rfl rfl (by repeat first | exact .head | apply SetAt.tail | apply SetAt.app) (by show 0 + _ * 1 + 1 ≤ 3; omega) (vec_set (by omega) (by omega))) rfl ?_)
                  rintro _ _ ⟨rfl, rfl⟩
                  refine ⟨.nil, ?_⟩
                  refine D_keep (.cons (k := 2) rfl (.cons (k := 3) rfl (.cons (k := 4) rfl (.cons (k := 6) rfl (.cons (k := 12) rfl (.cons (k := 14) rfl (.cons (k := 15) rfl (.cons (k := 16) rfl (.cons (k := 19) rfl (.cons (k := 20) rfl .nil)))))))))) (blk_n (then_n ?_))
                  refine V_region rfl ?_
                  refine L_go rfl (X_p (p_move rfl rfl) ?_)
                  first | refine L_go rfl (X_p (p_add' rfl rfl rfl (by unfold InI; omega)) ?_) | refine L_go rfl (X_p (p_add rfl rfl rfl) ?_)
                  refine L_go rfl (X_p (p_assign rfl rfl) ?_)
                  refine L_keep (.cons (k := 2) rfl (.cons (k := 3) rfl (.cons (k := 4) rfl (.cons (k := 6) rfl (.cons (k := 12) rfl (.cons (k := 14) rfl (.cons (k := 15) rfl (.cons (k := 16) rfl (.cons (k := 19) rfl (.cons (k := 20) rfl .nil)))))))))) (then_n ?_)
                  refine ⟨(m + 1, upd wf m.toNat _), ?_, ?_, (.cons rfl (.cons rfl (.cons rfl (.cons rfl (.cons rfl (.cons rfl (.cons rfl (.cons rfl (.cons rfl (.cons rfl (.nil _))))))))))), (by repeat (first | exact List.nil_sublist _ | exact List.Sublist.refl _ | apply List.Sublist.cons_cons | apply List.Sublist.cons | apply List.sublist_append_of_sublist_right)), rfl⟩
                  · have e : (m + 1).toNat = m.toNat + 1 := by omega
                    refine ⟨by omega, by omega, ?_⟩
                    rw [e]
                    exact hW.step (by omega) hn0 (m := ((3 * k + m).tmod ((p.wrong.length : Nat) : Int)).toNat) (by rw [hme]; congr 1; omega) rfl
                  · dsimp only; omega
                · intro c4; have c4r := c4; try simp only [td] at c4
                  have w0 := hW.end (.inr (by omega)) (j := 0) (by decide)
                  have w1 := hW.end (.inr (by omega)) (j := 1) (by decide)
                  have w2 := hW.end (.inr (by omega)) (j := 2) (by decide)
                  have a0 := wrong_bnd hG hpr.ok (i := k.toNat) (by omega) 0
                  have a1 := wrong_bnd hG hpr.ok (i := k.toNat) (by omega) 1
                  have a2 := wrong_bnd hG hpr.ok (i := k.toNat) (by omega) 2
                  refine V_exit (then_e (then_e (blk_e rfl (then_n ?_))))
                  refine V_draw (.rd 0 (.rd 1 (.rd 2 (.rd 3 (.rd 4 (.rd 5 (.rd 6 (.rd 7 (.rd 8 (.rd 9 (.rd 10 (.rd 11 (.rd 12 (.rd 13 (.rd 14 (.rd 15 (.rd 16 (.rd 17 (.rd 18 (.rd 19 (.wr 20 [18, 17, 16, 15, 14, 13, 12, 11, 10, 9, 8, 2, 1] (.rd 21 (.rd 22 (.wr 23 [21, 17, 16, 15, 14, 13, 2] (.rd 24 (.rd 25 (.wr 26 [24] .done))))))))))))))))))))))))))) mixed (by kernel_rfl) rfl ?_
                  refine D_p rfl (.plain rfl) (p_move rfl rfl) ?_
                  refine D_p rfl (.plain rfl) (p_move rfl rfl) ?_
                  refine D_p rfl (.plain rfl) (p_move rfl rfl) ?_
                  refine D_p rfl (.plain rfl) (p_idxao ar64 rfl rfl rfl (by omega) (by omega)) ?_
                  refine D_rd rfl (.plain rfl) (r_load ag3 rfl rfl (by repeat first | exact mH | apply mT | apply List.mem_append_right) rfl) ?_
                  refine D_p rfl (.plain rfl) (p_idxao ar64 rfl rfl rfl (by omega) (by omega)) ?_
                  refine D_rd rfl (.plain rfl) (r_load ag3 rfl rfl (by repeat first | exact mH | apply mT | apply List.mem_append_right) rfl) ?_
                  refine D_p rfl (.plain rfl) (p_add' rfl rfl rfl (by show InI (spotP t p 0 (t.pl k.toNat).tick + wf 0); unfold InI; omega)) ?_
                  refine D_p rfl (.plain rfl) (p_idxao ar64 rfl rfl rfl (by omega) (by omega)) ?_
                  refine D_rd rfl (.plain rfl) (r_load ag3 rfl rfl (by repeat first | exact mH | apply mT | apply List.mem_append_right) rfl) ?_
                  refine D_p rfl (.plain rfl) (p_idxao ar64 rfl rfl rfl (by omega) (by omega)) ?_
                  refine D_rd rfl (.plain rfl) (r_load ag3 rfl rfl (by repeat first | exact mH | apply mT | apply List.mem_append_right) rfl) ?_
                  refine D_p rfl (.plain rfl) (p_add' rfl rfl rfl (by show InI (spotP t p 1 (t.pl k.toNat).tick + wf 1); unfold InI; omega)) ?_
                  refine D_p rfl (.plain rfl) (p_idxao ar64 rfl rfl rfl (by omega) (by omega)) ?_
                  refine D_rd rfl (.plain rfl) (r_load ag3 rfl rfl (by repeat first | exact mH | apply mT | apply List.mem_append_right) rfl) ?_
                  refine D_p rfl (.plain rfl) (p_idxao ar64 rfl rfl rfl (by omega) (by omega)) ?_
                  refine D_rd rfl (.plain rfl) (r_load ag3 rfl rfl (by repeat first | exact mH | apply mT | apply List.mem_append_right) rfl) ?_
                  refine D_p rfl (.plain rfl) (p_add' rfl rfl rfl (by show InI (spotP t p 2 (t.pl k.toNat).tick + wf 2); unfold InI; omega)) ?_
                  refine D_p rfl (.plain rfl) (p_nil rfl rfl) ?_
                  refine D_p rfl (.plain rfl) (p_fieldo fo114_2 rfl rfl) ?_
                  refine D_wr (.go (E' := [(16, _), (14, _), (11, _), (9, _)]) rfl (.plain rfl) (w_store (cs' := (cur.toList.set (0 + k.toNat * 5 + 2) (.int .i64 (spotP t p 0 (t.pl k.toNat).tick + wf 0)))) sz3 rfl rfl rfl rfl rfl (by repeat first | exact .head | apply SetAt.tail | apply SetAt.app) (by simp only [List.length_set, Array.length_toList, List.size_toArray, hcs]; omega) rfl) rfl ?_)
                  rintro _ _ ⟨rfl, rfl⟩
                  refine ⟨(.cons rfl (.plain rfl) (r_load ag3 rfl rfl (by repeat first | exact mH | apply mT | apply List.mem_append_right) rfl) (.cons rfl (.plain rfl) (r_load ag3 rfl rfl (by repeat first | exact mH | apply mT | apply List.mem_append_right) rfl) (.cons rfl (.plain rfl) (r_load ag3 rfl rfl (by repeat first | exact mH | apply mT | apply List.mem_append_right) rfl) (.cons rfl (.plain rfl) (r_load ag3 rfl rfl (by repeat first | exact mH | apply mT | apply List.mem_append_right) rfl) .nil)))), ?_⟩
                  refine D_p rfl (.plain rfl) (p_nil rfl rfl) ?_
                  refine D_p rfl (.plain rfl) (p_fieldo fo114_3 rfl rfl) ?_
                  refine D_wr (.go (E' := [(16, _), (14, _)]) rfl (.plain rfl) (w_store (cs' := ((cur.toList.set (0 + k.toNat * 5 + 2) (.int .i64 (spotP t p 0 (t.pl k.toNat).tick + wf 0))).set (0 + k.toNat * 5 + 3) (.int .i64 (spotP t p 1 (t.pl k.toNat).tick + wf 1)))) sz3 rfl rfl rfl rfl rfl (by repeat first | exact .head | apply SetAt.tail | apply SetAt.app) (by simp only [List.length_set, Array.length_toList, List.size_toArray, hcs]; omega) rfl) rfl ?_)
                  rintro _ _ ⟨rfl, rfl⟩
                  refine ⟨(.cons rfl (.plain rfl) (r_load ag3 rfl rfl (by repeat first | exact mH | apply mT | apply List.mem_append_right) rfl) (.cons rfl (.plain rfl) (r_load ag3 rfl rfl (by repeat first | exact mH | apply mT | apply List.mem_append_right) rfl) .nil)), ?_⟩
                  refine D_p rfl (.plain rfl) (p_nil rfl rfl) ?_
                  refine D_p rfl (.plain rfl) (p_fieldo fo114_4 rfl rfl) ?_
                  refine D_wr (.go (E' := []) rfl (.plain rfl) (w_store (cs' := (((cur.toList.set (0 + k.toNat * 5 + 2) (.int .i64 (spotP t p 0 (t.pl k.toNat).tick + wf 0))).set (0 + k.toNat * 5 + 3) (.int .i64 (spotP t p 1 (t.pl k.toNat).tick + wf 1))).set (0 + k.toNat * 5 + 4) (.int .i64 (spotP t p 2 (t.pl k.toNat).tick + wf 2)))) sz3 rfl rfl rfl rfl rfl (by repeat first | exact .head | apply SetAt.tail | apply SetAt.app) (by simp only [List.length_set, Array.length_toList, List.size_toArray, hcs]; omega) rfl) rfl ?_)
                  rintro _ _ ⟨rfl, rfl⟩
                  refine ⟨.nil, ?_⟩
                  refine D_keep (.cons (k := 2) rfl (.cons (k := 3) rfl (.cons (k := 4) rfl (.cons (k := 6) rfl (.cons (k := 12) rfl (.cons (k := 14) rfl .nil)))))) (blk_n (then_n ?_))
                  refine V_region rfl ?_
                  refine L_go rfl (X_p (p_move rfl rfl) ?_)
                  first | refine L_go rfl (X_p (p_add' rfl rfl rfl (by unfold InI; omega)) ?_) | refine L_go rfl (X_p (p_add rfl rfl rfl) ?_)
                  refine L_go rfl (X_p (p_assign rfl rfl) ?_)
                  refine L_keep (.cons (k := 2) rfl (.cons (k := 3) rfl (.cons (k := 4) rfl (.cons (k := 6) rfl (.cons (k := 12) rfl (.cons (k := 14) rfl .nil)))))) (then_n ?_)
                  refine ⟨(k + 1, [(gb, _)]), ?_, ?_, (.cons rfl (.cons rfl (.cons rfl (.cons rfl (.cons rfl (.cons rfl (.nil _))))))), (by repeat (first | exact List.nil_sublist _ | exact List.Sublist.refl _ | apply List.Sublist.cons_cons | apply List.Sublist.cons | apply List.sublist_append_of_sublist_right)), rfl⟩
                  · refine ⟨by omega, by omega, ?_, ?_⟩
                    · rw [tellL_yes2 hk0 (by omega) hne (x := spotP t p 0 (t.pl k.toNat).tick + wf 0) (y := spotP t p 1 (t.pl k.toNat).tick + wf 1) (z := spotP t p 2 (t.pl k.toNat).tick + wf 2) (by rw [w0, (spotP_ok hso).1]) (by rw [w1, (spotP_ok hso).1]) (by rw [w2, (spotP_ok hso).1])]
                      exact Grow.sets hgn hgm hcs hcur (tellL_len _).symm (by rw [tellL_len]; omega)
                    · intro j hj hne2
                      by_cases e : j = k.toNat
                      · subst e; exact hsl
                      · exact hsp j (by omega) hne2
                  · dsimp only; omega
              · intro g3; have g3' := g3; try simp only [td] at g3'
                have w0 := hW.end (.inl (by omega)) (j := 0) (by decide)
                have w1 := hW.end (.inl (by omega)) (j := 1) (by decide)
                have w2 := hW.end (.inl (by omega)) (j := 2) (by decide)
                have a0 := wrong_bnd hG hpr.ok (i := k.toNat) (by omega) 0
                have a1 := wrong_bnd hG hpr.ok (i := k.toNat) (by omega) 1
                have a2 := wrong_bnd hG hpr.ok (i := k.toNat) (by omega) 2
                refine L_no rfl rfl rfl g3 ?_
                refine L_no rfl rfl rfl g3 ?_
                refine L_no rfl rfl rfl g3 ?_
                refine L_no rfl rfl rfl g3 ?_
                refine L_go rfl (X_p (p_pick_f rfl rfl g3 rfl) ?_)
                refine L_then (.cons (k := 2) rfl (.cons (k := 3) rfl (.cons (k := 4) rfl (.cons (k := 6) rfl (.cons (k := 12) rfl (.cons (k := 14) rfl (.cons (k := 15) rfl (.cons (k := 16) rfl (.cons (k := 19) rfl (.cons (k := 20) rfl (.cons (k := 119) rfl .nil))))))))))) ?_
                refine V_cond_f rfl rfl ?_
                refine V_exit (then_e (then_e (blk_e rfl (then_n ?_))))
                refine V_draw (.rd 0 (.rd 1 (.rd 2 (.rd 3 (.rd 4 (.rd 5 (.rd 6 (.rd 7 (.rd 8 (.rd 9 (.rd 10 (.rd 11 (.rd 12 (.rd 13 (.rd 14 (.rd 15 (.rd 16 (.rd 17 (.rd 18 (.rd 19 (.wr 20 [18, 17, 16, 15, 14, 13, 12, 11, 10, 9, 8, 2, 1] (.rd 21 (.rd 22 (.wr 23 [21, 17, 16, 15, 14, 13, 2] (.rd 24 (.rd 25 (.wr 26 [24] .done))))))))))))))))))))))))))) mixed (by kernel_rfl) rfl ?_
                refine D_p rfl (.plain rfl) (p_move rfl rfl) ?_
                refine D_p rfl (.plain rfl) (p_move rfl rfl) ?_
                refine D_p rfl (.plain rfl) (p_move rfl rfl) ?_
                refine D_p rfl (.plain rfl) (p_idxao ar64 rfl rfl rfl (by omega) (by omega)) ?_
                refine D_rd rfl (.plain rfl) (r_load ag3 rfl rfl (by repeat first | exact mH | apply mT | apply List.mem_append_right) rfl) ?_
                refine D_p rfl (.plain rfl) (p_idxao ar64 rfl rfl rfl (by omega) (by omega)) ?_
                refine D_rd rfl (.plain rfl) (r_load ag3 rfl rfl (by repeat first | exact mH | apply mT | apply List.mem_append_right) rfl) ?_
                refine D_p rfl (.plain rfl) (p_add' rfl rfl rfl (by show InI (spotP t p 0 (t.pl k.toNat).tick + wf 0); unfold InI; omega)) ?_
                refine D_p rfl (.plain rfl) (p_idxao ar64 rfl rfl rfl (by omega) (by omega)) ?_
                refine D_rd rfl (.plain rfl) (r_load ag3 rfl rfl (by repeat first | exact mH | apply mT | apply List.mem_append_right) rfl) ?_
                refine D_p rfl (.plain rfl) (p_idxao ar64 rfl rfl rfl (by omega) (by omega)) ?_
                refine D_rd rfl (.plain rfl) (r_load ag3 rfl rfl (by repeat first | exact mH | apply mT | apply List.mem_append_right) rfl) ?_
                refine D_p rfl (.plain rfl) (p_add' rfl rfl rfl (by show InI (spotP t p 1 (t.pl k.toNat).tick + wf 1); unfold InI; omega)) ?_
                refine D_p rfl (.plain rfl) (p_idxao ar64 rfl rfl rfl (by omega) (by omega)) ?_
                refine D_rd rfl (.plain rfl) (r_load ag3 rfl rfl (by repeat first | exact mH | apply mT | apply List.mem_append_right) rfl) ?_
                refine D_p rfl (.plain rfl) (p_idxao ar64 rfl rfl rfl (by omega) (by omega)) ?_
                refine D_rd rfl (.plain rfl) (r_load ag3 rfl rfl (by repeat first | exact mH | apply mT | apply List.mem_append_right) rfl) ?_
                refine D_p rfl (.plain rfl) (p_add' rfl rfl rfl (by show InI (spotP t p 2 (t.pl k.toNat).tick + wf 2); unfold InI; omega)) ?_
                refine D_p rfl (.plain rfl) (p_nil rfl rfl) ?_
                refine D_p rfl (.plain rfl) (p_fieldo fo114_2 rfl rfl) ?_
                refine D_wr (.go (E' := [(16, _), (14, _), (11, _), (9, _)]) rfl (.plain rfl) (w_store (cs' := (cur.toList.set (0 + k.toNat * 5 + 2) (.int .i64 (spotP t p 0 (t.pl k.toNat).tick + wf 0)))) sz3 rfl rfl rfl rfl rfl (by repeat first | exact .head | apply SetAt.tail | apply SetAt.app) (by simp only [List.length_set, Array.length_toList, List.size_toArray, hcs]; omega) rfl) rfl ?_)
                rintro _ _ ⟨rfl, rfl⟩
                refine ⟨(.cons rfl (.plain rfl) (r_load ag3 rfl rfl (by repeat first | exact mH | apply mT | apply List.mem_append_right) rfl) (.cons rfl (.plain rfl) (r_load ag3 rfl rfl (by repeat first | exact mH | apply mT | apply List.mem_append_right) rfl) (.cons rfl (.plain rfl) (r_load ag3 rfl rfl (by repeat first | exact mH | apply mT | apply List.mem_append_right) rfl) (.cons rfl (.plain rfl) (r_load ag3 rfl rfl (by repeat first | exact mH | apply mT | apply List.mem_append_right) rfl) .nil)))), ?_⟩
                refine D_p rfl (.plain rfl) (p_nil rfl rfl) ?_
                refine D_p rfl (.plain rfl) (p_fieldo fo114_3 rfl rfl) ?_
                refine D_wr (.go (E' := [(16, _), (14, _)]) rfl (.plain rfl) (w_store (cs' := ((cur.toList.set (0 + k.toNat * 5 + 2) (.int .i64 (spotP t p 0 (t.pl k.toNat).tick + wf 0))).set (0 + k.toNat * 5 + 3) (.int .i64 (spotP t p 1 (t.pl k.toNat).tick + wf 1)))) sz3 rfl rfl rfl rfl rfl (by repeat first | exact .head | apply SetAt.tail | apply SetAt.app) (by simp only [List.length_set, Array.length_toList, List.size_toArray, hcs]; omega) rfl) rfl ?_)
                rintro _ _ ⟨rfl, rfl⟩
                refine ⟨(.cons rfl (.plain rfl) (r_load ag3 rfl rfl (by repeat first | exact mH | apply mT | apply List.mem_append_right) rfl) (.cons rfl (.plain rfl) (r_load ag3 rfl rfl (by repeat first | exact mH | apply mT | apply List.mem_append_right) rfl) .nil)), ?_⟩
                refine D_p rfl (.plain rfl) (p_nil rfl rfl) ?_
                refine D_p rfl (.plain rfl) (p_fieldo fo114_4 rfl rfl) ?_
                refine D_wr (.go (E' := []) rfl (.plain rfl) (w_store (cs' := (((cur.toList.set (0 + k.toNat * 5 + 2) (.int .i64 (spotP t p 0 (t.pl k.toNat).tick + wf 0))).set (0 + k.toNat * 5 + 3) (.int .i64 (spotP t p 1 (t.pl k.toNat).tick + wf 1))).set (0 + k.toNat * 5 + 4) (.int .i64 (spotP t p 2 (t.pl k.toNat).tick + wf 2)))) sz3 rfl rfl rfl rfl rfl (by repeat first | exact .head | apply SetAt.tail | apply SetAt.app) (by simp only [List.length_set, Array.length_toList, List.size_toArray, hcs]; omega) rfl) rfl ?_)
                rintro _ _ ⟨rfl, rfl⟩
                refine ⟨.nil, ?_⟩
                refine D_keep (.cons (k := 2) rfl (.cons (k := 3) rfl (.cons (k := 4) rfl (.cons (k := 6) rfl (.cons (k := 12) rfl (.cons (k := 14) rfl .nil)))))) (blk_n (then_n ?_))
                refine V_region rfl ?_
                refine L_go rfl (X_p (p_move rfl rfl) ?_)
                first | refine L_go rfl (X_p (p_add' rfl rfl rfl (by unfold InI; omega)) ?_) | refine L_go rfl (X_p (p_add rfl rfl rfl) ?_)
                refine L_go rfl (X_p (p_assign rfl rfl) ?_)
                refine L_keep (.cons (k := 2) rfl (.cons (k := 3) rfl (.cons (k := 4) rfl (.cons (k := 6) rfl (.cons (k := 12) rfl (.cons (k := 14) rfl .nil)))))) (then_n ?_)
                refine ⟨(k + 1, [(gb, _)]), ?_, ?_, (.cons rfl (.cons rfl (.cons rfl (.cons rfl (.cons rfl (.cons rfl (.nil _))))))), (by repeat (first | exact List.nil_sublist _ | exact List.Sublist.refl _ | apply List.Sublist.cons_cons | apply List.Sublist.cons | apply List.sublist_append_of_sublist_right)), rfl⟩
                · refine ⟨by omega, by omega, ?_, ?_⟩
                  · rw [tellL_yes2 hk0 (by omega) hne (x := spotP t p 0 (t.pl k.toNat).tick + wf 0) (y := spotP t p 1 (t.pl k.toNat).tick + wf 1) (z := spotP t p 2 (t.pl k.toNat).tick + wf 2) (by rw [w0, (spotP_ok hso).1]) (by rw [w1, (spotP_ok hso).1]) (by rw [w2, (spotP_ok hso).1])]
                    exact Grow.sets hgn hgm hcs hcur (tellL_len _).symm (by rw [tellL_len]; omega)
                  · intro j hj hne2
                    by_cases e : j = k.toNat
                    · subst e; exact hsl
                    · exact hsp j (by omega) hne2
                · dsimp only; omega
      · intro c2; have c2r := c2; try simp only [td] at c2
        have ek : k.toNat = t.plots.length := by omega
        rw [ek] at hgs
        refine V_exit (then_e (then_e (blk_e rfl (then_n ?_))))
        refine V_seq (V_region rfl ?_)
        refine L_go rfl (X_rd (r_loadA (vs := [_, _, _, _, _]) ag25 sz25 rfl rfl (by repeat first | exact mH | apply mT | apply List.mem_append_right) rfl) ?_)
        refine L_go rfl (X_wr (w_callP rfl rfl rfl (fun w hg => check_c (tellT t p but) _ w (TaskR.withPlots (t := t) (hT.good hg) (Grow.rows (els := (tellT t p but).plots.map Plot.cells) hgs pl_len (by rw [List.length_map]; exact (tellL_len _).symm) (fun p hp => hg.own p (by repeat first | exact hp | exact List.mem_append_left _ hp | apply List.mem_append_right | apply mT))) (by show ((tellL t p but t.plots.length).length : Int) ≤ _; rw [tellL_len]; omega)))) ?_)
        rintro _ _ ⟨rfl, rfl⟩
        refine L_go rfl (X_p (p_move rfl rfl) ?_)
        refine L_go rfl (X_p (p_ext rfl rfl rfl) ?_)
        refine L_go rfl (X_p (p_ext rfl rfl rfl) ?_)
        refine L_go rfl (X_p (p_ext rfl rfl rfl) ?_)
        refine L_go rfl (X_p (p_assign rfl rfl) ?_)
        refine L_then (.cons (k := 4) rfl (.cons (k := 6) rfl (.cons (k := 11) rfl (.cons (k := 12) rfl .nil)))) ?_
        refine V_seq (V_region rfl ?_)
        refine L_go rfl (X_rd (r_loadA (vs := [_, _, _, _, _]) ag25 sz25 rfl rfl (by repeat first | exact mH | apply mT | apply List.mem_append_right) rfl) ?_)
        refine L_go rfl (X_p (p_move rfl rfl) ?_)
        refine L_go rfl (X_p (p_move rfl rfl) ?_)
        refine L_go rfl (X_p (p_eql rfl rfl rfl) ?_)
        refine L_go rfl (X_wr (w_store (cs' := [_, _, _, _, _]) sz25 rfl rfl rfl rfl rfl (by repeat first | exact .head | apply SetAt.tail) (Nat.le_of_ble_eq_true rfl) rfl) ?_)
        rintro _ _ ⟨rfl, rfl⟩
        refine L_go rfl (X_p (p_assign rfl rfl) ?_)
        refine L_go rfl (X_p (p_assign rfl rfl) ?_)
        refine L_then (.cons (k := 6) rfl (.cons (k := 7) rfl (.cons (k := 8) rfl .nil))) ?_
        refine V_ret ?_
        refine Leave.nil (.cellA (us := [_, _, _, _, _]) rfl ag25 sz25 (by repeat first | exact mH | apply mT | apply List.mem_append_right) rfl (.tmp rfl (.tmp rfl .nil))) ?_
        exact ⟨G1 ++ GS, (by (try dsimp only); repeat (first | exact HSub.nil _ | refine HSub.take (by repeat first | exact Take.head | apply Take.tail) ?_ | exact HSub.refl _ | refine HSub.drop ?_ | refine HSub.app ?_)), G1, GS, rfl, _, GSa, ra, _, GSc, 602, rc, _, rfl, fun h => ⟨hG, good_of_check (of_decide_eq_true h), rfl, rfl, rfl, hsm, fun j hj hne => hsp j (by omega) hne, hgs, hgr1⟩⟩

end Go.Proofs.Ytclbbchehjapjab
