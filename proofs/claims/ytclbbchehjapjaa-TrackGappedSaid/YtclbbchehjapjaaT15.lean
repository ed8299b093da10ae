/- Ytclbbchehjapjaa: the reference's places. -/
import Derived.Test.YtclbbchehjapjaaT13
import Derived.Test.YtclbbchehjapjaaV
set_option linter.all false
namespace Go.Proofs.Ytclbbchehjapjaa
open Go.Vc Go.Tk
set_option maxRecDepth 100000
theorem rpart_c (x : Plot) (k : Int) (w : World) : FnP Try.prog 110 [.agg (Plot.cells x).toArray, .int .i64 k] w (.int .i64 (partI x k)) := by
  refine fn_pure Try.func110 rfl (by kernel_rfl) Try.ntmps110 Try.results110 rfl ?_
  refine V_seq (V_region rfl ?_)
  refine L_go rfl (X_wr (w_box rfl rfl) ?_)
  rintro _ _ ⟨b1, hb1, rfl, rfl⟩
  refine L_go rfl (X_p (p_assign rfl rfl) ?_)
  refine L_then (.cons (k := 1) rfl (.cons (k := 2) rfl .nil)) ?_
  refine V_seq ?_
  refine V_seq (V_region rfl ?_)
  refine L_go rfl (X_p (p_move rfl rfl) ?_)
  refine L_go rfl (X_p (p_eql rfl rfl rfl) ?_)
  refine L_then (.cons (k := 1) rfl (.cons (k := 2) rfl (.cons (k := 6) rfl .nil))) ?_
  refine V_cond rfl ?_ ?_
  · intro c1; try simp only [td] at c1
    refine V_seq (V_region rfl ?_)
    refine L_go rfl (X_p (p_fieldo fo64_2 rfl rfl) ?_)
    refine L_go rfl (X_rd (r_load ag3 rfl rfl (by repeat first | exact mH | apply mT) rfl) ?_)
    refine L_go rfl (X_p (p_assign rfl rfl) ?_)
    refine L_then (.cons (k := 4) rfl .nil) ?_
    refine V_ret (then_r ?_)
    refine Leave.nil (.tmp rfl .nil) ?_
    simp [tup, partI, *]
  · intro c1; try simp only [td] at c1
    refine V_skip (then_n ?_)
    refine V_seq ?_
    refine V_seq (V_region rfl ?_)
    refine L_go rfl (X_p (p_move rfl rfl) ?_)
    refine L_go rfl (X_p (p_eql rfl rfl rfl) ?_)
    refine L_then (.cons (k := 2) rfl (.cons (k := 10) rfl .nil)) ?_
    refine V_cond rfl ?_ ?_
    · intro c2; try simp only [td] at c2
      refine V_seq (V_region rfl ?_)
      refine L_go rfl (X_p (p_fieldo fo64_3 rfl rfl) ?_)
      refine L_go rfl (X_rd (r_load ag3 rfl rfl (by repeat first | exact mH | apply mT) rfl) ?_)
      refine L_go rfl (X_p (p_assign rfl rfl) ?_)
      refine L_then (.cons (k := 4) rfl .nil) ?_
      refine V_ret (then_r ?_)
      refine Leave.nil (.tmp rfl .nil) ?_
      simp [tup, partI, *]
    · intro c2; try simp only [td] at c2
      refine V_skip (then_n ?_)
      refine V_seq (V_region rfl ?_)
      refine L_go rfl (X_p (p_fieldo fo64_4 rfl rfl) ?_)
      refine L_go rfl (X_rd (r_load ag3 rfl rfl (by repeat first | exact mH | apply mT) rfl) ?_)
      refine L_go rfl (X_p (p_assign rfl rfl) ?_)
      refine L_then (.cons (k := 4) rfl .nil) ?_
      refine V_ret ?_
      refine Leave.nil (.tmp rfl .nil) ?_
      simp [tup, partI, *]
theorem rcommon_c (a b c d : Int) (w : World) : FnP Try.prog 102 [.agg #[.int .i64 a, .int .i64 b], .agg #[.int .i64 c, .int .i64 d]] w (.agg #[.int .i64 (max a c), .int .i64 (min b d)]) := by
  refine fn_pure Try.func102 rfl (by kernel_rfl) Try.ntmps102 Try.results102 rfl ?_
  refine V_seq (V_region rfl ?_)
  refine L_go rfl (X_wr (w_box rfl rfl) ?_)
  rintro _ _ ⟨b1, hb1, rfl, rfl⟩
  refine L_go rfl (X_wr (w_box rfl rfl) ?_)
  rintro _ _ ⟨b2, hb2, rfl, rfl⟩
  refine L_go rfl (X_wr (w_alloc zr33 rfl) ?_)
  rintro _ _ ⟨b3, hb3, rfl, rfl⟩
  refine L_then (.cons (k := 2) rfl (.cons (k := 3) rfl (.cons (k := 4) rfl .nil))) ?_
  refine V_seq (V_region rfl ?_)
  refine L_go rfl (X_p (p_fieldo fo33_0 rfl rfl) ?_)
  refine L_go rfl (X_rd (r_load ag3 rfl rfl (by repeat first | exact mH | apply mT) rfl) ?_)
  refine L_go rfl (X_p (p_fieldo fo33_0 rfl rfl) ?_)
  refine L_go rfl (X_rd (r_load ag3 rfl rfl (by repeat first | exact mH | apply mT) rfl) ?_)
  refine L_go rfl (X_p (p_max rfl rfl rfl) ?_)
  refine L_go rfl (X_p (p_fieldo fo33_1 rfl rfl) ?_)
  refine L_go rfl (X_rd (r_load ag3 rfl rfl (by repeat first | exact mH | apply mT) rfl) ?_)
  refine L_go rfl (X_p (p_fieldo fo33_1 rfl rfl) ?_)
  refine L_go rfl (X_rd (r_load ag3 rfl rfl (by repeat first | exact mH | apply mT) rfl) ?_)
  refine L_go rfl (X_p (p_min rfl rfl rfl) ?_)
  refine L_go rfl (X_p (p_build (r := [_, _]) pl33 zr33 rfl rfl rfl) ?_)
  refine L_go rfl (X_wr (w_store (cs' := [_, _]) sz33 rfl rfl rfl rfl rfl (by repeat first | exact .head | apply SetAt.tail) (Nat.le_of_ble_eq_true rfl) rfl) ?_)
  rintro _ _ ⟨rfl, rfl⟩
  refine L_then (.cons (k := 4) rfl .nil) ?_
  refine V_ret ?_
  refine Leave.nil (.cellA (us := [_, _]) rfl ag33 sz33 (by repeat first | exact mH | apply mT) rfl .nil) ?_
  rfl
theorem raround_c (n d : Int) (hn : -1000000000000000000 ≤ n ∧ n ≤ 1000000000000000000) (hd : -1000000000000000000 ≤ d ∧ d ≤ 1000000000000000000) (w : World) : FnP Try.prog 109 [.int .i64 n, .int .i64 d] w (.agg #[.int .i64 (n - d), .int .i64 (n + d)]) := by
  refine fn_pure Try.func109 rfl (by kernel_rfl) Try.ntmps109 Try.results109 rfl ?_
  refine V_seq (V_region rfl ?_)
  refine L_go rfl (X_wr (w_alloc zr33 rfl) ?_)
  rintro _ _ ⟨b1, hb1, rfl, rfl⟩
  refine L_then (.cons (k := 0) rfl (.cons (k := 1) rfl (.cons (k := 4) rfl .nil))) ?_
  refine V_seq (V_region rfl ?_)
  refine L_go rfl (X_p (p_move rfl rfl) ?_)
  refine L_go rfl (X_p (p_move rfl rfl) ?_)
  first | refine L_go rfl (X_p (p_sub' rfl rfl rfl (by unfold InI; omega)) ?_) | refine L_go rfl (X_p (p_sub rfl rfl rfl) ?_)
  refine L_go rfl (X_p (p_move rfl rfl) ?_)
  refine L_go rfl (X_p (p_move rfl rfl) ?_)
  first | refine L_go rfl (X_p (p_add' rfl rfl rfl (by unfold InI; omega)) ?_) | refine L_go rfl (X_p (p_add rfl rfl rfl) ?_)
  refine L_go rfl (X_p (p_build (r := [_, _]) pl33 zr33 rfl rfl rfl) ?_)
  refine L_go rfl (X_wr (w_store (cs' := [_, _]) sz33 rfl rfl rfl rfl rfl (by repeat first | exact .head | apply SetAt.tail) (Nat.le_of_ble_eq_true rfl) rfl) ?_)
  rintro _ _ ⟨rfl, rfl⟩
  refine L_then (.cons (k := 4) rfl .nil) ?_
  refine V_ret ?_
  refine Leave.nil (.cellA (us := [_, _]) rfl ag33 sz33 (by repeat first | exact mH | apply mT) rfl .nil) ?_
  rfl
theorem rnone_c (lo hi : Int) (w : World) : FnP Try.prog 99 [.agg #[.int .i64 lo, .int .i64 hi]] w (.bool (Span.none ⟨lo, hi⟩)) := by
  refine fn_pure Try.func99 rfl (by kernel_rfl) Try.ntmps99 Try.results99 rfl ?_
  refine V_seq (V_region rfl ?_)
  refine L_go rfl (X_wr (w_box rfl rfl) ?_)
  rintro _ _ ⟨b1, hb1, rfl, rfl⟩
  refine L_go rfl (X_p (p_assign rfl rfl) ?_)
  refine L_then (.cons (k := 1) rfl .nil) ?_
  refine V_seq (V_region rfl ?_)
  refine L_go rfl (X_p (p_fieldo fo33_0 rfl rfl) ?_)
  refine L_go rfl (X_rd (r_load ag3 rfl rfl (by repeat first | exact mH | apply mT) rfl) ?_)
  refine L_go rfl (X_p (p_fieldo fo33_1 rfl rfl) ?_)
  refine L_go rfl (X_rd (r_load ag3 rfl rfl (by repeat first | exact mH | apply mT) rfl) ?_)
  refine L_go rfl (X_p (p_gtr rfl rfl rfl) ?_)
  refine L_go rfl (X_p (p_assign rfl rfl) ?_)
  refine L_then (.cons (k := 2) rfl .nil) ?_
  refine V_ret ?_
  refine Leave.nil (.tmp rfl .nil) ?_
  rfl
theorem rsizeA_c (a b : Int) (h : (-1000000000000000 ≤ a - b ∧ a - b ≤ 1000000000000000)) (w : World) : FnP Try.prog 95 [.int .i64 (a - b)] w (.int .i64 (apartI a b)) := by
  rw [apart_size]; exact rsize_c _ (by omega) w
set_option maxHeartbeats 4000000 in
theorem rplaces_c (t : Task) (v : Value) (ps : List Int) (sv : Value) (w : World) (ht : TaskR w v t) (hs : SliceR w 1 sv (ps.map fun n => [Value.int .i64 n])) (hG : GoodT t) (hp : ∀ i ∈ ps, 0 ≤ i ∧ i < t.plots.length) (hl : ps.length ≤ 60) (k u : Int) (hu : u ≤ 100000) : FnP Try.prog 98 [v, sv, .int .i64 k, .int .i64 u] w (.agg #[.int .i64 (placeT t ps k u).lo, .int .i64 (placeT t ps k u).hi]) := by
  have hT := ht
  obtain ⟨tv, pv, rfl, htr, hpl⟩ := ht.ex
  obtain ⟨ta, tc, rfl, htc, hte⟩ := htr.ex
  obtain ⟨pa, pc, rfl, hpc, hpe⟩ := hpl.ex
  have hltr := hT.ltr
  have hlpl := hT.lpl
  simp only [List.length_map] at hT htc hpc ⊢
  have hS := hs
  obtain ⟨sa, sc, rfl, hsc, hse⟩ := hs.ex
  obtain ⟨hfrm, hspd, hacc⟩ := hG.nums
  have hpl60 := hG.h2
  simp only [List.length_map] at hS hsc ⊢
  refine fn_pure Try.func98 rfl (by kernel_rfl) Try.ntmps98 Try.results98 rfl ?_
  refine V_seq (V_region rfl ?_)
  refine L_go rfl (X_wr (w_box rfl rfl) ?_)
  rintro _ _ ⟨b1, hb1, rfl, rfl⟩
  refine L_go rfl (X_wr (w_alloc zr33 rfl) ?_)
  rintro _ _ ⟨b2, hb2, rfl, rfl⟩
  refine L_then (.cons (k := 1) rfl (.cons (k := 2) rfl (.cons (k := 3) rfl (.cons (k := 4) rfl (.cons (k := 8) rfl .nil))))) ?_
  refine V_seq ?_
  refine V_seq (V_region rfl ?_)
  refine L_go rfl (X_p (p_move rfl rfl) ?_)
  refine L_go rfl (X_p (p_fieldo fo25_0 rfl rfl) ?_)
  refine L_go rfl (X_rd (r_load ag3 rfl rfl (by repeat first | exact mH | apply mT) rfl) ?_)
  refine L_go rfl (X_p (p_leq rfl rfl rfl) ?_)
  refine L_then (.cons (k := 1) rfl (.cons (k := 2) rfl (.cons (k := 3) rfl (.cons (k := 4) rfl (.cons (k := 8) rfl (.cons (k := 15) rfl .nil)))))) ?_
  refine V_cond rfl ?_ ?_
  · intro c1; try simp only [td] at c1
    refine V_seq (V_region rfl ?_)
    refine L_go rfl (X_p (p_build (r := [_, _]) pl33 zr33 rfl rfl rfl) ?_)
    refine L_go rfl (X_wr (w_store (cs' := [_, _]) sz33 rfl rfl rfl rfl rfl (by repeat first | exact .head | apply SetAt.tail) (Nat.le_of_ble_eq_true rfl) rfl) ?_)
    rintro _ _ ⟨rfl, rfl⟩
    refine L_then (.cons (k := 8) rfl .nil) ?_
    refine V_ret (then_r ?_)
    refine Leave.nil (.cellA (us := [_, _]) rfl ag33 sz33 (by repeat first | exact mH | apply mT) rfl .nil) ?_
    rw [placeT, if_neg (by omega)]; rfl
  · intro c1; try simp only [td] at c1
    have hrb := reachT_bnd hG (n := u - t.frm) (by omega)
    refine V_skip (then_n ?_)
    refine V_mid (γ := Nat) (.cons (k := 1) rfl (.cons (k := 2) rfl (.cons (k := 3) rfl (.cons (k := 4) rfl (.cons (k := 8) rfl .nil))))) (fun x9 => [(9, .pointer (some ⟨x9, 0, none⟩))]) (fun x9 => [(x9, .cells #[.int .i64 (common (aroundS 0 2000000000) (aroundS 0 (reachT t (u - t.frm)))).lo, .int .i64 (common (aroundS 0 2000000000) (aroundS 0 (reachT t (u - t.frm)))).hi] 33), (b2, .cells #[.int .i64 0, .int .i64 0] 33), (b1, t.obj (.slice ta t.trackers.length tc) (.slice pa t.plots.length pc) 25)]) (fun x9 => True) ?_ ?_
    · refine V_draw (.rd 1 (.rd 2 (.rd 3 (.rd 4 (.rd 5 (.wr2 0 [5, 4, 3, 2, 1] (.wr2 6 [4, 3, 2] (.wr2 7 [5, 4, 3, 2, 1] (.wr2 8 [5, 4, 3, 2, 1] (.wr 9 [5, 4, 3, 2, 1] (.wr 10 [] .done)) 9 [5, 4, 3, 2, 1] (.wr 8 [5, 4, 3, 2, 1] (.wr 10 [] .done))) 9 [5, 4, 3, 2, 1] (.wr 7 [5, 4, 3, 2, 1] (.wr 8 [5, 4, 3, 2, 1] (.wr 10 [] .done)))) 9 [5, 4, 3, 2, 1] (.wr 6 [4, 3, 2] (.wr 7 [5, 4, 3, 2, 1] (.wr 8 [5, 4, 3, 2, 1] (.wr 10 [] .done))))) 9 [5, 4, 3, 2, 1] (.wr 0 [5, 4, 3, 2, 1] (.wr 6 [4, 3, 2] (.wr 7 [5, 4, 3, 2, 1] (.wr 8 [5, 4, 3, 2, 1] (.wr 10 [] .done))))))))))) mixed (by kernel_rfl) rfl ?_
      refine D_rd rfl (.plain rfl) (r_loadA (vs := [_, _, _, _, _]) ag25 sz25 rfl rfl (by repeat first | exact mH | apply mT) rfl) ?_
      refine D_p rfl (.plain rfl) (p_move rfl rfl) ?_
      refine D_p rfl (.plain rfl) (p_fieldo fo25_0 rfl rfl) ?_
      refine D_rd rfl (.plain rfl) (r_load ag3 rfl rfl (by repeat first | exact mH | apply mT) rfl) ?_
      first | refine D_p rfl (.plain rfl) (p_sub' rfl rfl rfl (by unfold InI; omega)) ?_ | refine D_p rfl (.plain rfl) (p_sub rfl rfl rfl) ?_
      refine D_wr2 rfl ?_ ?_
      · refine (.go (E' := [(4, _), (1, _)]) rfl (.plain rfl) (w_callP rfl rfl rfl (fun w hg => raround_c _ _ (by omega) (by omega) w)) rfl ?_)
        rintro _ _ ⟨rfl, rfl⟩
        refine ⟨(.cons rfl (.plain rfl) (r_load ag3 rfl rfl (by repeat first | exact mH | apply mT) rfl) (.cons rfl (.plain rfl) (r_loadA (vs := [_, _, _, _, _]) ag25 sz25 rfl rfl (by repeat first | exact mH | apply mT) rfl) .nil)), ?_⟩
        refine D_wr2 rfl ?_ ?_
        · refine (.go (E' := [(4, _)]) rfl (.plain rfl) (w_callP rfl rfl rfl (fun w hg => rreach_c t _ w (hT.good hg) hG _ (by omega))) rfl ?_)
          rintro _ _ ⟨rfl, rfl⟩
          refine ⟨(.cons rfl (.plain rfl) (r_load ag3 rfl rfl (by repeat first | exact mH | apply mT) rfl) .nil), ?_⟩
          refine D_wr2 rfl ?_ ?_
          · refine (.go (E' := [(4, _)]) rfl (.plain rfl) (w_callP rfl rfl rfl (fun w hg => raround_c _ _ (by omega) (by omega) w)) rfl ?_)
            rintro _ _ ⟨rfl, rfl⟩
            refine ⟨(.cons rfl (.plain rfl) (r_load ag3 rfl rfl (by repeat first | exact mH | apply mT) rfl) .nil), ?_⟩
            refine D_wr2 rfl ?_ ?_
            · refine (.go (E' := [(4, _)]) rfl (.plain rfl) (w_callP rfl rfl rfl (fun w hg => rcommon_c _ _ _ _ w)) rfl ?_)
              rintro _ _ ⟨rfl, rfl⟩
              refine ⟨(.cons rfl (.plain rfl) (r_load ag3 rfl rfl (by repeat first | exact mH | apply mT) rfl) .nil), ?_⟩
              refine D_wr (.go (E' := [(4, _)]) rfl (.plain rfl) (w_alloc zr33 rfl) rfl ?_)
              rintro _ _ ⟨b3, hb3, rfl, rfl⟩
              refine ⟨(.cons rfl (.plain rfl) (r_load ag3 rfl rfl (by repeat first | exact mH | apply mT) rfl) .nil), ?_⟩
              refine D_wr (.go (E' := []) rfl (.plain rfl) (w_store (cs' := [_, _]) sz33 rfl rfl rfl rfl rfl (by repeat first | exact .head | apply SetAt.tail) (Nat.le_of_ble_eq_true rfl) rfl) rfl ?_)
              rintro _ _ ⟨rfl, rfl⟩
              refine ⟨.nil, ?_⟩
              refine D_then (.cons (k := 1) rfl (.cons (k := 2) rfl (.cons (k := 3) rfl (.cons (k := 4) rfl (.cons (k := 8) rfl (.cons (k := 9) rfl .nil)))))) ?_
              refine ⟨b3, trivial, (.cons rfl (.cons rfl (.cons rfl (.cons rfl (.cons rfl (.cons rfl (.nil _))))))), (by (try dsimp only); repeat (first | exact HSub.nil _ | refine HSub.take (by repeat first | exact Take.head | apply Take.tail) ?_ | exact HSub.refl _ | refine HSub.drop ?_ | refine HSub.app ?_)), rfl⟩
            · refine (.go (E' := [(4, _)]) rfl (.plain rfl) (w_alloc zr33 rfl) rfl ?_)
              rintro _ _ ⟨b3, hb3, rfl, rfl⟩
              refine ⟨(.cons rfl (.plain rfl) (r_load ag3 rfl rfl (by repeat first | exact mH | apply mT) rfl) .nil), ?_⟩
              refine D_wr (.go (E' := [(4, _)]) rfl (.plain rfl) (w_callP rfl rfl rfl (fun w hg => rcommon_c _ _ _ _ w)) rfl ?_)
              rintro _ _ ⟨rfl, rfl⟩
              refine ⟨(.cons rfl (.plain rfl) (r_load ag3 rfl rfl (by repeat first | exact mH | apply mT) rfl) .nil), ?_⟩
              refine D_wr (.go (E' := []) rfl (.plain rfl) (w_store (cs' := [_, _]) sz33 rfl rfl rfl rfl rfl (by repeat first | exact .head | apply SetAt.tail) (Nat.le_of_ble_eq_true rfl) rfl) rfl ?_)
              rintro _ _ ⟨rfl, rfl⟩
              refine ⟨.nil, ?_⟩
              refine D_then (.cons (k := 1) rfl (.cons (k := 2) rfl (.cons (k := 3) rfl (.cons (k := 4) rfl (.cons (k := 8) rfl (.cons (k := 9) rfl .nil)))))) ?_
              refine ⟨b3, trivial, (.cons rfl (.cons rfl (.cons rfl (.cons rfl (.cons rfl (.cons rfl (.nil _))))))), (by (try dsimp only); repeat (first | exact HSub.nil _ | refine HSub.take (by repeat first | exact Take.head | apply Take.tail) ?_ | exact HSub.refl _ | refine HSub.drop ?_ | refine HSub.app ?_)), rfl⟩
          · refine (.go (E' := [(4, _)]) rfl (.plain rfl) (w_alloc zr33 rfl) rfl ?_)
            rintro _ _ ⟨b3, hb3, rfl, rfl⟩
            refine ⟨(.cons rfl (.plain rfl) (r_load ag3 rfl rfl (by repeat first | exact mH | apply mT) rfl) .nil), ?_⟩
            refine D_wr (.go (E' := [(4, _)]) rfl (.plain rfl) (w_callP rfl rfl rfl (fun w hg => raround_c _ _ (by omega) (by omega) w)) rfl ?_)
            rintro _ _ ⟨rfl, rfl⟩
            refine ⟨(.cons rfl (.plain rfl) (r_load ag3 rfl rfl (by repeat first | exact mH | apply mT) rfl) .nil), ?_⟩
            refine D_wr (.go (E' := [(4, _)]) rfl (.plain rfl) (w_callP rfl rfl rfl (fun w hg => rcommon_c _ _ _ _ w)) rfl ?_)
            rintro _ _ ⟨rfl, rfl⟩
            refine ⟨(.cons rfl (.plain rfl) (r_load ag3 rfl rfl (by repeat first | exact mH | apply mT) rfl) .nil), ?_⟩
            refine D_wr (.go (E' := []) rfl (.plain rfl) (w_store (cs' := [_, _]) sz33 rfl rfl rfl rfl rfl (by repeat first | exact .head | apply SetAt.tail) (Nat.le_of_ble_eq_true rfl) rfl) rfl ?_)
            rintro _ _ ⟨rfl, rfl⟩
            refine ⟨.nil, ?_⟩
            refine D_then (.cons (k := 1) rfl (.cons (k := 2) rfl (.cons (k := 3) rfl (.cons (k := 4) rfl (.cons (k := 8) rfl (.cons (k := 9) rfl .nil)))))) ?_
            refine ⟨b3, trivial, (.cons rfl (.cons rfl (.cons rfl (.cons rfl (.cons rfl (.cons rfl (.nil _))))))), (by (try dsimp only); repeat (first | exact HSub.nil _ | refine HSub.take (by repeat first | exact Take.head | apply Take.tail) ?_ | exact HSub.refl _ | refine HSub.drop ?_ | refine HSub.app ?_)), rfl⟩
        · refine (.go (E' := [(4, _), (1, _)]) rfl (.plain rfl) (w_alloc zr33 rfl) rfl ?_)
          rintro _ _ ⟨b3, hb3, rfl, rfl⟩
          refine ⟨(.cons rfl (.plain rfl) (r_load ag3 rfl rfl (by repeat first | exact mH | apply mT) rfl) (.cons rfl (.plain rfl) (r_loadA (vs := [_, _, _, _, _]) ag25 sz25 rfl rfl (by repeat first | exact mH | apply mT) rfl) .nil)), ?_⟩
          refine D_wr (.go (E' := [(4, _)]) rfl (.plain rfl) (w_callP rfl rfl rfl (fun w hg => rreach_c t _ w (hT.good hg) hG _ (by omega))) rfl ?_)
          rintro _ _ ⟨rfl, rfl⟩
          refine ⟨(.cons rfl (.plain rfl) (r_load ag3 rfl rfl (by repeat first | exact mH | apply mT) rfl) .nil), ?_⟩
          refine D_wr (.go (E' := [(4, _)]) rfl (.plain rfl) (w_callP rfl rfl rfl (fun w hg => raround_c _ _ (by omega) (by omega) w)) rfl ?_)
          rintro _ _ ⟨rfl, rfl⟩
          refine ⟨(.cons rfl (.plain rfl) (r_load ag3 rfl rfl (by repeat first | exact mH | apply mT) rfl) .nil), ?_⟩
          refine D_wr (.go (E' := [(4, _)]) rfl (.plain rfl) (w_callP rfl rfl rfl (fun w hg => rcommon_c _ _ _ _ w)) rfl ?_)
          rintro _ _ ⟨rfl, rfl⟩
          refine ⟨(.cons rfl (.plain rfl) (r_load ag3 rfl rfl (by repeat first | exact mH | apply mT) rfl) .nil), ?_⟩
          refine D_wr (.go (E' := []) rfl (.plain rfl) (w_store (cs' := [_, _]) sz33 rfl rfl rfl rfl rfl (by repeat first | exact .head | apply SetAt.tail) (Nat.le_of_ble_eq_true rfl) rfl) rfl ?_)
          rintro _ _ ⟨rfl, rfl⟩
          refine ⟨.nil, ?_⟩
          refine D_then (.cons (k := 1) rfl (.cons (k := 2) rfl (.cons (k := 3) rfl (.cons (k := 4) rfl (.cons (k := 8) rfl (.cons (k := 9) rfl .nil)))))) ?_
          refine ⟨b3, trivial, (.cons rfl (.cons rfl (.cons rfl (.cons rfl (.cons rfl (.cons rfl (.nil _))))))), (by (try dsimp only); repeat (first | exact HSub.nil _ | refine HSub.take (by repeat first | exact Take.head | apply Take.tail) ?_ | exact HSub.refl _ | refine HSub.drop ?_ | refine HSub.app ?_)), rfl⟩
      · refine (.go (E' := [(4, _), (1, _)]) rfl (.plain rfl) (w_alloc zr33 rfl) rfl ?_)
        rintro _ _ ⟨b3, hb3, rfl, rfl⟩
        refine ⟨(.cons rfl (.plain rfl) (r_load ag3 rfl rfl (by repeat first | exact mH | apply mT) rfl) (.cons rfl (.plain rfl) (r_loadA (vs := [_, _, _, _, _]) ag25 sz25 rfl rfl (by repeat first | exact mH | apply mT) rfl) .nil)), ?_⟩
        refine D_wr (.go (E' := [(4, _), (1, _)]) rfl (.plain rfl) (w_callP rfl rfl rfl (fun w hg => raround_c _ _ (by omega) (by omega) w)) rfl ?_)
        rintro _ _ ⟨rfl, rfl⟩
        refine ⟨(.cons rfl (.plain rfl) (r_load ag3 rfl rfl (by repeat first | exact mH | apply mT) rfl) (.cons rfl (.plain rfl) (r_loadA (vs := [_, _, _, _, _]) ag25 sz25 rfl rfl (by repeat first | exact mH | apply mT) rfl) .nil)), ?_⟩
        refine D_wr (.go (E' := [(4, _)]) rfl (.plain rfl) (w_callP rfl rfl rfl (fun w hg => rreach_c t _ w (hT.good hg) hG _ (by omega))) rfl ?_)
        rintro _ _ ⟨rfl, rfl⟩
        refine ⟨(.cons rfl (.plain rfl) (r_load ag3 rfl rfl (by repeat first | exact mH | apply mT) rfl) .nil), ?_⟩
        refine D_wr (.go (E' := [(4, _)]) rfl (.plain rfl) (w_callP rfl rfl rfl (fun w hg => raround_c _ _ (by omega) (by omega) w)) rfl ?_)
        rintro _ _ ⟨rfl, rfl⟩
        refine ⟨(.cons rfl (.plain rfl) (r_load ag3 rfl rfl (by repeat first | exact mH | apply mT) rfl) .nil), ?_⟩
        refine D_wr (.go (E' := [(4, _)]) rfl (.plain rfl) (w_callP rfl rfl rfl (fun w hg => rcommon_c _ _ _ _ w)) rfl ?_)
        rintro _ _ ⟨rfl, rfl⟩
        refine ⟨(.cons rfl (.plain rfl) (r_load ag3 rfl rfl (by repeat first | exact mH | apply mT) rfl) .nil), ?_⟩
        refine D_wr (.go (E' := []) rfl (.plain rfl) (w_store (cs' := [_, _]) sz33 rfl rfl rfl rfl rfl (by repeat first | exact .head | apply SetAt.tail) (Nat.le_of_ble_eq_true rfl) rfl) rfl ?_)
        rintro _ _ ⟨rfl, rfl⟩
        refine ⟨.nil, ?_⟩
        refine D_then (.cons (k := 1) rfl (.cons (k := 2) rfl (.cons (k := 3) rfl (.cons (k := 4) rfl (.cons (k := 8) rfl (.cons (k := 9) rfl .nil)))))) ?_
        refine ⟨b3, trivial, (.cons rfl (.cons rfl (.cons rfl (.cons rfl (.cons rfl (.cons rfl (.nil _))))))), (by (try dsimp only); repeat (first | exact HSub.nil _ | refine HSub.take (by repeat first | exact Take.head | apply Take.tail) ?_ | exact HSub.refl _ | refine HSub.drop ?_ | refine HSub.app ?_)), rfl⟩
    · rintro x9 _
      refine V_seq ?_
      refine V_seq (V_region rfl ?_)
      refine L_go rfl (X_p (p_assign rfl rfl) ?_)
      refine L_then (.cons (k := 1) rfl (.cons (k := 2) rfl (.cons (k := 3) rfl (.cons (k := 4) rfl (.cons (k := 8) rfl (.cons (k := 9) rfl (.cons (k := 10) rfl .nil))))))) ?_
      refine V_block ?_
      refine V_loop1 (γ := Int × Span) (.cons (k := 1) rfl (.cons (k := 2) rfl (.cons (k := 3) rfl (.cons (k := 4) rfl (.cons (k := 8) rfl (.cons (k := 9) rfl .nil)))))) (fun (j, s) => [(10, .int .i64 j)]) (fun (j, s) => [(x9, .cells #[.int .i64 s.lo, .int .i64 s.hi] 33), (b2, .cells #[.int .i64 0, .int .i64 0] 33), (b1, t.obj (.slice ta t.trackers.length tc) (.slice pa t.plots.length pc) 25)]) (fun (j, s) => 0 ≤ j ∧ j ≤ ps.length ∧ s = (ps.take j.toNat).foldl (fun s i => common s (plotS t k u i)) (room0 (min 2000000000 (reachT t (u - t.frm))))) (fun (j, s) => (ps.length - j).toNat) ((0, (common (aroundS 0 2000000000) (aroundS 0 (reachT t (u - t.frm)))))) (.cons rfl (.nil _)) (by repeat (first | exact List.Sublist.refl _ | apply List.Sublist.cons_cons | apply List.Sublist.cons)) (⟨by omega, by omega, room0_common⟩) ?_
      rintro ⟨j, s⟩ hi
      obtain ⟨hj0, hj1, hsj⟩ := hi
      refine V_seq ?_
      refine V_seq (V_region rfl ?_)
      refine L_go rfl (X_p (p_move rfl rfl) ?_)
      refine L_go rfl (X_p (p_move rfl rfl) ?_)
      refine L_go rfl (X_p (p_len isl57 rfl rfl) ?_)
      refine L_go rfl (X_p (p_lss rfl rfl rfl) ?_)
      refine L_then (.cons (k := 1) rfl (.cons (k := 2) rfl (.cons (k := 3) rfl (.cons (k := 4) rfl (.cons (k := 8) rfl (.cons (k := 9) rfl (.cons (k := 10) rfl (.cons (k := 29) rfl .nil)))))))) ?_
      refine V_cond rfl ?_ ?_
      · intro c2; try simp only [td] at c2
        obtain ⟨sb, rfl, hcs⟩ := hse j.toNat _ (getD_cells (f := fun n : Int => [Value.int .i64 n]) (d := 0) (by omega))
        have hib := hp (ps.getD j.toNat 0) (getD_mem (by omega))
        have hii : (ps.getD j.toNat 0).toNat < t.plots.length := by omega
        obtain ⟨pb, rfl, hcp⟩ := hpe (ps.getD j.toNat 0).toNat _ (getD_cells (d := plZ) (by omega))
        have hsl := slack_bnd hG hii (show 0 ≤ u ∧ u ≤ 100000 by omega)
        have hwd := width_bnd hG hii
        have hpt := part_bnd hG hii k
        have htk := (hG.plot hii).tick
        have hsl0 : slackT t u (ps.getD j.toNat 0).toNat = widthT t (ps.getD j.toNat 0).toNat + t.speed * apartI (t.pl (ps.getD j.toNat 0).toNat).tick u := rfl
        simp only [Task.pl] at hsl htk hsl0 hpt
        refine V_skip (then_n ?_)
        refine V_seq ?_
        refine V_block ?_
        refine V_seq (V_draw (.rd 0 (.rd 1 (.rd 2 (.rd 3 (.rd 4 (.rd 5 (.rd 6 (.rd 7 (.wr 8 [7, 6, 5, 4, 3, 2, 1, 0] (.wr 9 [] .done)))))))))) mixed (by kernel_rfl) rfl ?_)
        refine D_p rfl (.plain rfl) (p_fieldo fo25_4 rfl rfl) ?_
        refine D_rd rfl (.plain rfl) (r_load ag23 rfl rfl (by repeat first | exact mH | apply mT) rfl) ?_
        refine D_p rfl (.plain rfl) (p_move rfl rfl) ?_
        refine D_p rfl (.plain rfl) (p_move rfl rfl) ?_
        refine D_p rfl (.plain rfl) (p_idx es57 rfl rfl rfl (by omega) (by omega)) ?_
        refine D_rd rfl (.plain rfl) (r_loadB ag3 rfl rfl hcs.zero List.not_mem_nil) ?_
        refine D_p rfl (.plain rfl) (p_idx es23 rfl rfl rfl (by omega) (by omega)) ?_
        refine D_rd rfl (.plain rfl) (r_loadBA ag64 sz64 rfl rfl hcp rfl List.not_mem_nil) ?_
        refine D_wr (.go (E' := [(7, _), (5, _), (1, _)]) rfl (.plain rfl) (w_alloc zr64 rfl) rfl ?_)
        rintro _ _ ⟨b3, hb3, rfl, rfl⟩
        refine ⟨(.cons rfl (.plain rfl) (r_loadBA ag64 sz64 rfl rfl hcp rfl List.not_mem_nil) (.cons rfl (.plain rfl) (r_loadB ag3 rfl rfl hcs.zero List.not_mem_nil) (.cons rfl (.plain rfl) (r_load ag23 rfl rfl (by repeat first | exact mH | apply mT) rfl) .nil))), ?_⟩
        refine D_wr (.go (E' := []) rfl (.plain rfl) (w_store (cs' := [_, _, _, _, _]) sz64 rfl rfl rfl rfl rfl (by repeat first | exact .head | apply SetAt.tail) (Nat.le_of_ble_eq_true rfl) rfl) rfl ?_)
        rintro _ _ ⟨rfl, rfl⟩
        refine ⟨.nil, ?_⟩
        refine D_then (.cons (k := 1) rfl (.cons (k := 2) rfl (.cons (k := 3) rfl (.cons (k := 4) rfl (.cons (k := 8) rfl (.cons (k := 9) rfl (.cons (k := 10) rfl (.cons (k := 11) rfl .nil)))))))) ?_
        refine V_draw (.rd 0 (.rd 1 (.rd 2 (.rd 4 (.rd 5 (.rd 6 (.rd 7 (.rd 8 (.rd 10 (.rd 11 (.rd 12 (.rd 13 (.rd 14 (.rd 15 (.wr 3 [15, 14, 13, 12, 11, 10, 8, 7, 6, 5, 4, 0] (.wr 9 [15, 14, 13, 12, 11, 10, 7, 6, 5, 2, 1, 0] (.wr 16 [14, 13, 12, 11, 10, 8, 7, 6, 5, 4, 2, 1, 0] (.rd 17 (.rd 18 (.wr 19 [17, 15, 14, 13, 12, 11, 10, 8, 7, 6, 5, 4, 2, 1, 0] (.wr 20 [18, 17, 15, 14, 13, 12, 11, 10, 8, 7, 6, 5, 4, 2, 1] (.wr 21 [] .done)))))))))))))))))))))) mixed (by kernel_rfl) rfl ?_
        refine D_rd rfl (.plain rfl) (r_loadA (vs := [_, _]) ag33 sz33 rfl rfl (by repeat first | exact mH | apply mT) rfl) ?_
        refine D_rd rfl (.plain rfl) (r_loadA (vs := [_, _, _, _, _]) ag64 sz64 rfl rfl (by repeat first | exact mH | apply mT) rfl) ?_
        refine D_p rfl (.plain rfl) (p_move rfl rfl) ?_
        refine D_rd rfl (.plain rfl) (r_loadA (vs := [_, _, _, _, _]) ag25 sz25 rfl rfl (by repeat first | exact mH | apply mT) rfl) ?_
        refine D_p rfl (.plain rfl) (p_move rfl rfl) ?_
        refine D_p rfl (.plain rfl) (p_move rfl rfl) ?_
        refine D_p rfl (.plain rfl) (p_idx es57 rfl rfl rfl (by omega) (by omega)) ?_
        refine D_rd rfl (.plain rfl) (r_loadB ag3 rfl rfl hcs.zero List.not_mem_nil) ?_
        refine D_p rfl (.plain rfl) (p_fieldo fo25_1 rfl rfl) ?_
        refine D_rd rfl (.plain rfl) (r_load ag3 rfl rfl (by repeat first | exact mH | apply mT) rfl) ?_
        refine D_p rfl (.plain rfl) (p_fieldo fo64_1 rfl rfl) ?_
        refine D_rd rfl (.plain rfl) (r_load ag3 rfl rfl (by repeat first | exact mH | apply mT) rfl) ?_
        refine D_p rfl (.plain rfl) (p_move rfl rfl) ?_
        first | refine D_p rfl (.plain rfl) (p_sub' rfl rfl rfl (by unfold InI; omega)) ?_ | refine D_p rfl (.plain rfl) (p_sub rfl rfl rfl) ?_
        refine D_wr (.go (E' := [(13, _), (11, _), (8, _), (4, _), (0, _)]) rfl (.plain rfl) (w_callP rfl rfl rfl (fun w hg => rpart_c (t.plots.getD (ps.getD j.toNat 0).toNat plZ) k w)) rfl ?_)
        rintro _ _ ⟨rfl, rfl⟩
        refine ⟨(.cons rfl (.plain rfl) (r_load ag3 rfl rfl (by repeat first | exact mH | apply mT) rfl) (.cons rfl (.plain rfl) (r_load ag3 rfl rfl (by repeat first | exact mH | apply mT) rfl) (.cons rfl (.plain rfl) (r_loadB ag3 rfl rfl hcs.zero List.not_mem_nil) (.cons rfl (.plain rfl) (r_loadA (vs := [_, _, _, _, _]) ag25 sz25 rfl rfl (by repeat first | exact mH | apply mT) rfl) (.cons rfl (.plain rfl) (r_loadA (vs := [_, _]) ag33 sz33 rfl rfl (by repeat first | exact mH | apply mT) rfl) .nil))))), ?_⟩
        refine D_wr (.go (E' := [(13, _), (11, _), (0, _)]) rfl (.plain rfl) (w_callP rfl rfl rfl (fun w hg => rwidth_c t _ w (hT.good hg) hG (ps.getD j.toNat 0) hib.1 hib.2)) rfl ?_)
        rintro _ _ ⟨rfl, rfl⟩
        refine ⟨(.cons rfl (.plain rfl) (r_load ag3 rfl rfl (by repeat first | exact mH | apply mT) rfl) (.cons rfl (.plain rfl) (r_load ag3 rfl rfl (by repeat first | exact mH | apply mT) rfl) (.cons rfl (.plain rfl) (r_loadA (vs := [_, _]) ag33 sz33 rfl rfl (by repeat first | exact mH | apply mT) rfl) .nil))), ?_⟩
        refine D_wr (.go (E' := [(13, _), (11, _), (0, _)]) rfl (.plain rfl) (w_callP rfl rfl rfl (fun w hg => rsizeA_c _ _ (by omega) w)) rfl ?_)
        rintro _ _ ⟨rfl, rfl⟩
        refine ⟨(.cons rfl (.plain rfl) (r_load ag3 rfl rfl (by repeat first | exact mH | apply mT) rfl) (.cons rfl (.plain rfl) (r_load ag3 rfl rfl (by repeat first | exact mH | apply mT) rfl) (.cons rfl (.plain rfl) (r_loadA (vs := [_, _]) ag33 sz33 rfl rfl (by repeat first | exact mH | apply mT) rfl) .nil))), ?_⟩
        first | refine D_p rfl (.plain rfl) (p_mul' rfl rfl rfl (by unfold InI; omega)) ?_ | refine D_p rfl (.plain rfl) (p_mul rfl rfl rfl) ?_
        first | refine D_p rfl (.plain rfl) (p_add' rfl rfl rfl (by unfold InI; omega)) ?_ | refine D_p rfl (.plain rfl) (p_add rfl rfl rfl) ?_
        refine D_wr (.go (E' := [(13, _), (11, _), (0, _)]) rfl (.plain rfl) (w_callP rfl rfl rfl (fun w hg => raround_c _ _ (by omega) (by omega) w)) rfl ?_)
        rintro _ _ ⟨rfl, rfl⟩
        refine ⟨(.cons rfl (.plain rfl) (r_load ag3 rfl rfl (by repeat first | exact mH | apply mT) rfl) (.cons rfl (.plain rfl) (r_load ag3 rfl rfl (by repeat first | exact mH | apply mT) rfl) (.cons rfl (.plain rfl) (r_loadA (vs := [_, _]) ag33 sz33 rfl rfl (by repeat first | exact mH | apply mT) rfl) .nil))), ?_⟩
        refine D_wr (.go (E' := [(13, _), (11, _)]) rfl (.plain rfl) (w_callP rfl rfl rfl (fun w hg => rcommon_c _ _ _ _ w)) rfl ?_)
        rintro _ _ ⟨rfl, rfl⟩
        refine ⟨(.cons rfl (.plain rfl) (r_load ag3 rfl rfl (by repeat first | exact mH | apply mT) rfl) (.cons rfl (.plain rfl) (r_load ag3 rfl rfl (by repeat first | exact mH | apply mT) rfl) .nil)), ?_⟩
        refine D_wr (.go (E' := []) rfl (.plain rfl) (w_store (cs' := [_, _]) sz33 rfl rfl rfl rfl rfl (by repeat first | exact .head | apply SetAt.tail) (Nat.le_of_ble_eq_true rfl) rfl) rfl ?_)
        rintro _ _ ⟨rfl, rfl⟩
        refine ⟨.nil, ?_⟩
        refine D_keep (.cons (k := 1) rfl (.cons (k := 2) rfl (.cons (k := 3) rfl (.cons (k := 4) rfl (.cons (k := 8) rfl (.cons (k := 9) rfl (.cons (k := 10) rfl .nil))))))) (blk_n (then_n ?_))
        refine V_region rfl ?_
        refine L_go rfl (X_p (p_move rfl rfl) ?_)
        first | refine L_go rfl (X_p (p_add' rfl rfl rfl (by unfold InI; omega)) ?_) | refine L_go rfl (X_p (p_add rfl rfl rfl) ?_)
        refine L_go rfl (X_p (p_assign rfl rfl) ?_)
        refine L_keep (.cons (k := 1) rfl (.cons (k := 2) rfl (.cons (k := 3) rfl (.cons (k := 4) rfl (.cons (k := 8) rfl (.cons (k := 9) rfl (.cons (k := 10) rfl .nil))))))) (then_n ?_)
        refine ⟨(j + 1, common s (plotS t k u (ps.getD j.toNat 0))), ?_, ?_, (.cons rfl (.cons rfl (.cons rfl (.cons rfl (.cons rfl (.cons rfl (.cons rfl (.nil _)))))))), (by repeat (first | exact List.Sublist.refl _ | apply List.Sublist.cons_cons | apply List.Sublist.cons | apply List.sublist_append_of_sublist_right)), rfl⟩
        · refine ⟨by omega, by omega, ?_⟩
          have e : (j + 1).toNat = j.toNat + 1 := by omega
          rw [e, take_snoc (d := 0) (by omega), List.foldl_append, ← hsj]; rfl
        · dsimp only; omega
      · intro c2; try simp only [td] at c2
        have hsN : s = placeN t ps k u := by rw [hsj, List.take_of_length_le (by omega)]; rfl
        refine V_exit (then_e (then_e (blk_e rfl (then_n ?_))))
        refine V_seq (V_region rfl ?_)
        refine L_go rfl (X_rd (r_loadA (vs := [_, _]) ag33 sz33 rfl rfl (by repeat first | exact mH | apply mT) rfl) ?_)
        refine L_go rfl (X_wr (w_store (cs' := [_, _]) sz33 rfl rfl rfl rfl rfl (by repeat first | exact .head | apply SetAt.tail) (Nat.le_of_ble_eq_true rfl) rfl) ?_)
        rintro _ _ ⟨rfl, rfl⟩
        refine L_then (.cons (k := 8) rfl .nil) ?_
        refine V_ret ?_
        refine Leave.nil (.cellA (us := [_, _]) rfl ag33 sz33 (by repeat first | exact mH | apply mT) rfl .nil) ?_
        rw [placeT, if_pos (by omega), ← hsN]; rfl
theorem rfloor_c (a b : Int) (hb : 0 < b ∧ b ≤ 1000000000000000) (ha : (-1000000000000000 ≤ a ∧ a ≤ 1000000000000000)) (w : World) : FnP Try.prog 112 [.int .i64 a, .int .i64 b] w (.int .i64 (a / b)) := by
  have hq := tdiv_abs hb.1 ha
  have hm := tdiv_mul_abs hb.1 ha hb.2
  refine fn_pure Try.func112 rfl (by kernel_rfl) Try.ntmps112 Try.results112 rfl ?_
  refine V_seq (V_region rfl ?_)
  refine L_go rfl (X_p (p_assign rfl rfl) ?_)
  refine L_then (.cons (k := 0) rfl (.cons (k := 1) rfl .nil)) ?_
  refine V_seq (V_region rfl ?_)
  refine L_go rfl (X_p (p_move rfl rfl) ?_)
  refine L_go rfl (X_p (p_move rfl rfl) ?_)
  first | refine L_go rfl (X_p (p_quo' rfl rfl rfl (by first | decide | omega) (by unfold InI; omega)) ?_) | refine L_go rfl (X_p (p_quo rfl rfl rfl (by first | decide | omega)) ?_)
  refine L_go rfl (X_p (p_assign rfl rfl) ?_)
  refine L_then (.cons (k := 0) rfl (.cons (k := 1) rfl (.cons (k := 5) rfl .nil))) ?_
  refine V_seq ?_
  refine V_seq (V_region rfl ?_)
  refine L_go rfl (X_p (p_move rfl rfl) ?_)
  refine L_go rfl (X_p (p_move rfl rfl) ?_)
  refine L_go rfl (X_p (p_move rfl rfl) ?_)
  first | refine L_go rfl (X_p (p_mul' rfl rfl rfl (by unfold InI; omega)) ?_) | refine L_go rfl (X_p (p_mul rfl rfl rfl) ?_)
  refine L_go rfl (X_p (p_lss rfl rfl rfl) ?_)
  refine L_then (.cons (k := 5) rfl (.cons (k := 13) rfl .nil)) ?_
  refine V_cond rfl ?_ ?_
  · intro c1; try simp only [td] at c1
    refine V_region rfl ?_
    refine L_go rfl (X_p (p_move rfl rfl) ?_)
    first | refine L_go rfl (X_p (p_sub' rfl rfl rfl (by unfold InI; omega)) ?_) | refine L_go rfl (X_p (p_sub rfl rfl rfl) ?_)
    refine L_go rfl (X_p (p_assign rfl rfl) ?_)
    refine L_then (.cons (k := 5) rfl .nil) ?_
    refine V_seq (V_region rfl ?_)
    refine L_go rfl (X_p (p_move rfl rfl) ?_)
    refine L_go rfl (X_p (p_assign rfl rfl) ?_)
    refine L_then (.cons (k := 4) rfl .nil) ?_
    refine V_ret ?_
    refine Leave.nil (.tmp rfl .nil) ?_
    show Value.int .i64 _ = _; rw [← floor_eq hb.1, if_pos c1]
  · intro c1; try simp only [td] at c1
    refine V_skip (then_n ?_)
    refine V_seq (V_region rfl ?_)
    refine L_go rfl (X_p (p_move rfl rfl) ?_)
    refine L_go rfl (X_p (p_assign rfl rfl) ?_)
    refine L_then (.cons (k := 4) rfl .nil) ?_
    refine V_ret ?_
    refine Leave.nil (.tmp rfl .nil) ?_
    show Value.int .i64 _ = _; rw [← floor_eq hb.1, if_neg (by omega)]
theorem rceil_c (a b : Int) (hb : 0 < b ∧ b ≤ 1000000000000000) (ha : (-1000000000000000 ≤ a ∧ a ≤ 1000000000000000)) (w : World) : FnP Try.prog 111 [.int .i64 a, .int .i64 b] w (.int .i64 (-((-a) / b))) := by
  have hq := ediv_abs (a := -a) (A := 1000000000000000) hb.1 (by omega)
  refine fn_pure Try.func111 rfl (by kernel_rfl) Try.ntmps111 Try.results111 rfl ?_
  refine V_seq (V_region rfl ?_)
  refine L_go rfl (X_p (p_assign rfl rfl) ?_)
  refine L_then (.cons (k := 0) rfl (.cons (k := 1) rfl .nil)) ?_
  refine V_seq (V_region rfl ?_)
  refine L_go rfl (X_p (p_move rfl rfl) ?_)
  first | refine L_go rfl (X_p (p_neg' rfl rfl (by unfold InI; omega)) ?_) | refine L_go rfl (X_p (p_neg rfl rfl) ?_)
  refine L_go rfl (X_p (p_move rfl rfl) ?_)
  refine L_go rfl (X_wr (w_callP rfl rfl rfl (fun w hg => rfloor_c _ _ (by omega) (by omega) w)) ?_)
  rintro _ _ ⟨rfl, rfl⟩
  first | refine L_go rfl (X_p (p_neg' rfl rfl (by unfold InI; omega)) ?_) | refine L_go rfl (X_p (p_neg rfl rfl) ?_)
  refine L_go rfl (X_p (p_assign rfl rfl) ?_)
  refine L_then (.cons (k := 4) rfl .nil) ?_
  refine V_ret ?_
  refine Leave.nil (.tmp rfl .nil) ?_
  rfl

end Go.Proofs.Ytclbbchehjapjaa
