/- Joined texts. -/
import Derived.Test.YtlcccpeelombbaaGreatDoorZad
import Derived.Test.YtlcccpeelombbaaGreatDoorProg
import Derived.Test.YtlcccpeelombbaaGreatDoorZac
/- What the tables say of the types in hand. -/
set_option linter.all false
namespace Go.Proofs.YtlcccpeelombbaaGreatDoor
open Go.Vc
theorem mixed : Tryz.prog.follows .mixedOrders = true := by kernel_rfl
theorem ag102 : tyAgg Tryz.prog 102 = some true := by kernel_rfl
theorem ag132 : tyAgg Tryz.prog 132 = some true := by kernel_rfl
theorem ag138 : tyAgg Tryz.prog 138 = some true := by kernel_rfl
theorem ag140 : tyAgg Tryz.prog 140 = some true := by kernel_rfl
theorem ag148 : tyAgg Tryz.prog 148 = some true := by kernel_rfl
theorem ag159 : tyAgg Tryz.prog 159 = some false := by kernel_rfl
theorem ag170 : tyAgg Tryz.prog 170 = some false := by kernel_rfl
theorem ag177 : tyAgg Tryz.prog 177 = some true := by kernel_rfl
theorem ag187 : tyAgg Tryz.prog 187 = some false := by kernel_rfl
theorem ag22 : tyAgg Tryz.prog 22 = some false := by kernel_rfl
theorem ag24 : tyAgg Tryz.prog 24 = some true := by kernel_rfl
theorem ag26 : tyAgg Tryz.prog 26 = some true := by kernel_rfl
theorem ag28 : tyAgg Tryz.prog 28 = some true := by kernel_rfl
theorem ag3 : tyAgg Tryz.prog 3 = some false := by kernel_rfl
theorem ag30 : tyAgg Tryz.prog 30 = some true := by kernel_rfl
theorem ag34 : tyAgg Tryz.prog 34 = some false := by kernel_rfl
theorem ag36 : tyAgg Tryz.prog 36 = some false := by kernel_rfl
theorem ag37 : tyAgg Tryz.prog 37 = some false := by kernel_rfl
theorem ag39 : tyAgg Tryz.prog 39 = some true := by kernel_rfl
theorem ag4 : tyAgg Tryz.prog 4 = some false := by kernel_rfl
theorem ag42 : tyAgg Tryz.prog 42 = some true := by kernel_rfl
theorem ag49 : tyAgg Tryz.prog 49 = some true := by kernel_rfl
theorem ag5 : tyAgg Tryz.prog 5 = some false := by kernel_rfl
theorem ag53 : tyAgg Tryz.prog 53 = some false := by kernel_rfl
theorem ag68 : tyAgg Tryz.prog 68 = some true := by kernel_rfl
theorem ag72 : tyAgg Tryz.prog 72 = some false := by kernel_rfl
theorem ag79 : tyAgg Tryz.prog 79 = some false := by kernel_rfl
theorem ag9 : tyAgg Tryz.prog 9 = some false := by kernel_rfl
theorem ag92 : tyAgg Tryz.prog 92 = some false := by kernel_rfl
theorem ag93 : tyAgg Tryz.prog 93 = some true := by kernel_rfl
theorem ag97 : tyAgg Tryz.prog 97 = some false := by kernel_rfl
theorem ap53 : appOf Tryz.prog 53 = some (3, 1, 8) := by kernel_rfl
theorem ar113 : arrOf Tryz.prog 113 = some (3, 1) := by kernel_rfl
theorem ar93 : arrOf Tryz.prog 93 = some (6, 1) := by kernel_rfl
theorem eg24 : Tryz.prog.eqGuardType Tryz.prog.depth 24 = false := by kernel_rfl
theorem eg28 : Tryz.prog.eqGuardType Tryz.prog.depth 28 = false := by kernel_rfl
theorem eg30 : Tryz.prog.eqGuardType Tryz.prog.depth 30 = false := by kernel_rfl
theorem eg42 : Tryz.prog.eqGuardType Tryz.prog.depth 42 = false := by kernel_rfl
theorem eg49 : Tryz.prog.eqGuardType Tryz.prog.depth 49 = false := by kernel_rfl
theorem es154 : elemSz Tryz.prog 154 = some 1 := by kernel_rfl
theorem es157 : elemSz Tryz.prog 157 = some 1 := by kernel_rfl
theorem es193 : elemSz Tryz.prog 193 = some 1 := by kernel_rfl
theorem es22 : elemSz Tryz.prog 22 = some 4 := by kernel_rfl
theorem es36 : elemSz Tryz.prog 36 = some 6 := by kernel_rfl
theorem es37 : elemSz Tryz.prog 37 = some 5 := by kernel_rfl
theorem es53 : elemSz Tryz.prog 53 = some 1 := by kernel_rfl
theorem fo102_0 : fieldOff Tryz.prog 102 0 = some 0 := by kernel_rfl
theorem fo102_1 : fieldOff Tryz.prog 102 1 = some 13 := by kernel_rfl
theorem fo132_0 : fieldOff Tryz.prog 132 0 = some 0 := by kernel_rfl
theorem fo132_1 : fieldOff Tryz.prog 132 1 = some 1 := by kernel_rfl
theorem fo132_2 : fieldOff Tryz.prog 132 2 = some 2 := by kernel_rfl
theorem fo132_3 : fieldOff Tryz.prog 132 3 = some 3 := by kernel_rfl
theorem fo132_4 : fieldOff Tryz.prog 132 4 = some 4 := by kernel_rfl
theorem fo132_5 : fieldOff Tryz.prog 132 5 = some 5 := by kernel_rfl
theorem fo138_0 : fieldOff Tryz.prog 138 0 = some 0 := by kernel_rfl
theorem fo138_1 : fieldOff Tryz.prog 138 1 = some 1 := by kernel_rfl
theorem fo138_2 : fieldOff Tryz.prog 138 2 = some 2 := by kernel_rfl
theorem fo138_3 : fieldOff Tryz.prog 138 3 = some 3 := by kernel_rfl
theorem fo138_4 : fieldOff Tryz.prog 138 4 = some 4 := by kernel_rfl
theorem fo148_0 : fieldOff Tryz.prog 148 0 = some 0 := by kernel_rfl
theorem fo172_0 : fieldOff Tryz.prog 172 0 = some 0 := by kernel_rfl
theorem fo172_1 : fieldOff Tryz.prog 172 1 = some 5 := by kernel_rfl
theorem fo172_2 : fieldOff Tryz.prog 172 2 = some 6 := by kernel_rfl
theorem fo177_0 : fieldOff Tryz.prog 177 0 = some 0 := by kernel_rfl
theorem fo177_1 : fieldOff Tryz.prog 177 1 = some 1 := by kernel_rfl
theorem fo24_0 : fieldOff Tryz.prog 24 0 = some 0 := by kernel_rfl
theorem fo24_1 : fieldOff Tryz.prog 24 1 = some 1 := by kernel_rfl
theorem fo26_0 : fieldOff Tryz.prog 26 0 = some 0 := by kernel_rfl
theorem fo26_1 : fieldOff Tryz.prog 26 1 = some 1 := by kernel_rfl
theorem fo26_2 : fieldOff Tryz.prog 26 2 = some 3 := by kernel_rfl
theorem fo26_3 : fieldOff Tryz.prog 26 3 = some 4 := by kernel_rfl
theorem fo28_0 : fieldOff Tryz.prog 28 0 = some 0 := by kernel_rfl
theorem fo28_1 : fieldOff Tryz.prog 28 1 = some 1 := by kernel_rfl
theorem fo28_2 : fieldOff Tryz.prog 28 2 = some 3 := by kernel_rfl
theorem fo28_3 : fieldOff Tryz.prog 28 3 = some 5 := by kernel_rfl
theorem fo28_4 : fieldOff Tryz.prog 28 4 = some 7 := by kernel_rfl
theorem fo28_5 : fieldOff Tryz.prog 28 5 = some 9 := by kernel_rfl
theorem fo28_6 : fieldOff Tryz.prog 28 6 = some 11 := by kernel_rfl
theorem fo30_0 : fieldOff Tryz.prog 30 0 = some 0 := by kernel_rfl
theorem fo30_1 : fieldOff Tryz.prog 30 1 = some 2 := by kernel_rfl
theorem fo39_0 : fieldOff Tryz.prog 39 0 = some 0 := by kernel_rfl
theorem fo39_1 : fieldOff Tryz.prog 39 1 = some 1 := by kernel_rfl
theorem fo39_2 : fieldOff Tryz.prog 39 2 = some 2 := by kernel_rfl
theorem fo39_3 : fieldOff Tryz.prog 39 3 = some 3 := by kernel_rfl
theorem fo39_4 : fieldOff Tryz.prog 39 4 = some 4 := by kernel_rfl
theorem fo49_0 : fieldOff Tryz.prog 49 0 = some 0 := by kernel_rfl
theorem fo49_1 : fieldOff Tryz.prog 49 1 = some 13 := by kernel_rfl
theorem fo49_2 : fieldOff Tryz.prog 49 2 = some 17 := by kernel_rfl
theorem fo49_3 : fieldOff Tryz.prog 49 3 = some 19 := by kernel_rfl
theorem fo49_4 : fieldOff Tryz.prog 49 4 = some 20 := by kernel_rfl
theorem fo68_0 : fieldOff Tryz.prog 68 0 = some 0 := by kernel_rfl
theorem fo68_1 : fieldOff Tryz.prog 68 1 = some 1 := by kernel_rfl
theorem fo68_2 : fieldOff Tryz.prog 68 2 = some 2 := by kernel_rfl
theorem fo68_3 : fieldOff Tryz.prog 68 3 = some 3 := by kernel_rfl
theorem isl154 : (Tryz.prog.underlying 154).any (fun d => match d with | .slice _ => true | _ => false) = true := by kernel_rfl
theorem isl157 : (Tryz.prog.underlying 157).any (fun d => match d with | .slice _ => true | _ => false) = true := by kernel_rfl
theorem isl22 : (Tryz.prog.underlying 22).any (fun d => match d with | .slice _ => true | _ => false) = true := by kernel_rfl
theorem isl36 : (Tryz.prog.underlying 36).any (fun d => match d with | .slice _ => true | _ => false) = true := by kernel_rfl
theorem isl37 : (Tryz.prog.underlying 37).any (fun d => match d with | .slice _ => true | _ => false) = true := by kernel_rfl
theorem isl53 : (Tryz.prog.underlying 53).any (fun d => match d with | .slice _ => true | _ => false) = true := by kernel_rfl
theorem ist9 : (Tryz.prog.underlying 9).any (fun d => match d with | .string => true | _ => false) = true := by kernel_rfl
theorem lv140 : leaves Tryz.prog 10 140 = some [.int .i64, .int .i64] := by kernel_rfl
theorem lv177 : leaves Tryz.prog 10 177 = some [.int .i64, .int .i64] := by kernel_rfl
theorem lv24 : leaves Tryz.prog 10 24 = some [.int .i64, .int .i64] := by kernel_rfl
theorem lv28 : leaves Tryz.prog 10 28 = some [.int .i64, .int .i64, .int .i64, .int .i64, .int .i64, .int .i64, .int .i64, .int .i64, .int .i64, .int .i64, .int .i64, .int .i64, .int .i64] := by kernel_rfl
theorem lv30 : leaves Tryz.prog 10 30 = some [.int .i64, .int .i64, .int .i64, .int .i64] := by kernel_rfl
theorem lv42 : leaves Tryz.prog 10 42 = some [.int .i64, .int .i64, .int .i64] := by kernel_rfl
theorem lv49 : leaves Tryz.prog 10 49 = some [.int .i64, .int .i64, .int .i64, .int .i64, .int .i64, .int .i64, .int .i64, .int .i64, .int .i64, .int .i64, .int .i64, .int .i64, .int .i64, .int .i64, .int .i64, .int .i64, .int .i64, .int .i64, .int .i64, .int .i64, .int .i64] := by kernel_rfl
theorem pl102 : placesOf Tryz.prog 102 = some [(0, 13), (13, 1)] := by kernel_rfl
theorem pl140 : placesOf Tryz.prog 140 = some [(0, 1), (1, 1)] := by kernel_rfl
theorem pl148 : placesOf Tryz.prog 148 = some [(0, 2)] := by kernel_rfl
theorem pl172 : placesOf Tryz.prog 172 = some [(0, 5), (5, 1), (6, 1)] := by kernel_rfl
theorem pl177 : placesOf Tryz.prog 177 = some [(0, 1), (1, 1)] := by kernel_rfl
theorem pl24 : placesOf Tryz.prog 24 = some [(0, 1), (1, 1)] := by kernel_rfl
theorem pl26 : placesOf Tryz.prog 26 = some [(0, 1), (1, 2), (3, 1), (4, 1)] := by kernel_rfl
theorem pl28 : placesOf Tryz.prog 28 = some [(0, 1), (1, 2), (3, 2), (5, 2), (7, 2), (9, 2), (11, 2)] := by kernel_rfl
theorem pl30 : placesOf Tryz.prog 30 = some [(0, 2), (2, 2)] := by kernel_rfl
theorem pl39 : placesOf Tryz.prog 39 = some [(0, 1), (1, 1), (2, 1), (3, 1), (4, 1)] := by kernel_rfl
theorem pl42 : placesOf Tryz.prog 42 = some [(0, 1), (1, 1), (2, 1)] := by kernel_rfl
theorem pl49 : placesOf Tryz.prog 49 = some [(0, 13), (13, 4), (17, 2), (19, 1), (20, 1)] := by kernel_rfl
theorem pl68 : placesOf Tryz.prog 68 = some [(0, 1), (1, 1), (2, 1), (3, 1)] := by kernel_rfl
theorem sz102 : tySize Tryz.prog 102 = some 14 := by kernel_rfl
theorem sz132 : tySize Tryz.prog 132 = some 6 := by kernel_rfl
theorem sz138 : tySize Tryz.prog 138 = some 5 := by kernel_rfl
theorem sz140 : tySize Tryz.prog 140 = some 2 := by kernel_rfl
theorem sz148 : tySize Tryz.prog 148 = some 2 := by kernel_rfl
theorem sz159 : tySize Tryz.prog 159 = some 1 := by kernel_rfl
theorem sz177 : tySize Tryz.prog 177 = some 2 := by kernel_rfl
theorem sz187 : tySize Tryz.prog 187 = some 1 := by kernel_rfl
theorem sz24 : tySize Tryz.prog 24 = some 2 := by kernel_rfl
theorem sz26 : tySize Tryz.prog 26 = some 5 := by kernel_rfl
theorem sz28 : tySize Tryz.prog 28 = some 13 := by kernel_rfl
theorem sz3 : tySize Tryz.prog 3 = some 1 := by kernel_rfl
theorem sz30 : tySize Tryz.prog 30 = some 4 := by kernel_rfl
theorem sz34 : tySize Tryz.prog 34 = some 1 := by kernel_rfl
theorem sz39 : tySize Tryz.prog 39 = some 5 := by kernel_rfl
theorem sz4 : tySize Tryz.prog 4 = some 1 := by kernel_rfl
theorem sz42 : tySize Tryz.prog 42 = some 3 := by kernel_rfl
theorem sz49 : tySize Tryz.prog 49 = some 21 := by kernel_rfl
theorem sz53 : tySize Tryz.prog 53 = some 1 := by kernel_rfl
theorem sz68 : tySize Tryz.prog 68 = some 4 := by kernel_rfl
theorem sz72 : tySize Tryz.prog 72 = some 1 := by kernel_rfl
theorem sz92 : tySize Tryz.prog 92 = some 1 := by kernel_rfl
theorem sz93 : tySize Tryz.prog 93 = some 6 := by kernel_rfl
theorem sz97 : tySize Tryz.prog 97 = some 1 := by kernel_rfl
theorem un113 : Tryz.prog.underlying 113 = some (.array 3 34) := by kernel_rfl
theorem un136 : Tryz.prog.underlying 136 = some (.map 140 4) := by kernel_rfl
theorem un154 : Tryz.prog.underlying 154 = some (.slice 34) := by kernel_rfl
theorem un157 : Tryz.prog.underlying 157 = some (.slice 5) := by kernel_rfl
theorem un170 : Tryz.prog.underlying 170 = some (.map 177 148) := by kernel_rfl
theorem un193 : Tryz.prog.underlying 193 = some (.slice 187) := by kernel_rfl
theorem un22 : Tryz.prog.underlying 22 = some (.slice 68) := by kernel_rfl
theorem un5 : Tryz.prog.underlying 5 = some (.int .u8) := by kernel_rfl
theorem un53 : Tryz.prog.underlying 53 = some (.slice 3) := by kernel_rfl
theorem un9 : Tryz.prog.underlying 9 = some (.string) := by kernel_rfl
theorem un93 : Tryz.prog.underlying 93 = some (.array 6 92) := by kernel_rfl
theorem zr102 : tyZero Tryz.prog 102 = some (.agg #[.int .i64 0, .int .i64 0, .int .i64 0, .int .i64 0, .int .i64 0, .int .i64 0, .int .i64 0, .int .i64 0, .int .i64 0, .int .i64 0, .int .i64 0, .int .i64 0, .int .i64 0, .int .i64 0]) := by kernel_rfl
theorem zr113 : tyZero Tryz.prog 113 = some (.agg #[.nilFunc, .nilFunc, .nilFunc]) := by kernel_rfl
theorem zr132 : tyZero Tryz.prog 132 = some (.agg #[.string ByteArray.empty, .int .i64 0, .int .i64 0, .int .i64 0, .int .i64 0, .int .i64 0]) := by kernel_rfl
theorem zr138 : tyZero Tryz.prog 138 = some (.agg #[.int .i64 0, .int .i64 0, .int .i64 0, .int .i64 0, .int .i64 0]) := by kernel_rfl
theorem zr140 : tyZero Tryz.prog 140 = some (.agg #[.int .i64 0, .int .i64 0]) := by kernel_rfl
theorem zr148 : tyZero Tryz.prog 148 = some (.agg #[.int .i64 0, .int .i64 0]) := by kernel_rfl
theorem zr159 : tyZero Tryz.prog 159 = some (.pointer none) := by kernel_rfl
theorem zr172 : tyZero Tryz.prog 172 = some (.agg #[.int .i64 0, .int .i64 0, .int .i64 0, .slice none 0 0, .slice none 0 0, .slice none 0 0, .map none]) := by kernel_rfl
theorem zr177 : tyZero Tryz.prog 177 = some (.agg #[.int .i64 0, .int .i64 0]) := by kernel_rfl
theorem zr187 : tyZero Tryz.prog 187 = some (.nilFunc) := by kernel_rfl
theorem zr24 : tyZero Tryz.prog 24 = some (.agg #[.int .i64 0, .int .i64 0]) := by kernel_rfl
theorem zr26 : tyZero Tryz.prog 26 = some (.agg #[.slice none 0 0, .int .i64 0, .int .i64 0, .int .i64 0, .int .i64 0]) := by kernel_rfl
theorem zr28 : tyZero Tryz.prog 28 = some (.agg #[.int .i64 0, .int .i64 0, .int .i64 0, .int .i64 0, .int .i64 0, .int .i64 0, .int .i64 0, .int .i64 0, .int .i64 0, .int .i64 0, .int .i64 0, .int .i64 0, .int .i64 0]) := by kernel_rfl
theorem zr3 : tyZero Tryz.prog 3 = some (.int .i64 0) := by kernel_rfl
theorem zr30 : tyZero Tryz.prog 30 = some (.agg #[.int .i64 0, .int .i64 0, .int .i64 0, .int .i64 0]) := by kernel_rfl
theorem zr34 : tyZero Tryz.prog 34 = some (.nilFunc) := by kernel_rfl
theorem zr39 : tyZero Tryz.prog 39 = some (.agg #[.int .i64 0, .int .i64 0, .int .i64 0, .slice none 0 0, .slice none 0 0]) := by kernel_rfl
theorem zr4 : tyZero Tryz.prog 4 = some (.bool false) := by kernel_rfl
theorem zr42 : tyZero Tryz.prog 42 = some (.agg #[.int .i64 0, .int .i64 0, .int .i64 0]) := by kernel_rfl
theorem zr49 : tyZero Tryz.prog 49 = some (.agg #[.int .i64 0, .int .i64 0, .int .i64 0, .int .i64 0, .int .i64 0, .int .i64 0, .int .i64 0, .int .i64 0, .int .i64 0, .int .i64 0, .int .i64 0, .int .i64 0, .int .i64 0, .int .i64 0, .int .i64 0, .int .i64 0, .int .i64 0, .int .i64 0, .int .i64 0, .int .i64 0, .int .i64 0]) := by kernel_rfl
theorem zr68 : tyZero Tryz.prog 68 = some (.agg #[.int .i64 0, .int .i64 0, .int .i64 0, .int .i64 0]) := by kernel_rfl
theorem zr72 : tyZero Tryz.prog 72 = some (.nilIface) := by kernel_rfl
theorem zr93 : tyZero Tryz.prog 93 = some (.agg #[.pointer none, .pointer none, .pointer none, .pointer none, .pointer none, .pointer none]) := by kernel_rfl
theorem zr97 : tyZero Tryz.prog 97 = some (.nilFunc) := by kernel_rfl
end Go.Proofs.YtlcccpeelombbaaGreatDoor

/- YtlcccpeelombbaaGreatDoor: what the small functions of packages track, wind and slices compute, and the checks of a task. -/
set_option linter.all false
namespace Go.Proofs.YtlcccpeelombbaaGreatDoor
open Go.Vc Go.Tk
set_option maxRecDepth 100000
theorem out_c (n lo hi : Int) (w : World) : FnP Tryz.prog 87 [.int .i64 n, .int .i64 lo, .int .i64 hi] w (.bool (oP n lo hi)) := by
 refine fn_pure Tryz.func87 rfl (by kernel_rfl) Tryz.ntmps87 Tryz.results87 rfl ?_
 refine Vs rfl ?_
 refine La rfl rfl rfl ?_
 refine L_then (kp [0, 1, 2] rfl) ?_
 refine Vs rfl ?_
 iterate 2 refine Lm rfl rfl rfl ?_
 refine Lp rfl (p_lss rfl rfl rfl) ?_
 refine Lm rfl rfl rfl ?_
 refine L_cases (d := 10) rfl ?_ ?_
 ·intro g1; have g1' := g1; try simp only [td] at g1'
  iterate 3 refine L_no rfl rfl rfl g1 ?_
  refine Lp rfl (p_pick_t rfl rfl g1 rfl) ?_
  refine La rfl rfl rfl ?_
  refine L_then (kp [6] rfl) ?_
  refine V_ret ?_
  refine Leave.nil (.tmp rfl .nil) ?_
  simp [tup, oP, *]
 intro g1; have g1' := g1; try simp only [td] at g1'
 refine L_yes rfl rfl rfl g1 (X_p (p_move rfl rfl) ?_)
 refine L_yes rfl rfl rfl g1 (X_p (p_move rfl rfl) ?_)
 refine L_yes rfl rfl rfl g1 (X_p (p_gtr rfl rfl rfl) ?_)
 refine Lp rfl (p_pick_f rfl rfl g1 rfl) ?_
 refine La rfl rfl rfl ?_
 refine L_then (kp [6] rfl) ?_
 refine V_ret ?_
 refine Leave.nil (.tmp rfl .nil) ?_
 simp [tup, oP, *]
theorem wout_c (n lo hi : Int) (w : World) : FnP Tryz.prog 109 [.int .i64 n, .int .i64 lo, .int .i64 hi] w (.bool (oP n lo hi)) := by
 refine fn_pure Tryz.func109 rfl (by kernel_rfl) Tryz.ntmps109 Tryz.results109 rfl ?_
 refine Vs rfl ?_
 refine La rfl rfl rfl ?_
 refine L_then (kp [0, 1, 2] rfl) ?_
 refine Vs rfl ?_
 iterate 2 refine Lm rfl rfl rfl ?_
 refine Lp rfl (p_lss rfl rfl rfl) ?_
 refine Lm rfl rfl rfl ?_
 refine L_cases (d := 10) rfl ?_ ?_
 ·intro g1; have g1' := g1; try simp only [td] at g1'
  iterate 3 refine L_no rfl rfl rfl g1 ?_
  refine Lp rfl (p_pick_t rfl rfl g1 rfl) ?_
  refine La rfl rfl rfl ?_
  refine L_then (kp [6] rfl) ?_
  refine V_ret ?_
  refine Leave.nil (.tmp rfl .nil) ?_
  simp [tup, oP, *]
 intro g1; have g1' := g1; try simp only [td] at g1'
 refine L_yes rfl rfl rfl g1 (X_p (p_move rfl rfl) ?_)
 refine L_yes rfl rfl rfl g1 (X_p (p_move rfl rfl) ?_)
 refine L_yes rfl rfl rfl g1 (X_p (p_gtr rfl rfl rfl) ?_)
 refine Lp rfl (p_pick_f rfl rfl g1 rfl) ?_
 refine La rfl rfl rfl ?_
 refine L_then (kp [6] rfl) ?_
 refine V_ret ?_
 refine Leave.nil (.tmp rfl .nil) ?_
 simp [tup, oP, *]
theorem never1_c (n : Int) (w : World) : FnP Tryz.prog 86 [.int .i64 n] w (.bool (oP n 0 100000)) := by
 refine fn_pure Tryz.func86 rfl (by kernel_rfl) Tryz.ntmps86 Tryz.results86 rfl ?_
 refine Vs rfl ?_
 refine La rfl rfl rfl ?_
 refine L_then (kp [0] rfl) ?_
 refine Vs rfl ?_
 refine Lm rfl rfl rfl ?_
 refine Lc rfl rfl rfl rfl (fun w hg => out_c _ _ _ w) ?_
 refine La rfl rfl rfl ?_
 refine L_then (kp [2] rfl) ?_
 refine V_ret ?_
 refine Leave.nil (.tmp rfl .nil) ?_
 rfl
theorem idxInt_c (l : List Int) (v : Value) (fid : Nat) (cap : Array Value) (p : Int → Bool) (w : World) (hv : SliceR w 1 v (l.map (fun n : Int => [Value.int .i64 n]))) (hl : (l.length : Int) ≤ 9223372036854775806) (hf : ∀ x w', Ext w w' → FnP Tryz.prog fid (.int .i64 x :: cap.toList) w' (.bool (p x))) : FnP Tryz.prog 95 [v, .func (.func fid) #[] cap] w (.int .i64 (firstIdx (fun i => p (l.getD i 0)) 0 l.length)) := by
 obtain ⟨a, ca, rfl, hcap, hel⟩ := hv.ex
 simp only [List.length_map]
 refine fn_pure Tryz.func95 rfl (by kernel_rfl) Tryz.ntmps95 Tryz.results95 rfl ?_
 refine Vs rfl ?_
 refine La rfl rfl rfl ?_
 refine L_then (kp [0, 1] rfl) ?_
 refine V_seq ?_
 refine Vs rfl ?_
 refine Lm rfl rfl rfl ?_
 refine Lp rfl (p_len isl53 rfl rfl) ?_
 refine Lm rfl rfl rfl ?_
 refine L_then (kp [0, 1, 7, 8] rfl) ?_
 refine V_block ?_
 refine V_loop0 (γ := Int) (kp [0, 1, 7] rfl) (fun k => [(8, .int .i64 k)]) (fun k => 0 ≤ k ∧ k ≤ l.length ∧ ∀ j : Nat, (j : Int) < k → p (l.getD j 0) = false) (fun k => (l.length - k).toNat) (0) (.cons rfl (.nil _)) (⟨by omega, by omega, fun j hj => by omega⟩) ?_
 rintro k hi
 obtain ⟨hk0, hk1, hkp⟩ := hi
 refine Vs rfl ?_
 refine Lp rfl (p_lss rfl rfl rfl) ?_
 refine L_then (kp [0, 1, 7, 8, 9] rfl) ?_
 refine V_seq ?_
 refine V_cond rfl ?_ ?_
 ·intro c1; try simp only [td] at c1
  obtain ⟨b, rfl, hc⟩ := hel k.toNat _ (getD_cells (d := 0) (by omega))
  refine V_skip (then_n ?_)
  refine V_seq ?_
  refine V_block ?_
  refine Vs rfl ?_
  refine Lm rfl rfl rfl ?_
  refine La rfl rfl rfl ?_
  refine L_then (kp [0, 1, 5, 7, 8] rfl) ?_
  refine Vs rfl ?_
  iterate 3 refine Lm rfl rfl rfl ?_
  refine Lp rfl (p_idx es53 rfl rfl rfl (by omega) (by omega)) ?_
  refine Lr rfl (r_loadB ag3 rfl rfl (hc.zero) List.not_mem_nil) ?_
  refine Lc rfl rfl rfl rfl (fun w hg => hf _ w hg.toExt) ?_
  refine L_then (kp [0, 1, 5, 7, 8, 16] rfl) ?_
  refine V_cond rfl ?_ ?_
  ·intro c2; try simp only [td] at c2
   refine Vs rfl ?_
   refine Lm rfl rfl rfl ?_
   refine La rfl rfl rfl ?_
   refine L_then (kp [4] rfl) ?_
   refine V_ret (blk_r (then_r (then_r (blk_r (then_r ?_)))))
   refine Leave.nil (.tmp rfl .nil) ?_
   show Value.int .i64 k = _
   rw [firstIdx_hit (p := fun i => p (l.getD i 0)) (k := k.toNat) (by omega) c2 (fun j hj => hkp j (by omega))]
   congr 1; omega
  intro c2; try simp only [td] at c2
  refine V_skip (blk_n (then_n ?_))
  refine V_region rfl ?_
  first | refine Lp rfl (p_add' rfl rfl rfl (by unfold InI; omega)) ?_ | refine Lp rfl (p_add rfl rfl rfl) ?_
  refine Lm rfl rfl rfl ?_
  refine L_keep (kp [0, 1, 7, 8] rfl) (then_n ?_)
  refine ⟨k + 1, ?_, ?_, (.cons rfl (.cons rfl (.cons rfl (.cons rfl (.nil _))))), (by repeat (first | exact List.Sublist.refl _ | apply List.Sublist.cons_cons | apply List.Sublist.cons | apply List.sublist_append_of_sublist_right)), rfl⟩
  ·refine ⟨by omega, by omega, fun j hj => ?_⟩; by_cases e : (j : Int) < k
   ·exact hkp j e
   have : j = k.toNat := by omega
   rw [this]; exact c2
  omega
 intro c1; try simp only [td] at c1
 refine V_exit (then_e (then_e (blk_e rfl (then_n ?_))))
 refine Vs rfl ?_
 refine La rfl rfl rfl ?_
 refine L_then (kp [4] rfl) ?_
 refine V_ret ?_
 refine Leave.nil (.tmp rfl .nil) ?_
 show Value.int .i64 (-1) = _
 rw [firstIdx_none (p := fun i => p (l.getD i 0)) (fun j hj => hkp j (by omega))]
theorem contInt_c (l : List Int) (v : Value) (fid : Nat) (cap : Array Value) (p : Int → Bool) (w : World) (hv : SliceR w 1 v (l.map (fun n : Int => [Value.int .i64 n]))) (hl : (l.length : Int) ≤ 9223372036854775806) (hf : ∀ x w', Ext w w' → FnP Tryz.prog fid (.int .i64 x :: cap.toList) w' (.bool (p x))) : FnP Tryz.prog 70 [v, .func (.func fid) #[] cap] w (.bool (l.any p)) := by
 refine fn_pure Tryz.func70 rfl (by kernel_rfl) Tryz.ntmps70 Tryz.results70 rfl ?_
 refine Vs rfl ?_
 refine La rfl rfl rfl ?_
 refine L_then (kp [0, 1] rfl) ?_
 refine Vs rfl ?_
 iterate 2 refine Lm rfl rfl rfl ?_
 refine Lc rfl rfl rfl rfl (fun w hg => idxInt_c l _ _ _ p w (hv.good hg) hl (fun x w' he => hf x w' (hg.toExt.trans he))) ?_
 refine Lp rfl (p_geq rfl rfl rfl) ?_
 refine La rfl rfl rfl ?_
 refine L_then (kp [4] rfl) ?_
 refine V_ret ?_
 refine Leave.nil (.tmp rfl .nil) ?_
 show Value.bool _ = _
 rw [firstIdx_any, anyIdx_list]
theorem idxTr_c (l : List Tracker) (v : Value) (fid : Nat) (cap : Array Value) (p : Tracker → Bool) (w : World) (hv : SliceR w 6 v (l.map (Tracker.cells))) (hl : (l.length : Int) ≤ 9223372036854775806) (hf : ∀ x w', Ext w w' → FnP Tryz.prog fid (.agg (Tracker.cells x).toArray :: cap.toList) w' (.bool (p x))) : FnP Tryz.prog 110 [v, .func (.func fid) #[] cap] w (.int .i64 (firstIdx (fun i => p (l.getD i trZ)) 0 l.length)) := by
 obtain ⟨a, ca, rfl, hcap, hel⟩ := hv.ex
 simp only [List.length_map]
 refine fn_pure Tryz.func110 rfl (by kernel_rfl) Tryz.ntmps110 Tryz.results110 rfl ?_
 refine Vs rfl ?_
 refine La rfl rfl rfl ?_
 refine L_then (kp [0, 1] rfl) ?_
 refine V_seq ?_
 refine Vs rfl ?_
 refine Lm rfl rfl rfl ?_
 refine Lp rfl (p_len isl36 rfl rfl) ?_
 refine Lm rfl rfl rfl ?_
 refine L_then (kp [0, 1, 7, 8] rfl) ?_
 refine V_block ?_
 refine V_loop0 (γ := Int) (kp [0, 1, 7] rfl) (fun k => [(8, .int .i64 k)]) (fun k => 0 ≤ k ∧ k ≤ l.length ∧ ∀ j : Nat, (j : Int) < k → p (l.getD j trZ) = false) (fun k => (l.length - k).toNat) (0) (.cons rfl (.nil _)) (⟨by omega, by omega, fun j hj => by omega⟩) ?_
 rintro k hi
 obtain ⟨hk0, hk1, hkp⟩ := hi
 refine Vs rfl ?_
 refine Lp rfl (p_lss rfl rfl rfl) ?_
 refine L_then (kp [0, 1, 7, 8, 9] rfl) ?_
 refine V_seq ?_
 refine V_cond rfl ?_ ?_
 ·intro c1; try simp only [td] at c1
  obtain ⟨b, rfl, hc⟩ := hel k.toNat _ (getD_cells (d := trZ) (by omega))
  refine V_skip (then_n ?_)
  refine V_seq ?_
  refine V_block ?_
  refine Vs rfl ?_
  refine Lm rfl rfl rfl ?_
  refine La rfl rfl rfl ?_
  refine L_then (kp [0, 1, 5, 7, 8] rfl) ?_
  refine Vs rfl ?_
  iterate 3 refine Lm rfl rfl rfl ?_
  refine Lp rfl (p_idx es36 rfl rfl rfl (by omega) (by omega)) ?_
  refine Lr rfl (r_loadBA ag132 sz132 rfl rfl hc rfl List.not_mem_nil) ?_
  refine Lc rfl rfl rfl rfl (fun w hg => hf _ w hg.toExt) ?_
  refine L_then (kp [0, 1, 5, 7, 8, 16] rfl) ?_
  refine V_cond rfl ?_ ?_
  ·intro c2; try simp only [td] at c2
   refine Vs rfl ?_
   refine Lm rfl rfl rfl ?_
   refine La rfl rfl rfl ?_
   refine L_then (kp [4] rfl) ?_
   refine V_ret (blk_r (then_r (then_r (blk_r (then_r ?_)))))
   refine Leave.nil (.tmp rfl .nil) ?_
   show Value.int .i64 k = _
   rw [firstIdx_hit (p := fun i => p (l.getD i trZ)) (k := k.toNat) (by omega) c2 (fun j hj => hkp j (by omega))]
   congr 1; omega
  intro c2; try simp only [td] at c2
  refine V_skip (blk_n (then_n ?_))
  refine V_region rfl ?_
  first | refine Lp rfl (p_add' rfl rfl rfl (by unfold InI; omega)) ?_ | refine Lp rfl (p_add rfl rfl rfl) ?_
  refine Lm rfl rfl rfl ?_
  refine L_keep (kp [0, 1, 7, 8] rfl) (then_n ?_)
  refine ⟨k + 1, ?_, ?_, (.cons rfl (.cons rfl (.cons rfl (.cons rfl (.nil _))))), (by repeat (first | exact List.Sublist.refl _ | apply List.Sublist.cons_cons | apply List.Sublist.cons | apply List.sublist_append_of_sublist_right)), rfl⟩
  ·refine ⟨by omega, by omega, fun j hj => ?_⟩; by_cases e : (j : Int) < k
   ·exact hkp j e
   have : j = k.toNat := by omega
   rw [this]; exact c2
  omega
 intro c1; try simp only [td] at c1
 refine V_exit (then_e (then_e (blk_e rfl (then_n ?_))))
 refine Vs rfl ?_
 refine La rfl rfl rfl ?_
 refine L_then (kp [4] rfl) ?_
 refine V_ret ?_
 refine Leave.nil (.tmp rfl .nil) ?_
 show Value.int .i64 (-1) = _
 rw [firstIdx_none (p := fun i => p (l.getD i trZ)) (fun j hj => hkp j (by omega))]
theorem contTr_c (l : List Tracker) (v : Value) (fid : Nat) (cap : Array Value) (p : Tracker → Bool) (w : World) (hv : SliceR w 6 v (l.map (Tracker.cells))) (hl : (l.length : Int) ≤ 9223372036854775806) (hf : ∀ x w', Ext w w' → FnP Tryz.prog fid (.agg (Tracker.cells x).toArray :: cap.toList) w' (.bool (p x))) : FnP Tryz.prog 93 [v, .func (.func fid) #[] cap] w (.bool (l.any p)) := by
 refine fn_pure Tryz.func93 rfl (by kernel_rfl) Tryz.ntmps93 Tryz.results93 rfl ?_
 refine Vs rfl ?_
 refine La rfl rfl rfl ?_
 refine L_then (kp [0, 1] rfl) ?_
 refine Vs rfl ?_
 iterate 2 refine Lm rfl rfl rfl ?_
 refine Lc rfl rfl rfl rfl (fun w hg => idxTr_c l _ _ _ p w (hv.good hg) hl (fun x w' he => hf x w' (hg.toExt.trans he))) ?_
 refine Lp rfl (p_geq rfl rfl rfl) ?_
 refine La rfl rfl rfl ?_
 refine L_then (kp [4] rfl) ?_
 refine V_ret ?_
 refine Leave.nil (.tmp rfl .nil) ?_
 show Value.bool _ = _
 rw [firstIdx_any, anyIdx_list]
theorem wname_c (s : ByteArray) (hs : (s.size : Int) ≤ 9223372036854775807) (w : World) : FnP Tryz.prog 92 [.string s] w (.bool (nameOk s)) := by
 refine fn_pure Tryz.func92 rfl (by kernel_rfl) Tryz.ntmps92 Tryz.results92 rfl ?_
 refine Vs rfl ?_
 refine La rfl rfl rfl ?_
 refine L_then (kp [0] rfl) ?_
 refine V_seq ?_
 refine Vs rfl ?_
 refine Lm rfl rfl rfl ?_
 refine Lw rfl (w_bytes un9 un157 un5 rfl rfl) ?_
 rintro _ _ ⟨b1, cap1, pad1, fr1, hb1, rfl, rfl⟩
 refine Lp rfl (p_len isl157 rfl rfl) ?_
 refine Lm rfl rfl rfl ?_
 refine L_then (kp [0, 6, 7, 8] rfl) ?_
 refine V_block ?_
 refine V_loop0 (γ := Int) (kp [0, 6, 7] rfl) (fun k => [(8, .int .i64 k)]) (fun k => 0 ≤ k ∧ k ≤ s.size ∧ ∀ j : Nat, (j : Int) < k → nameC s j = true) (fun k => (s.size - k).toNat) (0) (.cons rfl (.nil _)) (⟨by omega, by omega, fun j hj => by omega⟩) ?_
 rintro k hi
 obtain ⟨hk0, hk1, hkn⟩ := hi
 refine Vs rfl ?_
 refine Lp rfl (p_lss rfl rfl rfl) ?_
 refine L_then (kp [0, 6, 7, 8, 9] rfl) ?_
 refine V_seq ?_
 refine V_cond rfl ?_ ?_
 ·intro c1; try simp only [td] at c1
  refine V_skip (then_n ?_)
  refine V_seq ?_
  refine V_block ?_
  refine Vs rfl ?_
  refine Lm rfl rfl rfl ?_
  refine Lp rfl (p_idxo es157 rfl rfl rfl (by omega) (by omega)) ?_
  refine Lr rfl (r_load ag5 rfl rfl (by repeat first | exact mH | apply mT) (bytes_at (by omega))) ?_
  iterate 2 refine La rfl rfl rfl ?_
  refine L_then (kp [0, 3, 4, 6, 7, 8] rfl) ?_
  refine Vs rfl ?_
  refine Lm rfl rfl rfl ?_
  refine Lp rfl (p_geq rfl rfl rfl) ?_
  refine Lm rfl rfl rfl ?_
  refine L_cases (d := 15) rfl ?_ ?_
  ·intro g1; have g1' := g1; try simp only [td] at g1'
   refine L_yes rfl rfl rfl g1 (X_p (p_move rfl rfl) ?_)
   refine L_yes rfl rfl rfl g1 (X_p (p_leq rfl rfl rfl) ?_)
   refine Lp rfl (p_pick_t rfl rfl g1 rfl) ?_
   refine Lp rfl (p_not rfl rfl) ?_
   refine Lm rfl rfl rfl ?_
   refine L_cases (d := 20) rfl ?_ ?_
   ·intro g2; have g2' := g2; try simp only [td] at g2'
    refine L_yes rfl rfl rfl g2 (X_p (p_move rfl rfl) ?_)
    refine L_yes rfl rfl rfl g2 (X_p (p_eql rfl rfl rfl) ?_)
    refine L_yes rfl rfl rfl g2 (X_p (p_move rfl rfl) ?_)
    refine L_cases (d := 23) rfl ?_ ?_
    ·intro g3; have g3' := g3; try simp only [td] at g3'
     iterate 3 refine L_no rfl rfl rfl g3 ?_
     iterate 7 refine L_nou rfl rfl rfl ?_
     refine L_no rfl rfl rfl g3 ?_
     refine L_yes rfl rfl rfl g2 (X_p (p_pick_t rfl rfl g3 rfl) ?_)
     refine Lp rfl (p_pick_t rfl rfl g2 rfl) ?_
     refine L_then (kp [0, 6, 7, 8, 36] rfl) ?_
     refine V_cond_t rfl rfl ?_
     refine Vs rfl ?_
     refine La rfl rfl rfl ?_
     refine L_then (kp [2] rfl) ?_
     refine V_ret (blk_r (then_r (then_r (blk_r (then_r ?_)))))
     refine Leave.nil (.tmp rfl .nil) ?_
     first | (show Value.bool false = _; rw [nameOk_bad (k := k.toNat) (by omega) (by simp only [nameC, small, Bool.or_eq_true, Bool.and_eq_true, decide_eq_true_eq, decide_eq_false_iff_not, ← Bool.not_eq_true]; omega)]; done) | (show Value.bool (!(oP _ _ _)) = _; rw [nameOk_end (fun j hj => hkn j (by omega))])
    intro g3; have g3' := g3; try simp only [td] at g3'
    refine L_yes rfl rfl rfl g3 (X_p (p_move rfl rfl) ?_)
    refine L_yes rfl rfl rfl g3 (X_p (p_neq rfl rfl rfl) ?_)
    refine L_yes rfl rfl rfl g3 (X_p (p_move rfl rfl) ?_)
    refine L_cases (d := 26) rfl ?_ ?_
    ·intro g4; have g4' := g4; try simp only [td] at g4'
     refine L_yes rfl rfl rfl g4 (X_p (p_move rfl rfl) ?_)
     refine L_yes rfl rfl rfl g4 (X_p (p_geq rfl rfl rfl) ?_)
     refine L_yes rfl rfl rfl g4 (X_p (p_move rfl rfl) ?_)
     refine L_cases (d := 29) rfl ?_ ?_
     ·intro g5; have g5' := g5; try simp only [td] at g5'
      refine L_yes rfl rfl rfl g5 (X_p (p_move rfl rfl) ?_)
      refine L_yes rfl rfl rfl g5 (X_p (p_leq rfl rfl rfl) ?_)
      refine L_yes rfl rfl rfl g4 (X_p (p_pick_t rfl rfl g5 rfl) ?_)
      refine L_yes rfl rfl rfl g4 (X_p (p_not rfl rfl) ?_)
      refine L_yes rfl rfl rfl g3 (X_p (p_pick_t rfl rfl g4 rfl) ?_)
      refine L_yes rfl rfl rfl g2 (X_p (p_pick_f rfl rfl g3 rfl) ?_)
      refine Lp rfl (p_pick_t rfl rfl g2 rfl) ?_
      refine L_then (kp [0, 6, 7, 8, 36] rfl) ?_
      refine V_cond rfl ?_ ?_
      ·intro c2; try simp only [td] at c2
       refine Vs rfl ?_
       refine La rfl rfl rfl ?_
       refine L_then (kp [2] rfl) ?_
       refine V_ret (blk_r (then_r (then_r (blk_r (then_r ?_)))))
       refine Leave.nil (.tmp rfl .nil) ?_
       first | (show Value.bool false = _; rw [nameOk_bad (k := k.toNat) (by omega) (by simp only [nameC, small, Bool.or_eq_true, Bool.and_eq_true, decide_eq_true_eq, decide_eq_false_iff_not, ← Bool.not_eq_true]; omega)]; done) | (show Value.bool (!(oP _ _ _)) = _; rw [nameOk_end (fun j hj => hkn j (by omega))])
      intro c2; try simp only [td] at c2
      refine V_skip (blk_n (then_n ?_))
      refine V_region rfl ?_
      first | refine Lp rfl (p_add' rfl rfl rfl (by unfold InI; omega)) ?_ | refine Lp rfl (p_add rfl rfl rfl) ?_
      refine Lm rfl rfl rfl ?_
      refine L_keep (kp [0, 6, 7, 8] rfl) (then_n ?_)
      refine ⟨k + 1, ?_, ?_, (.cons rfl (.cons rfl (.cons rfl (.cons rfl (.nil _))))), (by repeat (first | exact List.Sublist.refl _ | apply List.Sublist.cons_cons | apply List.Sublist.cons | apply List.sublist_append_of_sublist_right)), rfl⟩
      ·refine ⟨by omega, by omega, fun j hj => ?_⟩; by_cases e : (j : Int) < k
       ·exact hkn j e
       have ej : j = k.toNat := by omega
       rw [ej]; simp only [nameC, small, Bool.or_eq_true, Bool.and_eq_true, decide_eq_true_eq, decide_eq_false_iff_not, ← Bool.not_eq_true]; omega
      omega
     intro g5; have g5' := g5; try simp only [td] at g5'
     iterate 2 refine L_no rfl rfl rfl g5 ?_
     refine L_yes rfl rfl rfl g4 (X_p (p_pick_f rfl rfl g5 rfl) ?_)
     refine L_yes rfl rfl rfl g4 (X_p (p_not rfl rfl) ?_)
     refine L_yes rfl rfl rfl g3 (X_p (p_pick_t rfl rfl g4 rfl) ?_)
     refine L_yes rfl rfl rfl g2 (X_p (p_pick_f rfl rfl g3 rfl) ?_)
     refine Lp rfl (p_pick_t rfl rfl g2 rfl) ?_
     refine L_then (kp [0, 6, 7, 8, 36] rfl) ?_
     refine V_cond_t rfl rfl ?_
     refine Vs rfl ?_
     refine La rfl rfl rfl ?_
     refine L_then (kp [2] rfl) ?_
     refine V_ret (blk_r (then_r (then_r (blk_r (then_r ?_)))))
     refine Leave.nil (.tmp rfl .nil) ?_
     first | (show Value.bool false = _; rw [nameOk_bad (k := k.toNat) (by omega) (by simp only [nameC, small, Bool.or_eq_true, Bool.and_eq_true, decide_eq_true_eq, decide_eq_false_iff_not, ← Bool.not_eq_true]; omega)]; done) | (show Value.bool (!(oP _ _ _)) = _; rw [nameOk_end (fun j hj => hkn j (by omega))])
    intro g4; have g4' := g4; try simp only [td] at g4'
    iterate 3 refine L_no rfl rfl rfl g4 ?_
    iterate 2 refine L_nou rfl rfl rfl ?_
    iterate 2 refine L_no rfl rfl rfl g4 ?_
    refine L_yes rfl rfl rfl g3 (X_p (p_pick_f rfl rfl g4 rfl) ?_)
    refine L_yes rfl rfl rfl g2 (X_p (p_pick_f rfl rfl g3 rfl) ?_)
    refine Lp rfl (p_pick_t rfl rfl g2 rfl) ?_
    refine L_then (kp [0, 6, 7, 8, 36] rfl) ?_
    refine V_cond_f rfl rfl ?_
    refine V_skip (blk_n (then_n ?_))
    refine V_region rfl ?_
    first | refine Lp rfl (p_add' rfl rfl rfl (by unfold InI; omega)) ?_ | refine Lp rfl (p_add rfl rfl rfl) ?_
    refine Lm rfl rfl rfl ?_
    refine L_keep (kp [0, 6, 7, 8] rfl) (then_n ?_)
    refine ⟨k + 1, ?_, ?_, (.cons rfl (.cons rfl (.cons rfl (.cons rfl (.nil _))))), (by repeat (first | exact List.Sublist.refl _ | apply List.Sublist.cons_cons | apply List.Sublist.cons | apply List.sublist_append_of_sublist_right)), rfl⟩
    ·refine ⟨by omega, by omega, fun j hj => ?_⟩; by_cases e : (j : Int) < k
     ·exact hkn j e
     have ej : j = k.toNat := by omega
     rw [ej]; simp only [nameC, small, Bool.or_eq_true, Bool.and_eq_true, decide_eq_true_eq, decide_eq_false_iff_not, ← Bool.not_eq_true]; omega
    omega
   intro g2; have g2' := g2; try simp only [td] at g2'
   iterate 3 refine L_no rfl rfl rfl g2 ?_
   iterate 11 refine L_nou rfl rfl rfl ?_
   refine L_no rfl rfl rfl g2 ?_
   refine Lp rfl (p_pick_f rfl rfl g2 rfl) ?_
   refine L_then (kp [0, 6, 7, 8, 36] rfl) ?_
   refine V_cond_f rfl rfl ?_
   refine V_skip (blk_n (then_n ?_))
   refine V_region rfl ?_
   first | refine Lp rfl (p_add' rfl rfl rfl (by unfold InI; omega)) ?_ | refine Lp rfl (p_add rfl rfl rfl) ?_
   refine Lm rfl rfl rfl ?_
   refine L_keep (kp [0, 6, 7, 8] rfl) (then_n ?_)
   refine ⟨k + 1, ?_, ?_, (.cons rfl (.cons rfl (.cons rfl (.cons rfl (.nil _))))), (by repeat (first | exact List.Sublist.refl _ | apply List.Sublist.cons_cons | apply List.Sublist.cons | apply List.sublist_append_of_sublist_right)), rfl⟩
   ·refine ⟨by omega, by omega, fun j hj => ?_⟩; by_cases e : (j : Int) < k
    ·exact hkn j e
    have ej : j = k.toNat := by omega
    rw [ej]; simp only [nameC, small, Bool.or_eq_true, Bool.and_eq_true, decide_eq_true_eq, decide_eq_false_iff_not, ← Bool.not_eq_true]; omega
   omega
  intro g1; have g1' := g1; try simp only [td] at g1'
  iterate 2 refine L_no rfl rfl rfl g1 ?_
  refine Lp rfl (p_pick_f rfl rfl g1 rfl) ?_
  refine Lp rfl (p_not rfl rfl) ?_
  refine Lm rfl rfl rfl ?_
  refine L_yes rfl rfl rfl rfl (X_p (p_move rfl rfl) ?_)
  refine L_yes rfl rfl rfl rfl (X_p (p_eql rfl rfl rfl) ?_)
  refine L_yes rfl rfl rfl rfl (X_p (p_move rfl rfl) ?_)
  refine L_cases (d := 23) rfl ?_ ?_
  ·intro g6; have g6' := g6; try simp only [td] at g6'
   iterate 3 refine L_no rfl rfl rfl g6 ?_
   iterate 7 refine L_nou rfl rfl rfl ?_
   refine L_no rfl rfl rfl g6 ?_
   refine L_yes rfl rfl rfl rfl (X_p (p_pick_t rfl rfl g6 rfl) ?_)
   refine Lp rfl (p_pick_t rfl rfl rfl rfl) ?_
   refine L_then (kp [0, 6, 7, 8, 36] rfl) ?_
   refine V_cond_t rfl rfl ?_
   refine Vs rfl ?_
   refine La rfl rfl rfl ?_
   refine L_then (kp [2] rfl) ?_
   refine V_ret (blk_r (then_r (then_r (blk_r (then_r ?_)))))
   refine Leave.nil (.tmp rfl .nil) ?_
   first | (show Value.bool false = _; rw [nameOk_bad (k := k.toNat) (by omega) (by simp only [nameC, small, Bool.or_eq_true, Bool.and_eq_true, decide_eq_true_eq, decide_eq_false_iff_not, ← Bool.not_eq_true]; omega)]; done) | (show Value.bool (!(oP _ _ _)) = _; rw [nameOk_end (fun j hj => hkn j (by omega))])
  intro g6; have g6' := g6; try simp only [td] at g6'
  refine L_yes rfl rfl rfl g6 (X_p (p_move rfl rfl) ?_)
  refine L_yes rfl rfl rfl g6 (X_p (p_neq rfl rfl rfl) ?_)
  refine L_yes rfl rfl rfl g6 (X_p (p_move rfl rfl) ?_)
  refine L_cases (d := 26) rfl ?_ ?_
  ·intro g7; have g7' := g7; try simp only [td] at g7'
   refine L_yes rfl rfl rfl g7 (X_p (p_move rfl rfl) ?_)
   refine L_yes rfl rfl rfl g7 (X_p (p_geq rfl rfl rfl) ?_)
   refine L_yes rfl rfl rfl g7 (X_p (p_move rfl rfl) ?_)
   refine L_cases (d := 29) rfl ?_ ?_
   ·intro g8; have g8' := g8; try simp only [td] at g8'
    refine L_yes rfl rfl rfl g8 (X_p (p_move rfl rfl) ?_)
    refine L_yes rfl rfl rfl g8 (X_p (p_leq rfl rfl rfl) ?_)
    refine L_yes rfl rfl rfl g7 (X_p (p_pick_t rfl rfl g8 rfl) ?_)
    refine L_yes rfl rfl rfl g7 (X_p (p_not rfl rfl) ?_)
    refine L_yes rfl rfl rfl g6 (X_p (p_pick_t rfl rfl g7 rfl) ?_)
    refine L_yes rfl rfl rfl rfl (X_p (p_pick_f rfl rfl g6 rfl) ?_)
    refine Lp rfl (p_pick_t rfl rfl rfl rfl) ?_
    refine L_then (kp [0, 6, 7, 8, 36] rfl) ?_
    refine V_cond rfl ?_ ?_
    ·intro c3; try simp only [td] at c3
     refine Vs rfl ?_
     refine La rfl rfl rfl ?_
     refine L_then (kp [2] rfl) ?_
     refine V_ret (blk_r (then_r (then_r (blk_r (then_r ?_)))))
     refine Leave.nil (.tmp rfl .nil) ?_
     first | (show Value.bool false = _; rw [nameOk_bad (k := k.toNat) (by omega) (by simp only [nameC, small, Bool.or_eq_true, Bool.and_eq_true, decide_eq_true_eq, decide_eq_false_iff_not, ← Bool.not_eq_true]; omega)]; done) | (show Value.bool (!(oP _ _ _)) = _; rw [nameOk_end (fun j hj => hkn j (by omega))])
    intro c3; try simp only [td] at c3
    refine V_skip (blk_n (then_n ?_))
    refine V_region rfl ?_
    first | refine Lp rfl (p_add' rfl rfl rfl (by unfold InI; omega)) ?_ | refine Lp rfl (p_add rfl rfl rfl) ?_
    refine Lm rfl rfl rfl ?_
    refine L_keep (kp [0, 6, 7, 8] rfl) (then_n ?_)
    refine ⟨k + 1, ?_, ?_, (.cons rfl (.cons rfl (.cons rfl (.cons rfl (.nil _))))), (by repeat (first | exact List.Sublist.refl _ | apply List.Sublist.cons_cons | apply List.Sublist.cons | apply List.sublist_append_of_sublist_right)), rfl⟩
    ·refine ⟨by omega, by omega, fun j hj => ?_⟩; by_cases e : (j : Int) < k
     ·exact hkn j e
     have ej : j = k.toNat := by omega
     rw [ej]; simp only [nameC, small, Bool.or_eq_true, Bool.and_eq_true, decide_eq_true_eq, decide_eq_false_iff_not, ← Bool.not_eq_true]; omega
    omega
   intro g8; have g8' := g8; try simp only [td] at g8'
   iterate 2 refine L_no rfl rfl rfl g8 ?_
   refine L_yes rfl rfl rfl g7 (X_p (p_pick_f rfl rfl g8 rfl) ?_)
   refine L_yes rfl rfl rfl g7 (X_p (p_not rfl rfl) ?_)
   refine L_yes rfl rfl rfl g6 (X_p (p_pick_t rfl rfl g7 rfl) ?_)
   refine L_yes rfl rfl rfl rfl (X_p (p_pick_f rfl rfl g6 rfl) ?_)
   refine Lp rfl (p_pick_t rfl rfl rfl rfl) ?_
   refine L_then (kp [0, 6, 7, 8, 36] rfl) ?_
   refine V_cond_t rfl rfl ?_
   refine Vs rfl ?_
   refine La rfl rfl rfl ?_
   refine L_then (kp [2] rfl) ?_
   refine V_ret (blk_r (then_r (then_r (blk_r (then_r ?_)))))
   refine Leave.nil (.tmp rfl .nil) ?_
   first | (show Value.bool false = _; rw [nameOk_bad (k := k.toNat) (by omega) (by simp only [nameC, small, Bool.or_eq_true, Bool.and_eq_true, decide_eq_true_eq, decide_eq_false_iff_not, ← Bool.not_eq_true]; omega)]; done) | (show Value.bool (!(oP _ _ _)) = _; rw [nameOk_end (fun j hj => hkn j (by omega))])
  intro g7; have g7' := g7; try simp only [td] at g7'
  iterate 3 refine L_no rfl rfl rfl g7 ?_
  iterate 2 refine L_nou rfl rfl rfl ?_
  iterate 2 refine L_no rfl rfl rfl g7 ?_
  refine L_yes rfl rfl rfl g6 (X_p (p_pick_f rfl rfl g7 rfl) ?_)
  refine L_yes rfl rfl rfl rfl (X_p (p_pick_f rfl rfl g6 rfl) ?_)
  refine Lp rfl (p_pick_t rfl rfl rfl rfl) ?_
  refine L_then (kp [0, 6, 7, 8, 36] rfl) ?_
  refine V_cond_f rfl rfl ?_
  refine V_skip (blk_n (then_n ?_))
  refine V_region rfl ?_
  first | refine Lp rfl (p_add' rfl rfl rfl (by unfold InI; omega)) ?_ | refine Lp rfl (p_add rfl rfl rfl) ?_
  refine Lm rfl rfl rfl ?_
  refine L_keep (kp [0, 6, 7, 8] rfl) (then_n ?_)
  refine ⟨k + 1, ?_, ?_, (.cons rfl (.cons rfl (.cons rfl (.cons rfl (.nil _))))), (by repeat (first | exact List.Sublist.refl _ | apply List.Sublist.cons_cons | apply List.Sublist.cons | apply List.sublist_append_of_sublist_right)), rfl⟩
  ·refine ⟨by omega, by omega, fun j hj => ?_⟩; by_cases e : (j : Int) < k
   ·exact hkn j e
   have ej : j = k.toNat := by omega
   rw [ej]; simp only [nameC, small, Bool.or_eq_true, Bool.and_eq_true, decide_eq_true_eq, decide_eq_false_iff_not, ← Bool.not_eq_true]; omega
  omega
 intro c1; try simp only [td] at c1
 refine V_exit (then_e (then_e (blk_e rfl (then_n ?_))))
 refine Vs rfl ?_
 refine Lm rfl rfl rfl ?_
 refine Lp rfl (p_lens ist9 rfl rfl) ?_
 refine Lc rfl rfl rfl rfl (fun w hg => wout_c _ _ _ w) ?_
 refine Lp rfl (p_not rfl rfl) ?_
 refine La rfl rfl rfl ?_
 refine L_then (kp [2] rfl) ?_
 refine V_ret ?_
 refine Leave.nil (.tmp rfl .nil) ?_
 first | (show Value.bool false = _; rw [nameOk_bad (k := k.toNat) (by omega) (by simp only [nameC, small, Bool.or_eq_true, Bool.and_eq_true, decide_eq_true_eq, decide_eq_false_iff_not, ← Bool.not_eq_true]; omega)]; done) | (show Value.bool (!(oP _ _ _)) = _; rw [nameOk_end (fun j hj => hkn j (by omega))])
theorem never_c (l : List Int) (v : Value) (w : World) (hv : SliceR w 1 v (l.map fun n => [Value.int .i64 n])) (hl : (l.length : Int) ≤ 9223372036854775806) : FnP Tryz.prog 53 [v] w (.bool (l.any fun n => oP n 0 100000)) := by
 refine fn_pure Tryz.func53 rfl (by kernel_rfl) Tryz.ntmps53 Tryz.results53 rfl ?_
 refine Vs rfl ?_
 refine La rfl rfl rfl ?_
 refine L_then (kp [0] rfl) ?_
 refine Vs rfl ?_
 refine Lm rfl rfl rfl ?_
 refine Lc rfl rfl rfl rfl (fun w hg => contInt_c l _ _ _ _ w (hv.good hg) hl (fun x w' he => never1_c x w')) ?_
 refine La rfl rfl rfl ?_
 refine L_then (kp [2] rfl) ?_
 refine V_ret ?_
 refine Leave.nil (.tmp rfl .nil) ?_
 rfl
theorem wide1_c (n most : Int) (hm : 0 ≤ most ∧ most ≤ 1000000000000000000) (b ty : Nat) (fr : Nat × Nat) (w : World) (hb : w.heap[b]? = some (.cells #[.int .i64 most] ty fr)) : FnP Tryz.prog 88 [.int .i64 n, .pointer (some ⟨b, 0, none⟩)] w (.bool (oP n (-most) most)) := by
 refine fn_pure Tryz.func88 rfl (by kernel_rfl) Tryz.ntmps88 Tryz.results88 rfl ?_
 refine Vs rfl ?_
 refine La rfl rfl rfl ?_
 refine L_then (kp [0, 1] rfl) ?_
 refine Vs rfl ?_
 refine Lm rfl rfl rfl ?_
 refine Lr rfl (r_loadB ag3 rfl rfl (own_cell hb 0) List.not_mem_nil) ?_
 first | refine Lp rfl (p_neg' rfl rfl (by unfold InI; omega)) ?_ | refine Lp rfl (p_neg rfl rfl) ?_
 refine Lr rfl (r_loadB ag3 rfl rfl (own_cell hb 0) List.not_mem_nil) ?_
 refine Lc rfl rfl rfl rfl (fun w hg => out_c _ _ _ w) ?_
 refine La rfl rfl rfl ?_
 refine L_then (kp [3] rfl) ?_
 refine V_ret ?_
 refine Leave.nil (.tmp rfl .nil) ?_
 rfl
theorem wide_c (most : Int) (hm : 0 ≤ most ∧ most ≤ 1000000000000000000) (l : List Int) (v : Value) (w : World) (hv : SliceR w 1 v (l.map fun n => [Value.int .i64 n])) (hl : (l.length : Int) ≤ 9223372036854775806) : FnP Tryz.prog 55 [.int .i64 most, v] w (.bool (l.any fun n => oP n (-most) most)) := by
 refine fn_pure Tryz.func55 rfl (by kernel_rfl) Tryz.ntmps55 Tryz.results55 rfl ?_
 refine Vs rfl ?_
 refine Lw rfl (w_box rfl rfl) ?_
 rintro _ _ ⟨b1, hb1, rfl, rfl⟩
 refine La rfl rfl rfl ?_
 refine L_then (kp [1, 2] rfl) ?_
 refine Vs rfl ?_
 refine Lm rfl rfl rfl ?_
 refine Lp rfl (p_func rfl rfl rfl) ?_
 refine Lc rfl rfl rfl rfl (fun w hg => contInt_c l _ _ _ _ w (hv.good hg) hl (fun x w' he => wide1_c x most hm _ _ _ w' (he.heap (hg.own _ (by repeat first | exact mH | apply mT))))) ?_
 refine La rfl rfl rfl ?_
 refine L_then (kp [4] rfl) ?_
 refine V_ret ?_
 refine Leave.nil (.tmp rfl .nil) ?_
 rfl
theorem chk1_c (y x : Tracker) (b ty : Nat) (fr : Nat × Nat) (w : World) (hb : w.heap[b]? = some (.cells (Tracker.cells x).toArray ty fr)) : FnP Tryz.prog 94 [.agg (Tracker.cells y).toArray, .pointer (some ⟨b, 0, none⟩)] w (.bool (decide (y.name = x.name))) := by
 refine fn_pure Tryz.func94 rfl (by kernel_rfl) Tryz.ntmps94 Tryz.results94 rfl ?_
 refine Vs rfl ?_
 refine Lw rfl (w_box rfl rfl) ?_
 rintro _ _ ⟨b1, hb1, rfl, rfl⟩
 refine La rfl rfl rfl ?_
 refine L_then (kp [1, 2] rfl) ?_
 refine Vs rfl ?_
 refine Lp rfl (p_fieldo fo132_0 rfl rfl) ?_
 refine Lr rfl (rl ag9 rfl rfl rfl) ?_
 refine Lp rfl (p_field fo132_0 rfl rfl) ?_
 refine Lr rfl (r_loadB ag9 rfl rfl (own_cell hb 0) List.not_mem_nil) ?_
 refine Lp rfl (p_eqls rfl rfl rfl) ?_
 refine La rfl rfl rfl ?_
 refine L_then (kp [3] rfl) ?_
 refine V_ret ?_
 refine Leave.nil (.tmp rfl .nil) ?_
 rfl
theorem check_c (t : Task) (v : Value) (w : World) (ht : TaskR w v t) : FnP Tryz.prog 69 [v] w (.tuple #[.int .i64 (checkT t).1, .int .i64 (checkT t).2.1, .int .i64 (checkT t).2.2]) := by
 have hT := ht
 obtain ⟨tv, pv, rfl, htr, hpl⟩ := ht.ex
 obtain ⟨ta, tc, rfl, htc, hte⟩ := htr.ex
 obtain ⟨pa, pc, rfl, hpc, hpe⟩ := hpl.ex
 have hltr := hT.ltr
 have hlpl := hT.lpl
 simp only [List.length_map] at hT htc hpc ⊢
 refine fn_pure Tryz.func69 rfl (by kernel_rfl) Tryz.ntmps69 Tryz.results69 rfl ?_
 refine Vs rfl ?_
 refine Lw rfl (w_box rfl rfl) ?_
 rintro _ _ ⟨b1, hb1, rfl, rfl⟩
 iterate 3 refine La rfl rfl rfl ?_
 refine L_then (kp [1] rfl) ?_
 refine V_seq ?_
 refine V_block ?_
 refine Vs rfl ?_
 refine Lp rfl (p_fieldo fo39_3 rfl rfl) ?_
 refine Lr rfl (rl ag36 rfl rfl rfl) ?_
 refine Lp rfl (p_len isl36 rfl rfl) ?_
 refine Lp rfl (p_gtr rfl rfl rfl) ?_
 refine Lm rfl rfl rfl ?_
 refine L_cases (d := 16) rfl ?_ ?_
 ·intro g1; have g1' := g1; try simp only [td] at g1'
  iterate 4 refine L_no rfl rfl rfl g1 ?_
  refine Lp rfl (p_pick_t rfl rfl g1 rfl) ?_
  refine La rfl rfl rfl ?_
  refine L_then (kp [1, 11] rfl) ?_
  refine V_cond_t rfl rfl ?_
  refine Vs rfl ?_
  iterate 3 refine La rfl rfl rfl ?_
  refine L_then (kp [2, 3, 4] rfl) ?_
  refine V_ret (blk_r (then_r ?_))
  refine Leave.nil (.tmp rfl (.tmp rfl (.tmp rfl .nil))) ?_
  rw [checkT_long (by omega)]; rfl
 intro g1; have g1' := g1; try simp only [td] at g1'
 refine L_yes rfl rfl rfl g1 (X_p (p_fieldo fo39_4 rfl rfl) ?_)
 refine L_yes rfl rfl rfl g1 (X_rd (rl ag37 rfl rfl rfl) ?_)
 refine L_yes rfl rfl rfl g1 (X_p (p_len isl37 rfl rfl) ?_)
 refine L_yes rfl rfl rfl g1 (X_p (p_gtr rfl rfl rfl) ?_)
 refine Lp rfl (p_pick_f rfl rfl g1 rfl) ?_
 refine La rfl rfl rfl ?_
 refine L_then (kp [1, 11] rfl) ?_
 refine V_cond rfl ?_ ?_
 ·intro c1; try simp only [td] at c1
  refine Vs rfl ?_
  iterate 3 refine La rfl rfl rfl ?_
  refine L_then (kp [2, 3, 4] rfl) ?_
  refine V_ret (blk_r (then_r ?_))
  refine Leave.nil (.tmp rfl (.tmp rfl (.tmp rfl .nil))) ?_
  rw [checkT_long (by omega)]; rfl
 intro c1; try simp only [td] at c1
 refine Vs rfl ?_
 refine Lp rfl (p_fieldo fo39_0 rfl rfl) ?_
 refine Lr rfl (rl ag3 rfl rfl rfl) ?_
 refine Lw rfl (w_slice (r := [_]) un53 sz3 zr3 rfl (by decide) rfl (by decide) rfl rfl) ?_
 rintro _ _ ⟨b2, hb2, rfl, rfl⟩
 refine Lc rfl rfl rfl rfl (fun w hg => never_c [_] _ w (own_ints (l := [_]) (hg.own _ (by repeat first | exact mH | apply mT)) rfl (by decide)) (by simp)) ?_
 refine Lm rfl rfl rfl ?_
 refine L_cases (d := 27) rfl ?_ ?_
 ·intro g2; have g2' := g2; try simp only [td] at g2'
  iterate 3 refine L_no rfl rfl rfl g2 ?_
  refine Lp rfl (p_pick_t rfl rfl g2 rfl) ?_
  refine Lm rfl rfl rfl ?_
  iterate 3 refine L_no rfl rfl rfl rfl ?_
  refine Lp rfl (p_pick_t rfl rfl rfl rfl) ?_
  refine La rfl rfl rfl ?_
  refine L_then (kp [1, 22] rfl) ?_
  refine V_cond_t rfl rfl ?_
  refine Vs rfl ?_
  iterate 3 refine La rfl rfl rfl ?_
  refine L_then (kp [2, 3, 4] rfl) ?_
  refine V_ret (blk_r (then_r ?_))
  refine Leave.nil (.tmp rfl (.tmp rfl (.tmp rfl .nil))) ?_
  rw [checkT_range (by omega) (by omega) (by simp [*])]; rfl
 intro g2; have g2' := g2; try simp only [td] at g2'
 refine L_yes rfl rfl rfl g2 (X_p (p_fieldo fo39_1 rfl rfl) ?_)
 refine L_yes rfl rfl rfl g2 (X_rd (rl ag3 rfl rfl rfl) ?_)
 refine L_yes rfl rfl rfl g2 (X_wr (w_callP rfl rfl rfl (fun w hg => out_c _ _ _ w)) ?_)
 rintro _ _ ⟨rfl, rfl⟩
 refine Lp rfl (p_pick_f rfl rfl g2 rfl) ?_
 refine Lm rfl rfl rfl ?_
 refine L_cases (d := 32) rfl ?_ ?_
 ·intro g3; have g3' := g3; try simp only [td] at g3'
  iterate 3 refine L_no rfl rfl rfl g3 ?_
  refine Lp rfl (p_pick_t rfl rfl g3 rfl) ?_
  refine La rfl rfl rfl ?_
  refine L_then (kp [1, 22] rfl) ?_
  refine V_cond_t rfl rfl ?_
  refine Vs rfl ?_
  iterate 3 refine La rfl rfl rfl ?_
  refine L_then (kp [2, 3, 4] rfl) ?_
  refine V_ret (blk_r (then_r ?_))
  refine Leave.nil (.tmp rfl (.tmp rfl (.tmp rfl .nil))) ?_
  rw [checkT_range (by omega) (by omega) (by simp [*])]; rfl
 intro g3; have g3' := g3; try simp only [td] at g3'
 refine L_yes rfl rfl rfl g3 (X_p (p_fieldo fo39_2 rfl rfl) ?_)
 refine L_yes rfl rfl rfl g3 (X_rd (rl ag3 rfl rfl rfl) ?_)
 refine L_yes rfl rfl rfl g3 (X_wr (w_callP rfl rfl rfl (fun w hg => out_c _ _ _ w)) ?_)
 rintro _ _ ⟨rfl, rfl⟩
 refine Lp rfl (p_pick_f rfl rfl g3 rfl) ?_
 refine La rfl rfl rfl ?_
 refine L_then (kp [1, 22] rfl) ?_
 refine V_cond rfl ?_ ?_
 ·intro c2; try simp only [td] at c2
  refine Vs rfl ?_
  iterate 3 refine La rfl rfl rfl ?_
  refine L_then (kp [2, 3, 4] rfl) ?_
  refine V_ret (blk_r (then_r ?_))
  refine Leave.nil (.tmp rfl (.tmp rfl (.tmp rfl .nil))) ?_
  rw [checkT_range (by omega) (by omega) (by simp [*])]; rfl
 intro c2; try simp only [td] at c2
 refine V_skip (blk_n (then_n ?_))
 refine V_seq ?_
 refine Vs rfl ?_
 refine Lp rfl (p_fieldo fo39_3 rfl rfl) ?_
 refine Lr rfl (rl ag36 rfl rfl rfl) ?_
 refine Lp rfl (p_len isl36 rfl rfl) ?_
 refine Lm rfl rfl rfl ?_
 refine L_then (kp [1, 38, 39, 40] rfl) ?_
 refine V_block ?_
 refine V_loop0 (γ := Int) (kp [1, 38, 39] rfl) (fun k => [(40, .int .i64 k)]) (fun k => 0 ≤ k ∧ k ≤ t.trackers.length ∧ ∀ j : Nat, (j : Int) < k → errTr t j = 0) (fun k => (t.trackers.length - k).toNat) (0) (.cons rfl (.nil _)) (⟨by omega, by omega, fun j hj => by omega⟩) ?_
 rintro k hi
 obtain ⟨hk0, hk1, hkp⟩ := hi
 refine Vs rfl ?_
 refine Lp rfl (p_lss rfl rfl rfl) ?_
 refine L_then (kp [1, 38, 39, 40, 41] rfl) ?_
 refine V_seq ?_
 refine V_cond rfl ?_ ?_
 ·intro c3; try simp only [td] at c3
  obtain ⟨tb, rfl, hc⟩ := hte k.toNat _ (getD_cells (d := trZ) (by omega))
  refine V_skip (then_n ?_)
  refine V_seq ?_
  refine V_block ?_
  refine Vs rfl ?_
  refine Lm rfl rfl rfl ?_
  refine Lp rfl (p_idx es36 rfl rfl rfl (by omega) (by omega)) ?_
  refine Lr rfl (r_loadBA ag132 sz132 rfl rfl hc rfl List.not_mem_nil) ?_
  refine Lw rfl (w_alloc zr132 rfl) ?_
  rintro _ _ ⟨b3, hb3, rfl, rfl⟩
  refine La rfl rfl rfl ?_
  refine Ls (cs' := [_, _, _, _, _, _]) rfl sz132 rfl rfl rfl rfl rfl rfl rfl ?_
  refine L_then (kp [1, 5, 6, 38, 39, 40] rfl) ?_
  refine V_block ?_
  refine Vs rfl ?_
  refine Lp rfl (p_fieldo fo132_0 rfl rfl) ?_
  refine Lr rfl (rl ag9 rfl rfl rfl) ?_
  refine Lc rfl rfl rfl rfl (fun w hg => wname_c _ (hT.name _) w) ?_
  refine Lp rfl (p_not rfl rfl) ?_
  refine La rfl rfl rfl ?_
  refine L_then (kp [1, 5, 6, 38, 39, 40, 45] rfl) ?_
  refine V_cond rfl ?_ ?_
  ·intro c4; try simp only [td] at c4
   refine Vs rfl ?_
   refine Lm rfl rfl rfl ?_
   iterate 3 refine La rfl rfl rfl ?_
   refine L_then (kp [2, 3, 4] rfl) ?_
   refine V_ret (blk_r (blk_r (then_r (then_r (blk_r (then_r ?_))))))
   refine Leave.nil (.tmp rfl (.tmp rfl (.tmp rfl .nil))) ?_
   rw [checkT_tr (k := k) (e := 6) (⟨by omega, by omega, by assumption, by assumption, by assumption⟩) (by omega) (by omega) hkp (errTr_form c4) (by decide)]; rfl
  intro c4; try simp only [td] at c4
  refine Vs rfl ?_
  refine Lp rfl (p_fieldo fo39_3 rfl rfl) ?_
  refine Lr rfl (rl ag36 rfl rfl rfl) ?_
  refine Lm rfl rfl rfl ?_
  refine Lp rfl (p_slTo es36 rfl rfl rfl (by omega) (by omega)) ?_
  refine Lp rfl (p_func rfl rfl rfl) ?_
  refine Lc rfl rfl rfl rfl (fun w hg => contTr_c (t.trackers.take k.toNat) _ _ _ (fun y => decide (y.name = (t.tr k.toNat).name)) w ((htr.takeM (k := k.toNat) (by omega)).good hg) (by rw [List.length_take]; omega) (fun x w' he => chk1_c x _ _ _ _ w' (he.heap (hg.own _ (by repeat first | exact mH | apply mT))))) ?_
  refine La rfl rfl rfl ?_
  refine L_then (kp [1, 5, 6, 38, 39, 40, 51] rfl) ?_
  refine V_cond rfl ?_ ?_
  ·intro c5; try simp only [td] at c5
   refine Vs rfl ?_
   refine Lm rfl rfl rfl ?_
   iterate 3 refine La rfl rfl rfl ?_
   refine L_then (kp [2, 3, 4] rfl) ?_
   refine V_ret (blk_r (blk_r (then_r (then_r (blk_r (then_r ?_))))))
   refine Leave.nil (.tmp rfl (.tmp rfl (.tmp rfl .nil))) ?_
   rw [dup_take (by omega)] at c5
   rw [checkT_tr (k := k) (e := 5) (⟨by omega, by omega, by assumption, by assumption, by assumption⟩) (by omega) (by omega) hkp (errTr_dup c4 c5) (by decide)]; rfl
  intro c5; try simp only [td] at c5
  refine Vs rfl ?_
  refine Lp rfl (p_fieldo fo132_1 rfl rfl) ?_
  refine Lr rfl (rl ag3 rfl rfl rfl) ?_
  refine Lp rfl (p_fieldo fo132_2 rfl rfl) ?_
  refine Lr rfl (rl ag3 rfl rfl rfl) ?_
  refine Lw rfl (w_slice (r := [_, _]) un53 sz3 zr3 rfl (by decide) rfl (by decide) rfl rfl) ?_
  rintro _ _ ⟨b4, hb4, rfl, rfl⟩
  refine Lc rfl rfl rfl rfl (fun w hg => wide_c _ (by decide) [_, _] _ w (own_ints (l := [_, _]) (hg.own _ (by repeat first | exact mH | apply mT)) rfl (by decide)) (by simp)) ?_
  refine Lm rfl rfl rfl ?_
  refine L_cases (d := 66) rfl ?_ ?_
  ·intro g4; have g4' := g4; try simp only [td] at g4'
   iterate 3 refine L_no rfl rfl rfl g4 ?_
   refine Lp rfl (p_pick_t rfl rfl g4 rfl) ?_
   refine Lm rfl rfl rfl ?_
   iterate 3 refine L_no rfl rfl rfl rfl ?_
   refine Lp rfl (p_pick_t rfl rfl rfl rfl) ?_
   refine Lm rfl rfl rfl ?_
   iterate 3 refine L_no rfl rfl rfl rfl ?_
   refine Lp rfl (p_pick_t rfl rfl rfl rfl) ?_
   refine La rfl rfl rfl ?_
   refine L_then (kp [1, 5, 38, 39, 40, 59] rfl) ?_
   refine V_cond_t rfl rfl ?_
   refine Vs rfl ?_
   refine Lm rfl rfl rfl ?_
   iterate 3 refine La rfl rfl rfl ?_
   refine L_then (kp [2, 3, 4] rfl) ?_
   refine V_ret (blk_r (blk_r (then_r (then_r (blk_r (then_r ?_))))))
   refine Leave.nil (.tmp rfl (.tmp rfl (.tmp rfl .nil))) ?_
   rw [dup_take (by omega)] at c5
   rw [checkT_tr (k := k) (e := 7) (⟨by omega, by omega, by assumption, by assumption, by assumption⟩) (by omega) (by omega) hkp (errTr_out c4 c5 (by simp only [trOut, Task.tr, Bool.or_eq_true, Bool.or_eq_false_iff, Bool.false_eq_true, or_true, true_or, or_false, false_or, and_true, true_and, and_self, *])) (by decide)]; rfl
  intro g4; have g4' := g4; try simp only [td] at g4'
  refine L_yes rfl rfl rfl g4 (X_p (p_fieldo fo132_3 rfl rfl) ?_)
  refine L_yes rfl rfl rfl g4 (X_rd (rl ag3 rfl rfl rfl) ?_)
  refine L_yes rfl rfl rfl g4 (X_wr (w_callP rfl rfl rfl (fun w hg => out_c _ _ _ w)) ?_)
  rintro _ _ ⟨rfl, rfl⟩
  refine Lp rfl (p_pick_f rfl rfl g4 rfl) ?_
  refine Lm rfl rfl rfl ?_
  refine L_cases (d := 71) rfl ?_ ?_
  ·intro g5; have g5' := g5; try simp only [td] at g5'
   iterate 3 refine L_no rfl rfl rfl g5 ?_
   refine Lp rfl (p_pick_t rfl rfl g5 rfl) ?_
   refine Lm rfl rfl rfl ?_
   iterate 3 refine L_no rfl rfl rfl rfl ?_
   refine Lp rfl (p_pick_t rfl rfl rfl rfl) ?_
   refine La rfl rfl rfl ?_
   refine L_then (kp [1, 5, 38, 39, 40, 59] rfl) ?_
   refine V_cond_t rfl rfl ?_
   refine Vs rfl ?_
   refine Lm rfl rfl rfl ?_
   iterate 3 refine La rfl rfl rfl ?_
   refine L_then (kp [2, 3, 4] rfl) ?_
   refine V_ret (blk_r (blk_r (then_r (then_r (blk_r (then_r ?_))))))
   refine Leave.nil (.tmp rfl (.tmp rfl (.tmp rfl .nil))) ?_
   rw [dup_take (by omega)] at c5
   rw [checkT_tr (k := k) (e := 7) (⟨by omega, by omega, by assumption, by assumption, by assumption⟩) (by omega) (by omega) hkp (errTr_out c4 c5 (by simp only [trOut, Task.tr, Bool.or_eq_true, Bool.or_eq_false_iff, Bool.false_eq_true, or_true, true_or, or_false, false_or, and_true, true_and, and_self, *])) (by decide)]; rfl
  intro g5; have g5' := g5; try simp only [td] at g5'
  refine L_yes rfl rfl rfl g5 (X_p (p_fieldo fo132_4 rfl rfl) ?_)
  refine L_yes rfl rfl rfl g5 (X_rd (rl ag3 rfl rfl rfl) ?_)
  refine L_yes rfl rfl rfl g5 (X_wr (w_callP rfl rfl rfl (fun w hg => out_c _ _ _ w)) ?_)
  rintro _ _ ⟨rfl, rfl⟩
  refine Lp rfl (p_pick_f rfl rfl g5 rfl) ?_
  refine Lm rfl rfl rfl ?_
  refine L_cases (d := 76) rfl ?_ ?_
  ·intro g6; have g6' := g6; try simp only [td] at g6'
   iterate 3 refine L_no rfl rfl rfl g6 ?_
   refine Lp rfl (p_pick_t rfl rfl g6 rfl) ?_
   refine La rfl rfl rfl ?_
   refine L_then (kp [1, 5, 38, 39, 40, 59] rfl) ?_
   refine V_cond_t rfl rfl ?_
   refine Vs rfl ?_
   refine Lm rfl rfl rfl ?_
   iterate 3 refine La rfl rfl rfl ?_
   refine L_then (kp [2, 3, 4] rfl) ?_
   refine V_ret (blk_r (blk_r (then_r (then_r (blk_r (then_r ?_))))))
   refine Leave.nil (.tmp rfl (.tmp rfl (.tmp rfl .nil))) ?_
   rw [dup_take (by omega)] at c5
   rw [checkT_tr (k := k) (e := 7) (⟨by omega, by omega, by assumption, by assumption, by assumption⟩) (by omega) (by omega) hkp (errTr_out c4 c5 (by simp only [trOut, Task.tr, Bool.or_eq_true, Bool.or_eq_false_iff, Bool.false_eq_true, or_true, true_or, or_false, false_or, and_true, true_and, and_self, *])) (by decide)]; rfl
  intro g6; have g6' := g6; try simp only [td] at g6'
  refine L_yes rfl rfl rfl g6 (X_p (p_fieldo fo132_5 rfl rfl) ?_)
  refine L_yes rfl rfl rfl g6 (X_rd (rl ag3 rfl rfl rfl) ?_)
  refine L_yes rfl rfl rfl g6 (X_wr (w_callP rfl rfl rfl (fun w hg => out_c _ _ _ w)) ?_)
  rintro _ _ ⟨rfl, rfl⟩
  refine Lp rfl (p_pick_f rfl rfl g6 rfl) ?_
  refine La rfl rfl rfl ?_
  refine L_then (kp [1, 5, 38, 39, 40, 59] rfl) ?_
  refine V_cond rfl ?_ ?_
  ·intro c6; try simp only [td] at c6
   refine Vs rfl ?_
   refine Lm rfl rfl rfl ?_
   iterate 3 refine La rfl rfl rfl ?_
   refine L_then (kp [2, 3, 4] rfl) ?_
   refine V_ret (blk_r (blk_r (then_r (then_r (blk_r (then_r ?_))))))
   refine Leave.nil (.tmp rfl (.tmp rfl (.tmp rfl .nil))) ?_
   rw [dup_take (by omega)] at c5
   rw [checkT_tr (k := k) (e := 7) (⟨by omega, by omega, by assumption, by assumption, by assumption⟩) (by omega) (by omega) hkp (errTr_out c4 c5 (by simp only [trOut, Task.tr, Bool.or_eq_true, Bool.or_eq_false_iff, Bool.false_eq_true, or_true, true_or, or_false, false_or, and_true, true_and, and_self, *])) (by decide)]; rfl
  intro c6; try simp only [td] at c6
  refine V_skip (blk_n (blk_n (then_n ?_)))
  refine V_region rfl ?_
  first | refine Lp rfl (p_add' rfl rfl rfl (by unfold InI; omega)) ?_ | refine Lp rfl (p_add rfl rfl rfl) ?_
  refine Lm rfl rfl rfl ?_
  refine L_keep (kp [1, 38, 39, 40] rfl) (then_n ?_)
  refine ⟨k + 1, ?_, ?_, (.cons rfl (.cons rfl (.cons rfl (.cons rfl (.nil _))))), (by repeat (first | exact List.Sublist.refl _ | apply List.Sublist.cons_cons | apply List.Sublist.cons | apply List.sublist_append_of_sublist_right)), rfl⟩
  ·rw [dup_take (by omega)] at c5
   refine ⟨by omega, by omega, fun j hj => ?_⟩
   by_cases e : (j : Int) < k
   ·exact hkp j e
   have ej : j = k.toNat := by omega
   rw [ej]; exact errTr_ok c4 c5 (by simp only [trOut, Task.tr, Bool.or_eq_true, Bool.or_eq_false_iff, Bool.false_eq_true, or_true, true_or, or_false, false_or, and_true, true_and, and_self, *])
  omega
 intro c3; try simp only [td] at c3
 have htr0 : ∀ j : Nat, j < t.trackers.length → errTr t j = 0 := fun j hj => hkp j (by omega)
 refine V_exit (then_e (then_e (blk_e rfl (then_n ?_))))
 refine Vs rfl ?_
 refine Lw rfl (w_map rfl) ?_
 rintro _ _ ⟨b3, hb3, rfl, rfl⟩
 refine La rfl rfl rfl ?_
 refine L_then (kp [1, 7] rfl) ?_
 refine V_seq ?_
 refine Vs rfl ?_
 refine Lp rfl (p_fieldo fo39_4 rfl rfl) ?_
 refine Lr rfl (rl ag37 rfl rfl rfl) ?_
 refine Lp rfl (p_len isl37 rfl rfl) ?_
 refine Lm rfl rfl rfl ?_
 refine L_then (kp [1, 7, 85, 86, 87] rfl) ?_
 refine V_block ?_
 refine V_loop1 (γ := Int × Array MapEntry × Nat) (kp [1, 7, 85, 86] rfl) (fun (k, es, clk) => [(87, .int .i64 k)]) (fun (k, es, clk) => [(b3, .map es clk), (b1, t.obj (.slice ta t.trackers.length tc) (.slice pa t.plots.length pc) 39)]) (fun (k, es, clk) => 0 ≤ k ∧ k ≤ t.plots.length ∧ (∀ j : Nat, (j : Int) < k → errPl t j = 0) ∧ MapIs es (seenL t k.toNat)) (fun (k, es, clk) => (t.plots.length - k).toNat) ((0, _, _)) (.cons rfl (.nil _)) (by repeat (first | exact List.Sublist.refl _ | apply List.Sublist.cons_cons | apply List.Sublist.cons)) (⟨by omega, by omega, fun j hj => by omega, MapIs.nil⟩) ?_
 rintro ⟨k, es, clk⟩ hi
 obtain ⟨hk0, hk1, hkp, his⟩ := hi
 refine Vs rfl ?_
 refine Lp rfl (p_lss rfl rfl rfl) ?_
 refine L_then (kp [1, 7, 85, 86, 87, 88] rfl) ?_
 refine V_seq ?_
 refine V_cond rfl ?_ ?_
 ·intro c7; try simp only [td] at c7
  obtain ⟨pb, rfl, hc⟩ := hpe k.toNat _ (getD_cells (d := plZ) (by omega))
  refine V_skip (then_n ?_)
  refine V_seq ?_
  refine V_block ?_
  refine Vs rfl ?_
  refine Lm rfl rfl rfl ?_
  refine Lp rfl (p_idx es37 rfl rfl rfl (by omega) (by omega)) ?_
  refine Lr rfl (r_loadBA ag138 sz138 rfl rfl hc rfl List.not_mem_nil) ?_
  refine Lw rfl (w_alloc zr138 rfl) ?_
  rintro _ _ ⟨b4, hb4, rfl, rfl⟩
  refine La rfl rfl rfl ?_
  refine Ls (cs' := [_, _, _, _, _]) rfl sz138 rfl rfl rfl rfl rfl rfl rfl ?_
  refine L_then (kp [1, 7, 8, 9, 85, 86, 87] rfl) ?_
  refine Vs rfl ?_
  refine Lp rfl (p_fieldo fo138_0 rfl rfl) ?_
  refine Lr rfl (rl ag3 rfl rfl rfl) ?_
  refine Lp rfl (p_fieldo fo138_1 rfl rfl) ?_
  refine Lr rfl (rl ag3 rfl rfl rfl) ?_
  refine Lp rfl (p_build (r := [_, _]) pl140 zr140 rfl rfl rfl) ?_
  refine Lw rfl (w_alloc zr140 rfl) ?_
  rintro _ _ ⟨b5, hb5, rfl, rfl⟩
  refine Ls (cs' := [_, _]) rfl sz140 rfl rfl rfl rfl rfl rfl rfl ?_
  refine L_then (kp [1, 7, 8, 9, 10, 85, 86, 87] rfl) ?_
  refine V_seq ?_
  refine V_block ?_
  refine Vs rfl ?_
  refine Lp rfl (p_fieldo fo138_0 rfl rfl) ?_
  refine Lr rfl (rl ag3 rfl rfl rfl) ?_
  refine Lp rfl (p_fieldo fo39_3 rfl rfl) ?_
  refine Lr rfl (rl ag36 rfl rfl rfl) ?_
  refine Lp rfl (p_len isl36 rfl rfl) ?_
  first | refine Lp rfl (p_sub' rfl rfl rfl (by unfold InI; omega)) ?_ | refine Lp rfl (p_sub rfl rfl rfl) ?_
  refine Lc rfl rfl rfl rfl (fun w hg => out_c _ _ _ w) ?_
  refine La rfl rfl rfl ?_
  refine L_then (kp [1, 7, 8, 9, 10, 85, 86, 87, 97] rfl) ?_
  refine V_cond rfl ?_ ?_
  ·intro c8; try simp only [td] at c8
   refine Vs rfl ?_
   refine Lm rfl rfl rfl ?_
   iterate 3 refine La rfl rfl rfl ?_
   refine L_then (kp [2, 3, 4] rfl) ?_
   refine V_ret (blk_r (then_r (blk_r (then_r (then_r (blk_r (then_r ?_)))))))
   refine Leave.nil (.tmp rfl (.tmp rfl (.tmp rfl .nil))) ?_
   rw [checkT_pl (k := k) (e := 4) (⟨by omega, by omega, by assumption, by assumption, by assumption⟩) htr0 (by omega) (by omega) hkp (errPl_none c8) (by decide)]; rfl
  intro c8; try simp only [td] at c8
  refine Vs rfl ?_
  refine Lp rfl (p_fieldo fo138_1 rfl rfl) ?_
  refine Lr rfl (rl ag3 rfl rfl rfl) ?_
  refine Lp rfl (p_fieldo fo39_0 rfl rfl) ?_
  refine Lr rfl (rl ag3 rfl rfl rfl) ?_
  refine Lc rfl rfl rfl rfl (fun w hg => out_c _ _ _ w) ?_
  refine Lm rfl rfl rfl ?_
  refine L_cases (d := 112) rfl ?_ ?_
  ·intro g7; have g7' := g7; try simp only [td] at g7'
   iterate 8 refine L_no rfl rfl rfl g7 ?_
   refine Lp rfl (p_pick_t rfl rfl g7 rfl) ?_
   refine La rfl rfl rfl ?_
   refine L_then (kp [1, 7, 8, 10, 85, 86, 87, 106] rfl) ?_
   refine V_cond_t rfl rfl ?_
   refine Vs rfl ?_
   refine Lm rfl rfl rfl ?_
   iterate 3 refine La rfl rfl rfl ?_
   refine L_then (kp [2, 3, 4] rfl) ?_
   refine V_ret (blk_r (then_r (blk_r (then_r (then_r (blk_r (then_r ?_)))))))
   refine Leave.nil (.tmp rfl (.tmp rfl (.tmp rfl .nil))) ?_
   rw [checkT_pl (k := k) (e := 7) (⟨by omega, by omega, by assumption, by assumption, by assumption⟩) htr0 (by omega) (by omega) hkp (errPl_out c8 (by simp only [plOut, Task.pl, Bool.or_eq_true, Bool.or_eq_false_iff, Bool.false_eq_true, or_true, true_or, or_false, false_or, and_true, true_and, and_self, *])) (by decide)]; rfl
  intro g7; have g7' := g7; try simp only [td] at g7'
  refine L_yes rfl rfl rfl g7 (X_p (p_fieldo fo138_2 rfl rfl) ?_)
  refine L_yes rfl rfl rfl g7 (X_rd (rl ag3 rfl rfl rfl) ?_)
  refine L_yes rfl rfl rfl g7 (X_p (p_fieldo fo138_3 rfl rfl) ?_)
  refine L_yes rfl rfl rfl g7 (X_rd (rl ag3 rfl rfl rfl) ?_)
  refine L_yes rfl rfl rfl g7 (X_p (p_fieldo fo138_4 rfl rfl) ?_)
  refine L_yes rfl rfl rfl g7 (X_rd (rl ag3 rfl rfl rfl) ?_)
  refine L_yes rfl rfl rfl g7 (X_wr (w_slice (r := [_, _, _]) un53 sz3 zr3 rfl (by decide) rfl (by decide) rfl rfl) ?_)
  rintro _ _ ⟨b6, hb6, rfl, rfl⟩
  refine L_yes rfl rfl rfl g7 (X_wr (w_callP rfl rfl rfl (fun w hg => wide_c _ (by decide) [_, _, _] _ w (own_ints (l := [_, _, _]) (hg.own _ (by repeat first | exact mH | apply mT)) rfl (by decide)) (by simp))) ?_)
  rintro _ _ ⟨rfl, rfl⟩
  refine Lp rfl (p_pick_f rfl rfl g7 rfl) ?_
  refine La rfl rfl rfl ?_
  refine L_then (kp [1, 7, 8, 10, 85, 86, 87, 106] rfl) ?_
  refine V_cond rfl ?_ ?_
  ·intro c9; try simp only [td] at c9
   refine Vs rfl ?_
   refine Lm rfl rfl rfl ?_
   iterate 3 refine La rfl rfl rfl ?_
   refine L_then (kp [2, 3, 4] rfl) ?_
   refine V_ret (blk_r (then_r (blk_r (then_r (then_r (blk_r (then_r ?_)))))))
   refine Leave.nil (.tmp rfl (.tmp rfl (.tmp rfl .nil))) ?_
   rw [checkT_pl (k := k) (e := 7) (⟨by omega, by omega, by assumption, by assumption, by assumption⟩) htr0 (by omega) (by omega) hkp (errPl_out c8 (by simp only [plOut, Task.pl, Bool.or_eq_true, Bool.or_eq_false_iff, Bool.false_eq_true, or_true, true_or, or_false, false_or, and_true, true_and, and_self, *])) (by decide)]; rfl
  intro c9; try simp only [td] at c9
  refine Vs rfl ?_
  refine Lm rfl rfl rfl ?_
  refine Lr rfl (rlA (vs := [_, _]) ag140 sz140 rfl rfl rfl) ?_
  refine Lr rfl (show RdA _ _ _ _ (.bool (seenB t k.toNat (t.pl k.toNat).tracker (t.pl k.toNat).tick)) from seen_look t k.toNat (by omega) _ _ ▸ r_look un136 lv140 ag140 zr4 rfl rfl rfl (k := [_, _]) rfl (by repeat first | exact mH | apply mT) his (seen_fit t _)) ?_
  refine La rfl rfl rfl ?_
  refine L_then (kp [1, 7, 8, 10, 85, 86, 87, 123] rfl) ?_
  refine V_cond rfl ?_ ?_
  ·intro c10; try simp only [td] at c10
   refine Vs rfl ?_
   refine Lm rfl rfl rfl ?_
   iterate 3 refine La rfl rfl rfl ?_
   refine L_then (kp [2, 3, 4] rfl) ?_
   refine V_ret (blk_r (then_r (blk_r (then_r (then_r (blk_r (then_r ?_)))))))
   refine Leave.nil (.tmp rfl (.tmp rfl (.tmp rfl .nil))) ?_
   rw [checkT_pl (k := k) (e := 5) (⟨by omega, by omega, by assumption, by assumption, by assumption⟩) htr0 (by omega) (by omega) hkp (errPl_dup c8 (by simp only [plOut, Task.pl, Bool.or_eq_true, Bool.or_eq_false_iff, Bool.false_eq_true, or_true, true_or, or_false, false_or, and_true, true_and, and_self, *]) (by assumption)) (by decide)]; rfl
  intro c10; try simp only [td] at c10
  refine V_skip (blk_n (then_n ?_))
  refine V_region rfl ?_
  refine Lm rfl rfl rfl ?_
  refine Lr rfl (rlA (vs := [_, _]) ag140 sz140 rfl rfl rfl) ?_
  refine Lw rfl (w_mapNew un136 lv140 ag140 rfl rfl rfl (k := [_, _]) rfl rfl (fun o' => (by repeat first | exact .head | apply SetAt.tail)) his (seen_fit t _) (seen_none t k.toNat (by omega) _ _ (by assumption))) ?_
  rintro _ _ ⟨es1, clk1, rfl, his1⟩
  refine L_keep (kp [1, 7, 85, 86, 87] rfl) (blk_n (then_n ?_))
  refine V_region rfl ?_
  first | refine Lp rfl (p_add' rfl rfl rfl (by unfold InI; omega)) ?_ | refine Lp rfl (p_add rfl rfl rfl) ?_
  refine Lm rfl rfl rfl ?_
  refine L_keep (kp [1, 7, 85, 86, 87] rfl) (then_n ?_)
  refine ⟨(k + 1, es1, clk1), ?_, ?_, (.cons rfl (.cons rfl (.cons rfl (.cons rfl (.cons rfl (.nil _)))))), (by repeat (first | exact List.Sublist.refl _ | apply List.Sublist.cons_cons | apply List.Sublist.cons | apply List.sublist_append_of_sublist_right)), rfl⟩
  ·refine ⟨by omega, by omega, fun j hj => ?_, ?_⟩
   ·by_cases e : (j : Int) < k
    ·exact hkp j e
    have ej : j = k.toNat := by omega
    rw [ej]; exact errPl_ok c8 (by simp only [plOut, Task.pl, Bool.or_eq_true, Bool.or_eq_false_iff, Bool.false_eq_true, or_true, true_or, or_false, false_or, and_true, true_and, and_self, *]) (by assumption)
   have e : (k + 1).toNat = k.toNat + 1 := by omega
   rw [e, seen_succ t _ (by omega)]; exact his1
  dsimp only; omega
 intro c7; try simp only [td] at c7
 refine V_exit (then_e (then_e (blk_e rfl (then_n ?_))))
 refine Vs rfl ?_
 iterate 3 refine La rfl rfl rfl ?_
 refine L_then (kp [2, 3, 4] rfl) ?_
 refine V_ret ?_
 refine Leave.nil (.tmp rfl (.tmp rfl (.tmp rfl .nil))) ?_
 rw [checkT_ok (⟨by omega, by omega, by assumption, by assumption, by assumption⟩) htr0 (fun j hj => hkp j (by omega))]; rfl

end Go.Proofs.YtlcccpeelombbaaGreatDoor

/- YtlcccpeelombbaaGreatDoor: the checks of the reference, and what asks for a check. -/
set_option linter.all false
namespace Go.Proofs.YtlcccpeelombbaaGreatDoor
open Go.Vc Go.Tk
set_option maxRecDepth 100000
theorem asked_c (t : Task) (l : List Int) (v sv : Value) (w : World) (ht : TaskR w v t) (hv : SliceR w 1 sv (l.map fun n => [Value.int .i64 n])) (hl : (l.length : Int) ≤ 9223372036854775806) : FnP Tryz.prog 98 [v, sv] w (.int .i64 (askedT t l)) := by
 have hT := ht
 obtain ⟨tv, pv, rfl, htr, hpl⟩ := ht.ex
 obtain ⟨ta, tc, rfl, htc, hte⟩ := htr.ex
 obtain ⟨pa, pc, rfl, hpc, hpe⟩ := hpl.ex
 have hltr := hT.ltr
 have hlpl := hT.lpl
 simp only [List.length_map] at hT htc hpc ⊢
 refine fn_pure Tryz.func98 rfl (by kernel_rfl) Tryz.ntmps98 Tryz.results98 rfl ?_
 refine Vs rfl ?_
 refine Lw rfl (w_box rfl rfl) ?_
 rintro _ _ ⟨b1, hb1, rfl, rfl⟩
 refine La rfl rfl rfl ?_
 refine L_then (kp [1, 2] rfl) ?_
 refine Vs rfl ?_
 refine Lr rfl (rlA (vs := [_, _, _, _, _]) ag39 sz39 rfl rfl rfl) ?_
 refine Lc rfl rfl rfl rfl (fun w hg => check_c t _ w (hT.good hg)) ?_
 refine Lm rfl rfl rfl ?_
 iterate 3 refine Lp rfl (p_ext rfl rfl rfl) ?_
 iterate 3 refine La rfl rfl rfl ?_
 refine L_then (kp [1, 7] rfl) ?_
 refine V_seq ?_
 refine Vs rfl ?_
 refine Lm rfl rfl rfl ?_
 refine Lp rfl (p_eql rfl rfl rfl) ?_
 refine Lm rfl rfl rfl ?_
 refine L_cases (d := 16) rfl ?_ ?_
 ·intro g1; have g1' := g1; try simp only [td] at g1'
  refine L_yes rfl rfl rfl g1 (X_p (p_move rfl rfl) ?_)
  refine L_yes rfl rfl rfl g1 (X_wr (w_callP rfl rfl rfl (fun w hg => never_c l _ w (hv.good hg) hl)) ?_)
  rintro _ _ ⟨rfl, rfl⟩
  refine Lp rfl (p_pick_t rfl rfl g1 rfl) ?_
  refine L_then (kp [7, 19] rfl) ?_
  refine V_cond rfl ?_ ?_
  ·intro c1; try simp only [td] at c1
   refine Vs rfl ?_
   refine La rfl rfl rfl ?_
   refine L_then (kp [4] rfl) ?_
   refine V_ret (then_r ?_)
   refine Leave.nil (.tmp rfl .nil) ?_
   show Value.int .i64 _ = _; simp [askedT, *]
  intro c1; try simp only [td] at c1
  refine V_skip (then_n ?_)
  refine Vs rfl ?_
  refine Lm rfl rfl rfl ?_
  refine La rfl rfl rfl ?_
  refine L_then (kp [4] rfl) ?_
  refine V_ret ?_
  refine Leave.nil (.tmp rfl .nil) ?_
  show Value.int .i64 _ = _; simp [askedT, *]
 intro g1; have g1' := g1; try simp only [td] at g1'
 iterate 2 refine L_no rfl rfl rfl g1 ?_
 refine Lp rfl (p_pick_f rfl rfl g1 rfl) ?_
 refine L_then (kp [7, 19] rfl) ?_
 refine V_cond_f rfl rfl ?_
 refine V_skip (then_n ?_)
 refine Vs rfl ?_
 refine Lm rfl rfl rfl ?_
 refine La rfl rfl rfl ?_
 refine L_then (kp [4] rfl) ?_
 refine V_ret ?_
 refine Leave.nil (.tmp rfl .nil) ?_
 show Value.int .i64 _ = _; simp [askedT, *]

end Go.Proofs.YtlcccpeelombbaaGreatDoor

/- YtlcccpeelombbaaGreatDoor: rooms and picks of package track. -/
set_option linter.all false
namespace Go.Proofs.YtlcccpeelombbaaGreatDoor
open Go.Vc Go.Tk
set_option maxRecDepth 100000
theorem apart_c (a b : Int) (ha : (-1000000000000000 ≤ a ∧ a ≤ 1000000000000000)) (hb : (-1000000000000000 ≤ b ∧ b ≤ 1000000000000000)) (w : World) : FnP Tryz.prog 136 [.int .i64 a, .int .i64 b] w (.int .i64 (apartI a b)) := by
 refine fn_pure Tryz.func136 rfl (by kernel_rfl) Tryz.ntmps136 Tryz.results136 rfl ?_
 refine Vs rfl ?_
 refine La rfl rfl rfl ?_
 refine L_then (kp [0, 1] rfl) ?_
 refine Vs rfl ?_
 iterate 2 refine Lm rfl rfl rfl ?_
 first | refine Lp rfl (p_sub' rfl rfl rfl (by unfold InI; omega)) ?_ | refine Lp rfl (p_sub rfl rfl rfl) ?_
 iterate 2 refine Lm rfl rfl rfl ?_
 first | refine Lp rfl (p_sub' rfl rfl rfl (by unfold InI; omega)) ?_ | refine Lp rfl (p_sub rfl rfl rfl) ?_
 refine Lp rfl (p_max rfl rfl rfl) ?_
 refine La rfl rfl rfl ?_
 refine L_then (kp [4] rfl) ?_
 refine V_ret ?_
 refine Leave.nil (.tmp rfl .nil) ?_
 rfl
theorem down_c (a b : Int) (hb : 0 < b) (ha : (-1000000000000000 ≤ a ∧ a ≤ 1000000000000000)) (w : World) : FnP Tryz.prog 146 [.int .i64 a, .int .i64 b] w (.int .i64 (a / b)) := by
 have hq := tdiv_abs hb ha
 refine fn_pure Tryz.func146 rfl (by kernel_rfl) Tryz.ntmps146 Tryz.results146 rfl ?_
 refine Vs rfl ?_
 refine La rfl rfl rfl ?_
 refine L_then (kp [0, 1] rfl) ?_
 refine Vs rfl ?_
 iterate 2 refine Lm rfl rfl rfl ?_
 first | refine Lp rfl (p_quo' rfl rfl rfl (by first | decide | omega) (by unfold InI; omega)) ?_ | refine Lp rfl (p_quo rfl rfl rfl (by first | decide | omega)) ?_
 refine La rfl rfl rfl ?_
 refine L_then (kp [0, 1, 5] rfl) ?_
 refine V_seq ?_
 refine Vs rfl ?_
 iterate 2 refine Lm rfl rfl rfl ?_
 refine Lp rfl (p_rem rfl rfl rfl (by first | decide | omega)) ?_
 refine Lp rfl (p_lss rfl rfl rfl) ?_
 refine L_then (kp [5, 12] rfl) ?_
 refine V_cond rfl ?_ ?_
 ·intro c1; try simp only [td] at c1
  refine V_region rfl ?_
  refine Lm rfl rfl rfl ?_
  first | refine Lp rfl (p_sub' rfl rfl rfl (by unfold InI; omega)) ?_ | refine Lp rfl (p_sub rfl rfl rfl) ?_
  refine La rfl rfl rfl ?_
  refine L_then (kp [5] rfl) ?_
  refine Vs rfl ?_
  refine Lm rfl rfl rfl ?_
  refine La rfl rfl rfl ?_
  refine L_then (kp [4] rfl) ?_
  refine V_ret ?_
  refine Leave.nil (.tmp rfl .nil) ?_
  show Value.int .i64 _ = _; rw [← down_eq hb, if_pos c1]
 intro c1; try simp only [td] at c1
 refine V_skip (then_n ?_)
 refine Vs rfl ?_
 refine Lm rfl rfl rfl ?_
 refine La rfl rfl rfl ?_
 refine L_then (kp [4] rfl) ?_
 refine V_ret ?_
 refine Leave.nil (.tmp rfl .nil) ?_
 show Value.int .i64 _ = _; rw [← down_eq hb, if_neg (by omega)]
theorem around_c (m : Int) (hm : 0 ≤ m ∧ m ≤ 1000000000000000000) (w : World) : FnP Tryz.prog 132 [.int .i64 m] w (.agg #[.int .i64 (-m), .int .i64 m]) := by
 refine fn_pure Tryz.func132 rfl (by kernel_rfl) Tryz.ntmps132 Tryz.results132 rfl ?_
 refine Vs rfl ?_
 refine Lw rfl (w_alloc zr148 rfl) ?_
 rintro _ _ ⟨b1, hb1, rfl, rfl⟩
 refine L_then (kp [0, 2] rfl) ?_
 refine Vs rfl ?_
 refine Lm rfl rfl rfl ?_
 first | refine Lp rfl (p_neg' rfl rfl (by unfold InI; omega)) ?_ | refine Lp rfl (p_neg rfl rfl) ?_
 refine Lm rfl rfl rfl ?_
 refine Lp rfl (p_build (r := [_, _]) pl24 zr24 rfl rfl rfl) ?_
 refine Lp rfl (p_build (r := [_, _]) pl148 zr148 rfl rfl rfl) ?_
 refine Ls (cs' := [_, _]) rfl sz148 rfl rfl rfl rfl rfl rfl rfl ?_
 refine L_then (kp [2] rfl) ?_
 refine V_ret ?_
 refine Leave.nil (.cellA (us := [_, _]) rfl ag148 sz148 (by repeat first | exact mH | apply mT) rfl .nil) ?_
 rfl
theorem empty_c (b : Nat) (lo hi : Int) (ty : Nat) (w : World) (hb : w.heap[b]? = some (.cells #[.int .i64 lo, .int .i64 hi] ty)) : FnP Tryz.prog 102 [.pointer (some ⟨b, 0, none⟩)] w (.bool (Span.none ⟨lo, hi⟩)) := by
 refine fn_pure Tryz.func102 rfl (by kernel_rfl) Tryz.ntmps102 Tryz.results102 rfl ?_
 refine Vs rfl ?_
 refine La rfl rfl rfl ?_
 refine L_then (kp [0] rfl) ?_
 refine V_seq (V_draw (.rd 0 (.rd 1 (.rd 2 (.rd 3 (.rd 4 (.rd 5 (.rd 6 (.rd 7 (.rd 8 (.rd 9 (.rd 10 (.rd 11 .done)))))))))))) mixed (by kernel_rfl) rfl ?_)
 refine Dm rfl rfl rfl rfl ?_
 refine Dp rfl rfl (p_nil rfl rfl) ?_
 refine Dp rfl rfl (p_fieldo fo148_0 rfl rfl) ?_
 refine Dp rfl rfl (p_fieldo fo24_0 rfl rfl) ?_
 refine Dr rfl rfl (r_loadB ag3 rfl rfl (own_cell hb _) List.not_mem_nil) ?_
 refine Dm rfl rfl rfl rfl ?_
 refine Dp rfl rfl (p_nil rfl rfl) ?_
 refine Dp rfl rfl (p_fieldo fo148_0 rfl rfl) ?_
 refine Dp rfl rfl (p_fieldo fo24_1 rfl rfl) ?_
 refine Dr rfl rfl (r_loadB ag3 rfl rfl (own_cell hb _) List.not_mem_nil) ?_
 refine Dp rfl rfl (p_gtr rfl rfl rfl) ?_
 refine Dp rfl rfl (p_assign rfl rfl) ?_
 refine D_then (kp [2] rfl) ?_
 refine V_ret ?_
 refine Leave.nil (.tmp rfl .nil) ?_
 rfl
theorem narrow_c (b : Nat) (lo hi : Int) (ty : Nat) (x y : Int) (w : World) (hb : w.heap[b]? = some (.cells #[.int .i64 lo, .int .i64 hi] ty)) : FnC Tryz.prog 101 [.pointer (some ⟨b, 0, none⟩), .int .i64 x, .int .i64 y] w fun v w' => ∃ o', Vc.Good w [b] [(b, o')] w' ∧ (v = .tuple #[] ∧ o' = .cells #[.int .i64 (max lo x), .int .i64 (min hi y)] ty) := by
 refine fn_mod (b := b) Tryz.func101 rfl (by kernel_rfl) Tryz.ntmps101 Tryz.results101 rfl hb ?_
 refine V_draw (.rd 0 (.rd 1 (.rd 2 (.rd 3 (.rd 4 (.rd 5 (.rd 6 (.rd 7 (.rd 8 (.rd 9 (.rd 10 (.rd 11 (.rd 12 (.rd 13 (.rd 14 (.rd 15 (.rd 16 (.rd 17 (.rd 18 (.wr 19 [17, 16, 15, 14, 12, 11, 10, 9, 1] (.rd 20 (.rd 21 (.rd 22 (.wr 23 [21, 20] .done)))))))))))))))))))))))) mixed (by kernel_rfl) rfl ?_
 iterate 3 refine Dm rfl rfl rfl rfl ?_
 refine Dp rfl rfl (p_nil rfl rfl) ?_
 refine Dp rfl rfl (p_fieldo fo148_0 rfl rfl) ?_
 refine Dp rfl rfl (p_fieldo fo24_0 rfl rfl) ?_
 refine Dr rfl rfl (rl ag3 rfl rfl rfl) ?_
 refine Dm rfl rfl rfl rfl ?_
 refine Dp rfl rfl (p_max rfl rfl rfl) ?_
 refine Dm rfl rfl rfl rfl ?_
 refine Dp rfl rfl (p_nil rfl rfl) ?_
 refine Dp rfl rfl (p_fieldo fo148_0 rfl rfl) ?_
 refine Dp rfl rfl (p_fieldo fo24_1 rfl rfl) ?_
 refine Dr rfl rfl (rl ag3 rfl rfl rfl) ?_
 refine Dm rfl rfl rfl rfl ?_
 refine Dp rfl rfl (p_min rfl rfl rfl) ?_
 refine Dp rfl rfl (p_nil rfl rfl) ?_
 refine Dp rfl rfl (p_fieldo fo148_0 rfl rfl) ?_
 refine Dp rfl rfl (p_fieldo fo24_0 rfl rfl) ?_
 refine D_wr (.go (E' := []) rfl (.plain rfl) (ws (cs' := [_, _]) sz3 rfl rfl rfl rfl rfl rfl rfl) rfl ?_)
 rintro _ _ ⟨rfl, rfl⟩
 refine ⟨.nil, ?_⟩
 refine Dp rfl rfl (p_nil rfl rfl) ?_
 refine Dp rfl rfl (p_fieldo fo148_0 rfl rfl) ?_
 refine Dp rfl rfl (p_fieldo fo24_1 rfl rfl) ?_
 refine D_wr (.go (E' := []) rfl (.plain rfl) (ws (cs' := [_, _]) sz3 rfl rfl rfl rfl rfl rfl rfl) rfl ?_)
 rintro _ _ ⟨rfl, rfl⟩
 refine ⟨.nil, ?_⟩
 refine D_keep .nil ?_
 refine Leave.nil .nil ?_
 exact ⟨_, (by repeat first | exact mH | apply mT), rfl, rfl⟩
theorem gone_c (b : Nat) (lo hi : Int) (ty : Nat) (x y k : Int) (hx : (-1000000000000000 ≤ x ∧ x ≤ 1000000000000000)) (hy : (-1000000000000000 ≤ y ∧ y ≤ 1000000000000000)) (hk : 0 < k) (w : World) (hb : w.heap[b]? = some (.cells #[.int .i64 lo, .int .i64 hi] ty)) : FnC Tryz.prog 137 [.pointer (some ⟨b, 0, none⟩), .int .i64 x, .int .i64 y, .int .i64 k] w fun v w' => ∃ o', Vc.Good w [b] [(b, o')] w' ∧ (v = .tuple #[] ∧ o' = .cells #[.int .i64 (max lo (-((-x) / k))), .int .i64 (min hi (y / k))] ty) := by
 refine fn_mod (b := b) Tryz.func137 rfl (by kernel_rfl) Tryz.ntmps137 Tryz.results137 rfl hb ?_
 refine V_region rfl ?_
 iterate 2 refine Lm rfl rfl rfl ?_
 first | refine Lp rfl (p_neg' rfl rfl (by unfold InI; omega)) ?_ | refine Lp rfl (p_neg rfl rfl) ?_
 refine Lm rfl rfl rfl ?_
 refine Lc rfl rfl rfl rfl (fun w hg => down_c _ _ hk (by omega) w) ?_
 have hq := ediv_abs (a := -x) (A := 1000000000000000) hk (by omega)
 first | refine Lp rfl (p_neg' rfl rfl (by unfold InI; omega)) ?_ | refine Lp rfl (p_neg rfl rfl) ?_
 iterate 2 refine Lm rfl rfl rfl ?_
 refine Lc rfl rfl rfl rfl (fun w hg => down_c _ _ hk (by omega) w) ?_
 refine Lw rfl (w_callM rfl rfl rfl (fun o' => (by repeat first | exact .head | apply SetAt.tail)) (fun w hg => narrow_c b lo hi ty _ _ w (hg.own _ (by repeat first | exact mH | apply mT)))) ?_
 rintro _ _ ⟨_, rfl, rfl, rfl⟩
 refine L_keep .nil ?_
 refine Leave.nil .nil ?_
 exact ⟨_, (by repeat first | exact mH | apply mT), rfl, rfl⟩
theorem part1_c (x : Plot) (w : World) : FnP Tryz.prog 143 [.agg (Plot.cells x).toArray] w (.int .i64 x.x) := by
 refine fn_pure Tryz.func143 rfl (by kernel_rfl) Tryz.ntmps143 Tryz.results143 rfl ?_
 refine Vs rfl ?_
 refine Lw rfl (w_box rfl rfl) ?_
 rintro _ _ ⟨b1, hb1, rfl, rfl⟩
 refine La rfl rfl rfl ?_
 refine L_then (kp [1] rfl) ?_
 refine Vs rfl ?_
 refine Lp rfl (p_fieldo fo138_2 rfl rfl) ?_
 refine Lr rfl (rl ag3 rfl rfl rfl) ?_
 refine La rfl rfl rfl ?_
 refine L_then (kp [2] rfl) ?_
 refine V_ret ?_
 refine Leave.nil (.tmp rfl .nil) ?_
 rfl
theorem part2_c (x : Plot) (w : World) : FnP Tryz.prog 144 [.agg (Plot.cells x).toArray] w (.int .i64 x.y) := by
 refine fn_pure Tryz.func144 rfl (by kernel_rfl) Tryz.ntmps144 Tryz.results144 rfl ?_
 refine Vs rfl ?_
 refine Lw rfl (w_box rfl rfl) ?_
 rintro _ _ ⟨b1, hb1, rfl, rfl⟩
 refine La rfl rfl rfl ?_
 refine L_then (kp [1] rfl) ?_
 refine Vs rfl ?_
 refine Lp rfl (p_fieldo fo138_3 rfl rfl) ?_
 refine Lr rfl (rl ag3 rfl rfl rfl) ?_
 refine La rfl rfl rfl ?_
 refine L_then (kp [2] rfl) ?_
 refine V_ret ?_
 refine Leave.nil (.tmp rfl .nil) ?_
 rfl
theorem part3_c (x : Plot) (w : World) : FnP Tryz.prog 145 [.agg (Plot.cells x).toArray] w (.int .i64 x.z) := by
 refine fn_pure Tryz.func145 rfl (by kernel_rfl) Tryz.ntmps145 Tryz.results145 rfl ?_
 refine Vs rfl ?_
 refine Lw rfl (w_box rfl rfl) ?_
 rintro _ _ ⟨b1, hb1, rfl, rfl⟩
 refine La rfl rfl rfl ?_
 refine L_then (kp [1] rfl) ?_
 refine Vs rfl ?_
 refine Lp rfl (p_fieldo fo138_4 rfl rfl) ?_
 refine Lr rfl (rl ag3 rfl rfl rfl) ?_
 refine La rfl rfl rfl ?_
 refine L_then (kp [2] rfl) ?_
 refine V_ret ?_
 refine Leave.nil (.tmp rfl .nil) ?_
 rfl
def pf (k : Int) : Nat := if k = 0 then 143 else if k = 1 then 144 else 145
theorem pf_c (k : Int) (x : Plot) (w : World) : FnP Tryz.prog (pf k) [.agg (Plot.cells x).toArray] w (.int .i64 (partI x k)) := by
 unfold pf partI
 split
 ·exact part1_c x w
 split
 ·exact part2_c x w
 exact part3_c x w
theorem part_c (k : Int) (hk : k = 0 ∨ k = 1 ∨ k = 2) (w : World) : FnP Tryz.prog 134 [.int .i64 k] w (.func (.func (pf k)) #[] #[]) := by
 refine fn_pure Tryz.func134 rfl (by kernel_rfl) Tryz.ntmps134 Tryz.results134 rfl ?_
 refine Vs rfl ?_
 refine La rfl rfl rfl ?_
 refine L_then (kp [0] rfl) ?_
 refine Vs rfl ?_
 refine Lw rfl (w_slice (r := [_, _, _]) un193 sz187 zr187 rfl (by decide) rfl (by decide) rfl rfl) ?_
 rintro _ _ ⟨b1, hb1, rfl, rfl⟩
 refine Lm rfl rfl rfl ?_
 refine Lp rfl (p_idxo es193 rfl rfl rfl (by omega) (by omega)) ?_
 refine Lr rfl (r_load ag187 rfl rfl (by repeat first | exact mH | apply mT) (v := .func (.func (pf k)) #[] #[]) (by rcases hk with rfl | rfl | rfl <;> rfl)) ?_
 refine La rfl rfl rfl ?_
 refine L_then (kp [2] rfl) ?_
 refine V_ret ?_
 refine Leave.nil (.tmp rfl .nil) ?_
 rfl
theorem reach_c (bp bm : Nat) (mv : Value) (t : Task) (ps : List Int) (w : World) (hp : PickR w bp bm mv t ps) (n : Int) (hn : 0 ≤ n ∧ n ≤ 100000) : FnP Tryz.prog 133 [.pointer (some ⟨bp, 0, none⟩), .int .i64 n] w (.int .i64 (reachT t n)) := by
 have hP := hp
 obtain ⟨tv, pv, sv, ty, fr, hbp, htr, hpl, hsv⟩ := hp.ex
 obtain ⟨ta, tc, rfl, htc, hte⟩ := htr.ex
 obtain ⟨pa, pc, rfl, hpc, hpe⟩ := hpl.ex
 obtain ⟨sa, sc, rfl, hsc, hse⟩ := hsv.ex
 have hG := hP.good
 obtain ⟨hfrm, hspd, hacc⟩ := hG.nums
 have hne := hP.ne
 have hpsl := hP.psl
 simp only [List.length_map] at hbp htc hpc hsc
 have hb := reach_bnd hG hn
 have hcp := cap_bnd hG hn
 have hq := tdiv_bnd (b := t.accel) (by omega) (show 0 ≤ t.speed ∧ t.speed ≤ t.speed by omega)
 simp only [capT] at hb hcp
 refine fn_pure Tryz.func133 rfl (by kernel_rfl) Tryz.ntmps133 Tryz.results133 rfl ?_
 refine Vs rfl ?_
 refine La rfl rfl rfl ?_
 refine L_then (kp [0, 1] rfl) ?_
 refine V_seq (V_draw (.rd 0 (.rd 1 (.rd 2 (.rd 3 (.rd 4 (.rd 5 (.rd 6 (.rd 7 (.rd 8 (.rd 9 (.rd 10 (.rd 11 (.rd 12 (.rd 13 .done)))))))))))))) mixed (by kernel_rfl) rfl ?_)
 iterate 2 refine Dm rfl rfl rfl rfl ?_
 refine Dp rfl rfl (p_nil rfl rfl) ?_
 refine Dp rfl rfl (p_fieldo fo172_0 rfl rfl) ?_
 refine Dp rfl rfl (p_fieldo fo39_1 rfl rfl) ?_
 refine Dr rfl rfl (r_loadB ag3 rfl rfl (own_cell hbp _) List.not_mem_nil) ?_
 refine Dm rfl rfl rfl rfl ?_
 refine Dp rfl rfl (p_nil rfl rfl) ?_
 refine Dp rfl rfl (p_fieldo fo172_0 rfl rfl) ?_
 refine Dp rfl rfl (p_fieldo fo39_2 rfl rfl) ?_
 refine Dr rfl rfl (r_loadB ag3 rfl rfl (own_cell hbp _) List.not_mem_nil) ?_
 first | refine Dp rfl rfl (p_quo' rfl rfl rfl (by first | decide | omega) (by unfold InI; omega)) ?_ | refine Dp rfl rfl (p_quo rfl rfl rfl (by first | decide | omega)) ?_
 refine Dp rfl rfl (p_min rfl rfl rfl) ?_
 refine Dp rfl rfl (p_assign rfl rfl) ?_
 refine D_then (kp [0, 1, 5] rfl) ?_
 refine V_seq (V_draw (.rd 0 (.rd 1 (.rd 2 (.rd 3 (.rd 4 (.rd 5 (.rd 6 (.rd 7 (.rd 8 (.rd 9 (.rd 10 (.rd 11 (.rd 12 (.rd 13 (.rd 14 (.rd 15 (.rd 16 (.rd 17 (.rd 18 (.rd 19 (.rd 20 (.rd 21 .done)))))))))))))))))))))) mixed (by kernel_rfl) rfl ?_)
 refine Dm rfl rfl rfl rfl ?_
 refine Dp rfl rfl (p_nil rfl rfl) ?_
 refine Dp rfl rfl (p_fieldo fo172_0 rfl rfl) ?_
 refine Dp rfl rfl (p_fieldo fo39_2 rfl rfl) ?_
 refine Dr rfl rfl (r_loadB ag3 rfl rfl (own_cell hbp _) List.not_mem_nil) ?_
 iterate 2 refine Dm rfl rfl rfl rfl ?_
 first | refine Dp rfl rfl (p_add' rfl rfl rfl (by unfold InI; omega)) ?_ | refine Dp rfl rfl (p_add rfl rfl rfl) ?_
 first | refine Dp rfl rfl (p_mul' rfl rfl rfl (by unfold InI; omega)) ?_ | refine Dp rfl rfl (p_mul rfl rfl rfl) ?_
 first | refine Dp rfl rfl (p_quo' rfl rfl rfl (by first | decide | omega) (by unfold InI; omega)) ?_ | refine Dp rfl rfl (p_quo rfl rfl rfl (by first | decide | omega)) ?_
 first | refine Dp rfl rfl (p_mul' rfl rfl rfl (by unfold InI; omega)) ?_ | refine Dp rfl rfl (p_mul rfl rfl rfl) ?_
 iterate 2 refine Dm rfl rfl rfl rfl ?_
 first | refine Dp rfl rfl (p_sub' rfl rfl rfl (by unfold InI; omega)) ?_ | refine Dp rfl rfl (p_sub rfl rfl rfl) ?_
 refine Dm rfl rfl rfl rfl ?_
 refine Dp rfl rfl (p_nil rfl rfl) ?_
 refine Dp rfl rfl (p_fieldo fo172_0 rfl rfl) ?_
 refine Dp rfl rfl (p_fieldo fo39_1 rfl rfl) ?_
 refine Dr rfl rfl (r_loadB ag3 rfl rfl (own_cell hbp _) List.not_mem_nil) ?_
 first | refine Dp rfl rfl (p_mul' rfl rfl rfl (by unfold InI; omega)) ?_ | refine Dp rfl rfl (p_mul rfl rfl rfl) ?_
 first | refine Dp rfl rfl (p_add' rfl rfl rfl (by unfold InI; omega)) ?_ | refine Dp rfl rfl (p_add rfl rfl rfl) ?_
 refine Dp rfl rfl (p_assign rfl rfl) ?_
 refine D_then (kp [4] rfl) ?_
 refine V_ret ?_
 refine Leave.nil (.tmp rfl .nil) ?_
 rfl
theorem width_c (bp bm : Nat) (mv : Value) (t : Task) (ps : List Int) (w : World) (hp : PickR w bp bm mv t ps) (i : Int) (hi0 : 0 ≤ i) (hi1 : i < t.plots.length) : FnP Tryz.prog 135 [.pointer (some ⟨bp, 0, none⟩), .int .i64 i] w (.int .i64 (widthT t i.toNat)) := by
 have hP := hp
 obtain ⟨tv, pv, sv, ty, fr, hbp, htr, hpl, hsv⟩ := hp.ex
 obtain ⟨ta, tc, rfl, htc, hte⟩ := htr.ex
 obtain ⟨pa, pc, rfl, hpc, hpe⟩ := hpl.ex
 obtain ⟨sa, sc, rfl, hsc, hse⟩ := hsv.ex
 have hG := hP.good
 obtain ⟨hfrm, hspd, hacc⟩ := hG.nums
 have hne := hP.ne
 have hpsl := hP.psl
 simp only [List.length_map] at hbp htc hpc hsc
 have hi : i.toNat < t.plots.length := by omega
 have pb := hG.plot hi
 have tb := hG.of hi
 obtain ⟨p1, p2, p3, p4, p5, p6⟩ := pb
 obtain ⟨q1, q2, q3, q4, q5⟩ := tb
 have b1 := far_bnd hG hi
 have b2 := km_bnd hG hi
 have b3 := grow_bnd hG hi
 simp only [farT, Task.trOf, Task.pl, Task.tr] at p1 p2 p3 p4 p5 p6 q1 q2 q3 q4 q5 b1 b2 b3
 obtain ⟨qa, rfl, hqn, hcp⟩ := hpe i.toNat _ (getD_cells (d := plZ) (by omega))
 obtain ⟨ra, rfl, hrn, hct⟩ := hte (t.plots.getD i.toNat plZ).tracker.toNat _ (getD_cells (d := trZ) (by omega))
 refine fn_pure Tryz.func135 rfl (by kernel_rfl) Tryz.ntmps135 Tryz.results135 rfl ?_
 refine Vs rfl ?_
 refine La rfl rfl rfl ?_
 refine L_then (kp [0, 1] rfl) ?_
 refine Vs rfl ?_
 refine Lm rfl rfl rfl ?_
 refine Ln rfl rfl rfl ?_
 refine Lp rfl (p_fieldo fo172_0 rfl rfl) ?_
 refine Lp rfl (p_fieldo fo39_4 rfl rfl) ?_
 refine Lr rfl (r_loadB ag37 rfl rfl (own_cell hbp _) List.not_mem_nil) ?_
 refine Lm rfl rfl rfl ?_
 refine Lp rfl (p_idx es37 rfl rfl rfl (by omega) (by omega)) ?_
 refine Lr rfl (r_loadBA ag138 sz138 rfl rfl hcp rfl List.not_mem_nil) ?_
 refine Lw rfl (w_alloc zr138 rfl) ?_
 rintro _ _ ⟨b1, hb1, rfl, rfl⟩
 refine Ls (cs' := [_, _, _, _, _]) rfl sz138 rfl rfl rfl rfl rfl rfl rfl ?_
 refine L_then (kp [0, 5] rfl) ?_
 refine V_seq (V_draw (.rd 0 (.rd 1 (.rd 2 (.rd 3 (.rd 4 (.rd 5 (.rd 6 (.rd 7 (.rd 8 (.wr 9 [8, 7, 6, 5, 4, 3, 2, 1, 0] (.wr 10 [] .done))))))))))) mixed (by kernel_rfl) rfl ?_)
 refine Dm rfl rfl rfl rfl ?_
 refine Dp rfl rfl (p_nil rfl rfl) ?_
 refine Dp rfl rfl (p_fieldo fo172_0 rfl rfl) ?_
 refine Dp rfl rfl (p_fieldo fo39_3 rfl rfl) ?_
 refine Dr rfl rfl (r_loadB ag36 rfl rfl (own_cell hbp _) List.not_mem_nil) ?_
 refine Dp rfl rfl (p_fieldo fo138_0 rfl rfl) ?_
 refine Dr rfl rfl (rl ag3 rfl rfl rfl) ?_
 refine Dp rfl rfl (p_idx es36 rfl rfl rfl (by omega) (by omega)) ?_
 refine Dr rfl rfl (r_loadBA ag132 sz132 rfl rfl hct rfl List.not_mem_nil) ?_
 refine D_wr (.go (E' := [(8, _), (6, _), (4, _)]) rfl (.plain rfl) (w_alloc zr132 rfl) rfl ?_)
 rintro _ _ ⟨b2, hb2, rfl, rfl⟩
 refine ⟨(.cons rfl (.plain rfl) (r_loadBA ag132 sz132 rfl rfl hct rfl List.not_mem_nil) (.cons rfl (.plain rfl) (rl ag3 rfl rfl rfl) (.cons rfl (.plain rfl) (r_loadB ag36 rfl rfl (own_cell hbp _) List.not_mem_nil) .nil))), ?_⟩
 refine D_wr (.go (E' := []) rfl (.plain rfl) (ws (cs' := [_, _, _, _, _, _]) sz132 rfl rfl rfl rfl rfl rfl rfl) rfl ?_)
 rintro _ _ ⟨rfl, rfl⟩
 refine ⟨.nil, ?_⟩
 refine D_then (kp [5, 6] rfl) ?_
 refine V_seq (V_draw (.rd 0 (.rd 1 (.rd 2 (.rd 3 (.rd 4 (.rd 5 (.rd 6 (.rd 7 (.rd 9 (.rd 10 (.rd 11 (.rd 12 (.rd 14 (.rd 15 (.wr 8 [15, 14, 12, 11, 10, 9, 6, 4, 3, 2, 1, 0] (.wr 13 [15, 14, 11, 9, 7, 6, 5, 4, 3, 2, 1, 0] (.wr 16 [14, 12, 11, 10, 9, 7, 6, 5, 4, 3, 2, 1, 0] (.rd 17 (.rd 18 (.rd 19 (.rd 20 (.rd 21 (.rd 22 (.rd 23 .done)))))))))))))))))))))))) mixed (by kernel_rfl) rfl ?_)
 refine Dp rfl rfl (p_fieldo fo132_3 rfl rfl) ?_
 refine Dr rfl rfl (rl ag3 rfl rfl rfl) ?_
 refine Dp rfl rfl (p_fieldo fo132_4 rfl rfl) ?_
 refine Dr rfl rfl (rl ag3 rfl rfl rfl) ?_
 refine Dp rfl rfl (p_fieldo fo138_2 rfl rfl) ?_
 refine Dr rfl rfl (rl ag3 rfl rfl rfl) ?_
 refine Dp rfl rfl (p_fieldo fo132_1 rfl rfl) ?_
 refine Dr rfl rfl (rl ag3 rfl rfl rfl) ?_
 refine Dp rfl rfl (p_fieldo fo138_3 rfl rfl) ?_
 refine Dr rfl rfl (rl ag3 rfl rfl rfl) ?_
 refine Dp rfl rfl (p_fieldo fo132_2 rfl rfl) ?_
 refine Dr rfl rfl (rl ag3 rfl rfl rfl) ?_
 refine Dp rfl rfl (p_fieldo fo138_4 rfl rfl) ?_
 refine Dr rfl rfl (rl ag3 rfl rfl rfl) ?_
 refine D_wr (.go (E' := [(15, _), (12, _), (10, _), (3, _), (1, _)]) rfl (.plain rfl) (w_callP rfl rfl rfl (fun w hg => apart_c _ _ (by omega) (by omega) w)) rfl ?_)
 rintro _ _ ⟨rfl, rfl⟩
 refine ⟨(.cons rfl (.plain rfl) (rl ag3 rfl rfl rfl) (.cons rfl (.plain rfl) (rl ag3 rfl rfl rfl) (.cons rfl (.plain rfl) (rl ag3 rfl rfl rfl) (.cons rfl (.plain rfl) (rl ag3 rfl rfl rfl) (.cons rfl (.plain rfl) (rl ag3 rfl rfl rfl) .nil))))), ?_⟩
 refine D_wr (.go (E' := [(15, _), (3, _), (1, _)]) rfl (.plain rfl) (w_callP rfl rfl rfl (fun w hg => apart_c _ _ (by omega) (by omega) w)) rfl ?_)
 rintro _ _ ⟨rfl, rfl⟩
 refine ⟨(.cons rfl (.plain rfl) (rl ag3 rfl rfl rfl) (.cons rfl (.plain rfl) (rl ag3 rfl rfl rfl) (.cons rfl (.plain rfl) (rl ag3 rfl rfl rfl) .nil))), ?_⟩
 refine D_wr (.go (E' := [(3, _), (1, _)]) rfl (.plain rfl) (w_callP rfl rfl rfl (fun w hg => apart_c _ _ (by omega) (by omega) w)) rfl ?_)
 rintro _ _ ⟨rfl, rfl⟩
 refine ⟨(.cons rfl (.plain rfl) (rl ag3 rfl rfl rfl) (.cons rfl (.plain rfl) (rl ag3 rfl rfl rfl) .nil)), ?_⟩
 refine Dp rfl rfl (p_max3 rfl rfl rfl rfl) ?_
 first | refine Dp rfl rfl (p_add' rfl rfl rfl (by unfold InI; omega)) ?_ | refine Dp rfl rfl (p_add rfl rfl rfl) ?_
 first | refine Dp rfl rfl (p_sub' rfl rfl rfl (by unfold InI; omega)) ?_ | refine Dp rfl rfl (p_sub rfl rfl rfl) ?_
 first | refine Dp rfl rfl (p_quo' rfl rfl rfl (by first | decide | omega) (by unfold InI; omega)) ?_ | refine Dp rfl rfl (p_quo rfl rfl rfl (by first | decide | omega)) ?_
 first | refine Dp rfl rfl (p_mul' rfl rfl rfl (by unfold InI; omega)) ?_ | refine Dp rfl rfl (p_mul rfl rfl rfl) ?_
 first | refine Dp rfl rfl (p_add' rfl rfl rfl (by unfold InI; omega)) ?_ | refine Dp rfl rfl (p_add rfl rfl rfl) ?_
 refine Dp rfl rfl (p_assign rfl rfl) ?_
 refine D_then (kp [4] rfl) ?_
 refine V_ret ?_
 refine Leave.nil (.tmp rfl .nil) ?_
 rfl

end Go.Proofs.YtlcccpeelombbaaGreatDoor

/- YtlcccpeelombbaaGreatDoor: the walk of place. -/
set_option linter.all false
namespace Go.Proofs.YtlcccpeelombbaaGreatDoor
open Go.Vc Go.Tk
set_option maxRecDepth 100000
theorem place_c (bp bm : Nat) (es : Array MapEntry) (clk : Nat) (t : Task) (ps : List Int) (k u : Int) (hk : k = 0 ∨ k = 1 ∨ k = 2) (hu : 0 ≤ u ∧ u ≤ 100000) (w : World) (hp : PickR w bp bm (.map (some bm)) t ps) (hc : Cache t ps es) (hb : w.heap[bm]? = some (.map es clk)) : FnC Tryz.prog 123 [.pointer (some ⟨bp, 0, none⟩), .agg #[.int .i64 k, .int .i64 u]] w fun v w' => ∃ o', Vc.Good w [bm] [(bm, o')] w' ∧ (v = .agg #[.int .i64 (placeT t ps k u).lo, .int .i64 (placeT t ps k u).hi] ∧ ∃ es' clk', o' = .map es' clk' ∧ Cache t ps es') := by
 have hP := hp
 obtain ⟨tv, pv, sv, ty, fr, hbp, htr, hpl, hsv⟩ := hp.ex
 obtain ⟨ta, tc, rfl, htc, hte⟩ := htr.ex
 obtain ⟨pa, pc, rfl, hpc, hpe⟩ := hpl.ex
 obtain ⟨sa, sc, rfl, hsc, hse⟩ := hsv.ex
 have hG := hP.good
 obtain ⟨hfrm, hspd, hacc⟩ := hG.nums
 have hne := hP.ne
 have hpsl := hP.psl
 simp only [List.length_map] at hbp htc hpc hsc
 obtain ⟨l, his, hca⟩ := hc
 obtain ⟨lo0, hi0, is0, hs1, hs2, hs3, hs4⟩ := cache_look hca k u
 refine fn_mod (b := bm) Tryz.func123 rfl (by kernel_rfl) Tryz.ntmps123 Tryz.results123 rfl hb ?_
 refine Vs rfl ?_
 refine Lw rfl (w_box rfl rfl) ?_
 rintro _ _ ⟨b1, hb1, rfl, rfl⟩
 refine Lw rfl (w_alloc zr148 rfl) ?_
 rintro _ _ ⟨b2, hb2, rfl, rfl⟩
 refine L_then (kp [0, 3, 4] rfl) ?_
 refine V_seq ?_
 refine V_seq (V_draw (.rd 0 (.rd 1 (.rd 2 (.rd 3 (.rd 4 (.rd 5 (.rd 6 (.rd 7 (.rd 8 (.wr 9 [8, 7, 6, 5, 4, 3, 2, 1, 0] (.wr 10 [8] (.rd 11 .done)))))))))))) mixed (by kernel_rfl) rfl ?_)
 refine Dm rfl rfl rfl rfl ?_
 refine Dp rfl rfl (p_nil rfl rfl) ?_
 refine Dp rfl rfl (p_fieldo fo172_2 rfl rfl) ?_
 refine Dr rfl rfl (r_loadB ag170 rfl rfl (own_cell hbp _) (by simp only [Vc.add_block, List.mem_singleton]; assumption)) ?_
 refine Dr rfl rfl (rlA (vs := [_, _]) ag177 sz177 rfl rfl rfl) ?_
 refine Dr rfl rfl (show RdA _ _ _ _ (.tuple #[.agg #[.int .i64 lo0, .int .i64 hi0], .bool is0]) from hs1 ▸ hs2 ▸ r_look2 un170 lv177 ag177 zr148 rfl rfl rfl (k := [_, _]) rfl (by repeat first | exact mH | apply mT) his (cache_fit hca)) ?_
 refine Dm rfl rfl rfl rfl ?_
 iterate 2 refine Dp rfl rfl (p_ext rfl rfl rfl) ?_
 refine D_wr (.go (E' := [(5, _), (4, _), (3, _)]) rfl (.plain rfl) (w_alloc zr148 rfl) rfl ?_)
 rintro _ _ ⟨b3, hb3, rfl, rfl⟩
 refine ⟨(.cons rfl (.plain rfl) (show RdA _ _ _ _ (.tuple #[.agg #[.int .i64 lo0, .int .i64 hi0], .bool is0]) from hs1 ▸ hs2 ▸ r_look2 un170 lv177 ag177 zr148 rfl rfl rfl (k := [_, _]) rfl (by repeat first | exact mH | apply mT) his (cache_fit hca)) (.cons rfl (.plain rfl) (rlA (vs := [_, _]) ag177 sz177 rfl rfl rfl) (.cons rfl (.plain rfl) (r_loadB ag170 rfl rfl (own_cell hbp _) (by simp only [Vc.add_block, List.mem_singleton]; assumption)) .nil))), ?_⟩
 refine D_wr (.go (E' := []) rfl (.plain rfl) (ws (cs' := [_, _]) sz148 rfl rfl rfl rfl rfl rfl rfl) rfl ?_)
 rintro _ _ ⟨rfl, rfl⟩
 refine ⟨.nil, ?_⟩
 refine Dp rfl rfl (p_assign rfl rfl) ?_
 refine D_then (kp [0, 3, 4, 5, 6] rfl) ?_
 refine Vs rfl ?_
 refine Lm rfl rfl rfl ?_
 refine L_then (kp [0, 3, 4, 5, 23] rfl) ?_
 refine V_cond rfl ?_ ?_
 ·intro c1; try simp only [td] at c1
  refine Vs rfl ?_
  refine Lr rfl (rlA (vs := [_, _]) ag148 sz148 rfl rfl rfl) ?_
  refine Ls (cs' := [_, _]) rfl sz148 rfl rfl rfl rfl rfl rfl rfl ?_
  refine L_then (kp [4] rfl) ?_
  refine V_ret (then_r ?_)
  refine Leave.nil (.cellA (us := [_, _]) rfl ag148 sz148 (by repeat first | exact mH | apply mT) rfl .nil) ?_
  obtain ⟨rfl, rfl⟩ := hs3 c1
  exact ⟨_, (by repeat first | exact mH | apply mT), rfl, _, _, rfl, l, his, hca⟩
 intro c1; try simp only [td] at c1
 refine V_skip (then_n ?_)
 refine Vs rfl ?_
 refine Lw rfl (w_alloc zr148 rfl) ?_
 rintro _ _ ⟨b4, hb4, rfl, rfl⟩
 refine L_then (kp [0, 3, 4, 7] rfl) ?_
 refine V_seq ?_
 refine V_seq (V_draw (.rd 0 (.rd 1 (.rd 2 (.rd 3 (.rd 4 (.rd 5 (.rd 6 (.rd 7 (.rd 8 .done))))))))) mixed (by kernel_rfl) rfl ?_)
 refine Dp rfl rfl (p_fieldo fo177_1 rfl rfl) ?_
 refine Dr rfl rfl (rl ag3 rfl rfl rfl) ?_
 refine Dm rfl rfl rfl rfl ?_
 refine Dp rfl rfl (p_nil rfl rfl) ?_
 refine Dp rfl rfl (p_fieldo fo172_0 rfl rfl) ?_
 refine Dp rfl rfl (p_fieldo fo39_0 rfl rfl) ?_
 refine Dr rfl rfl (r_loadB ag3 rfl rfl (own_cell hbp _) (by simp only [Vc.add_block, List.mem_singleton]; assumption)) ?_
 first | refine Dp rfl rfl (p_sub' rfl rfl rfl (by unfold InI; omega)) ?_ | refine Dp rfl rfl (p_sub rfl rfl rfl) ?_
 refine Dp rfl rfl (p_assign rfl rfl) ?_
 refine D_then (kp [0, 3, 4, 7, 8] rfl) ?_
 refine Vs rfl ?_
 refine Lm rfl rfl rfl ?_
 refine Lp rfl (p_gtr rfl rfl rfl) ?_
 refine L_then (kp [0, 3, 4, 7, 8, 34] rfl) ?_
 refine V_cond rfl ?_ ?_
 ·intro c2; try simp only [td] at c2
  have hrb := reachT_bnd hG (n := u - t.frm) (by omega)
  refine Vs rfl ?_
  iterate 2 refine Lm rfl rfl rfl ?_
  refine Lc rfl rfl rfl rfl (fun w hg => reach_c bp bm _ t ps w (hP.good' hg) _ (by omega)) ?_
  refine Lp rfl (p_min rfl rfl rfl) ?_
  refine Lc rfl rfl rfl rfl (fun w hg => around_c _ (by omega) w) ?_
  refine Ls (cs' := [_, _]) rfl sz148 rfl rfl rfl rfl rfl rfl rfl ?_
  refine L_then (kp [0, 3, 4, 7] rfl) ?_
  refine Vs rfl ?_
  refine Lp rfl (p_fieldo fo177_0 rfl rfl) ?_
  refine Lr rfl (rl ag3 rfl rfl rfl) ?_
  refine Lc rfl rfl rfl rfl (fun w hg => part_c k hk w) ?_
  refine La rfl rfl rfl ?_
  refine L_then (kp [0, 3, 4, 7, 9] rfl) ?_
  refine Vs rfl ?_
  refine Lm rfl rfl rfl ?_
  refine Ln rfl rfl rfl ?_
  refine Lp rfl (p_fieldo fo172_1 rfl rfl) ?_
  refine Lr rfl (r_loadB ag53 rfl rfl (own_cell hbp _) (by simp only [Vc.add_block, List.mem_singleton]; assumption)) ?_
  refine Lp rfl (p_len isl53 rfl rfl) ?_
  refine Lm rfl rfl rfl ?_
  refine L_then (kp [0, 3, 4, 7, 9, 46, 47, 48] rfl) ?_
  refine V_block ?_
  refine V_loop1 (γ := Int × Span) (kp [0, 3, 4, 7, 9, 46, 47] rfl) (fun (j, s) => [(48, .int .i64 j)]) (fun (j, s) => [(b4, .cells #[.int .i64 s.lo, .int .i64 s.hi] 148), (b2, .cells #[.int .i64 0, .int .i64 0] 148), (b1, .cells #[.int .i64 k, .int .i64 u] 177), (bm, .map es clk)]) (fun (j, s) => 0 ≤ j ∧ j ≤ ps.length ∧ s = (ps.take j.toNat).foldl (fun s i => common s (plotS t k u i)) (room0 (min 2000000000 (reachT t (u - t.frm))))) (fun (j, s) => (ps.length - j).toNat) ((0, room0 (min 2000000000 (reachT t (u - t.frm))))) (.cons rfl (.nil _)) (by repeat (first | exact List.Sublist.refl _ | apply List.Sublist.cons_cons | apply List.Sublist.cons)) (⟨by omega, by omega, rfl⟩) ?_
  rintro ⟨j, s⟩ hi
  obtain ⟨hj0, hj1, hs⟩ := hi
  refine Vs rfl ?_
  refine Lp rfl (p_lss rfl rfl rfl) ?_
  refine L_then (kp [0, 3, 4, 7, 9, 46, 47, 48, 49] rfl) ?_
  refine V_seq ?_
  refine V_cond rfl ?_ ?_
  ·intro c3; try simp only [td] at c3
   obtain ⟨sb, rfl, hsn, hcs⟩ := hse j.toNat _ (getD_cells (f := fun n : Int => [Value.int .i64 n]) (d := 0) (by omega))
   have hib := hP.bnd (ps.getD j.toNat 0) (getD_mem (by omega))
   have hii : (ps.getD j.toNat 0).toNat < t.plots.length := by omega
   obtain ⟨pb, rfl, hpn, hcp⟩ := hpe (ps.getD j.toNat 0).toNat _ (getD_cells (d := plZ) (by omega))
   have hsl := slack_bnd hG hii hu
   have hwd := width_bnd hG hii
   have hpt := part_bnd hG hii k
   have htk := (hG.plot hii).tick
   have hsl0 : slackT t u (ps.getD j.toNat 0).toNat = widthT t (ps.getD j.toNat 0).toNat + t.speed * apartI (t.pl (ps.getD j.toNat 0).toNat).tick u := rfl
   simp only [Task.pl] at hsl htk hsl0 hpt
   refine V_skip (then_n ?_)
   refine V_seq ?_
   refine V_block ?_
   refine Vs rfl ?_
   refine Lp rfl (p_idx es53 rfl rfl rfl (by omega) (by omega)) ?_
   refine Lr rfl (r_loadB ag3 rfl rfl hcs.zero (by simp only [Vc.add_block, List.mem_singleton]; assumption)) ?_
   refine La rfl rfl rfl ?_
   refine L_then (kp [0, 3, 4, 7, 9, 11, 46, 47, 48] rfl) ?_
   refine Vs rfl ?_
   refine Lm rfl rfl rfl ?_
   refine Ln rfl rfl rfl ?_
   refine Lp rfl (p_fieldo fo172_0 rfl rfl) ?_
   refine Lp rfl (p_fieldo fo39_4 rfl rfl) ?_
   refine Lr rfl (r_loadB ag37 rfl rfl (own_cell hbp _) (by simp only [Vc.add_block, List.mem_singleton]; assumption)) ?_
   refine Lm rfl rfl rfl ?_
   refine Lp rfl (p_idx es37 rfl rfl rfl (by omega) (by omega)) ?_
   refine Lr rfl (r_loadBA ag138 sz138 rfl rfl hcp rfl (by simp only [Vc.add_block, List.mem_singleton]; assumption)) ?_
   refine Lw rfl (w_alloc zr138 rfl) ?_
   rintro _ _ ⟨b5, hb5, rfl, rfl⟩
   refine Ls (cs' := [_, _, _, _, _]) rfl sz138 rfl rfl rfl rfl rfl rfl rfl ?_
   refine L_then (kp [0, 3, 4, 7, 9, 11, 12, 46, 47, 48] rfl) ?_
   refine V_seq (V_draw (.rd 0 (.rd 1 (.rd 3 (.rd 4 (.rd 5 (.rd 6 (.rd 7 (.rd 8 (.rd 9 (.rd 10 (.rd 11 (.wr 2 [11, 10, 9, 8, 7, 6, 5, 4, 3] (.wr 12 [10, 8, 7, 6, 5, 4, 3, 1, 0] (.rd 13 (.rd 14 (.rd 15 .done)))))))))))))))) mixed (by kernel_rfl) rfl ?_)
   iterate 3 refine Dm rfl rfl rfl rfl ?_
   refine Dp rfl rfl (p_nil rfl rfl) ?_
   refine Dp rfl rfl (p_fieldo fo172_0 rfl rfl) ?_
   refine Dp rfl rfl (p_fieldo fo39_1 rfl rfl) ?_
   refine Dr rfl rfl (r_loadB ag3 rfl rfl (own_cell hbp _) (by simp only [Vc.add_block, List.mem_singleton]; assumption)) ?_
   refine Dp rfl rfl (p_fieldo fo138_1 rfl rfl) ?_
   refine Dr rfl rfl (rl ag3 rfl rfl rfl) ?_
   refine Dp rfl rfl (p_fieldo fo177_1 rfl rfl) ?_
   refine Dr rfl rfl (rl ag3 rfl rfl rfl) ?_
   refine D_wr (.go (E' := [(11, _), (9, _), (7, _)]) rfl (.plain rfl) (w_callP rfl rfl rfl (fun w hg => width_c bp bm _ t ps w (hP.good' hg) _ hib.1 hib.2)) rfl ?_)
   rintro _ _ ⟨rfl, rfl⟩
   refine ⟨(.cons rfl (.plain rfl) (rl ag3 rfl rfl rfl) (.cons rfl (.plain rfl) (rl ag3 rfl rfl rfl) (.cons rfl (.plain rfl) (r_loadB ag3 rfl rfl (own_cell hbp _) (by simp only [Vc.add_block, List.mem_singleton]; assumption)) .nil))), ?_⟩
   refine D_wr (.go (E' := [(7, _)]) rfl (.plain rfl) (w_callP rfl rfl rfl (fun w hg => apart_c _ _ (by omega) (by omega) w)) rfl ?_)
   rintro _ _ ⟨rfl, rfl⟩
   refine ⟨(.cons rfl (.plain rfl) (r_loadB ag3 rfl rfl (own_cell hbp _) (by simp only [Vc.add_block, List.mem_singleton]; assumption)) .nil), ?_⟩
   first | refine Dp rfl rfl (p_mul' rfl rfl rfl (by unfold InI; omega)) ?_ | refine Dp rfl rfl (p_mul rfl rfl rfl) ?_
   first | refine Dp rfl rfl (p_add' rfl rfl rfl (by unfold InI; omega)) ?_ | refine Dp rfl rfl (p_add rfl rfl rfl) ?_
   refine Dp rfl rfl (p_assign rfl rfl) ?_
   refine D_then (kp [0, 3, 4, 7, 9, 12, 13, 46, 47, 48] rfl) ?_
   refine V_draw (.rd 0 (.rd 1 (.rd 3 (.rd 5 (.rd 6 (.rd 8 (.wr 2 [8, 6, 5, 3] (.rd 4 (.wr 7 [8, 4, 3, 1, 0] (.rd 9 (.wr 10 [8, 6, 5, 3, 1, 0] .done))))))))))) mixed (by kernel_rfl) rfl ?_
   refine Dm rfl rfl rfl rfl ?_
   refine Dr rfl rfl (rlA (vs := [_, _, _, _, _]) ag138 sz138 rfl rfl rfl) ?_
   iterate 2 refine Dm rfl rfl rfl rfl ?_
   refine Dr rfl rfl (rlA (vs := [_, _, _, _, _]) ag138 sz138 rfl rfl rfl) ?_
   refine Dm rfl rfl rfl rfl ?_
   refine D_wr (.go (E' := [(6, _)]) rfl (.plain rfl) (w_callP rfl rfl rfl (fun w hg => pf_c k (t.plots.getD (ps.getD j.toNat 0).toNat plZ) w)) rfl ?_)
   rintro _ _ ⟨rfl, rfl⟩
   refine ⟨(.cons rfl (.plain rfl) (rlA (vs := [_, _, _, _, _]) ag138 sz138 rfl rfl rfl) .nil), ?_⟩
   first | refine Dp rfl rfl (p_sub' rfl rfl rfl (by unfold InI; omega)) ?_ | refine Dp rfl rfl (p_sub rfl rfl rfl) ?_
   refine D_wr (.go (E' := []) rfl (.plain rfl) (w_callP rfl rfl rfl (fun w hg => pf_c k (t.plots.getD (ps.getD j.toNat 0).toNat plZ) w)) rfl ?_)
   rintro _ _ ⟨rfl, rfl⟩
   refine ⟨.nil, ?_⟩
   first | refine Dp rfl rfl (p_add' rfl rfl rfl (by unfold InI; omega)) ?_ | refine Dp rfl rfl (p_add rfl rfl rfl) ?_
   refine D_wr (.go (E' := []) rfl (.plain rfl) (w_callM rfl rfl rfl (fun o' => (by repeat first | exact .head | apply SetAt.tail)) (fun w hg => narrow_c b4 s.lo s.hi 148 _ _ w (hg.own (b4, _) (by repeat first | exact mH | apply mT)))) rfl ?_)
   rintro _ _ ⟨_, rfl, rfl, rfl⟩
   refine ⟨.nil, ?_⟩
   refine D_keep (kp [0, 3, 4, 7, 9, 46, 47, 48] rfl) (blk_n (then_n ?_))
   refine V_region rfl ?_
   first | refine Lp rfl (p_add' rfl rfl rfl (by unfold InI; omega)) ?_ | refine Lp rfl (p_add rfl rfl rfl) ?_
   refine Lm rfl rfl rfl ?_
   refine L_keep (kp [0, 3, 4, 7, 9, 46, 47, 48] rfl) (then_n ?_)
   refine ⟨(j + 1, common s (plotS t k u (ps.getD j.toNat 0))), ?_, ?_, (.cons rfl (.cons rfl (.cons rfl (.cons rfl (.cons rfl (.cons rfl (.cons rfl (.cons rfl (.nil _))))))))), (by repeat (first | exact List.Sublist.refl _ | apply List.Sublist.cons_cons | apply List.Sublist.cons | apply List.sublist_append_of_sublist_right)), rfl⟩
   ·refine ⟨by omega, by omega, ?_⟩
    rw [show (j + 1).toNat = j.toNat + 1 by omega, take_snoc (d := 0) (by omega), List.foldl_append, ← hs]; rfl
   dsimp only; omega
  intro c3; try simp only [td] at c3
  have hsN : s = placeN t ps k u := by rw [hs, List.take_of_length_le (by omega)]; rfl
  refine V_exit (then_e (then_e (blk_e rfl (then_n ?_))))
  refine V_seq (V_draw (.rd 0 (.rd 1 (.rd 2 (.rd 3 (.rd 4 (.rd 5 (.wr 6 [] .done))))))) mixed (by kernel_rfl) rfl ?_)
  refine Dm rfl rfl rfl rfl ?_
  refine Dp rfl rfl (p_nil rfl rfl) ?_
  refine Dp rfl rfl (p_fieldo fo172_2 rfl rfl) ?_
  refine Dr rfl rfl (r_loadB ag170 rfl rfl (own_cell hbp _) (by simp only [Vc.add_block, List.mem_singleton]; assumption)) ?_
  refine Dr rfl rfl (rlA (vs := [_, _]) ag177 sz177 rfl rfl rfl) ?_
  refine Dr rfl rfl (rlA (vs := [_, _]) ag148 sz148 rfl rfl rfl) ?_
  refine D_wr (.go (E' := []) rfl (.plain rfl) (w_mapNew un170 lv177 ag177 rfl rfl rfl (k := [_, _]) rfl rfl (fun o' => (by repeat first | exact .head | apply SetAt.tail)) his (cache_fit hca) (hs4 c1)) rfl ?_)
  rintro _ _ ⟨es1, clk1, rfl, his1⟩
  refine ⟨.nil, ?_⟩
  refine D_then (kp [4, 7] rfl) ?_
  refine Vs rfl ?_
  refine Lr rfl (rlA (vs := [_, _]) ag148 sz148 rfl rfl rfl) ?_
  refine Ls (cs' := [_, _]) rfl sz148 rfl rfl rfl rfl rfl rfl rfl ?_
  refine L_then (kp [4] rfl) ?_
  refine V_ret ?_
  refine Leave.nil (.cellA (us := [_, _]) rfl ag148 sz148 (by repeat first | exact mH | apply mT) rfl .nil) ?_
  have e : placeT t ps k u = s := by rw [placeT, if_pos (by omega), hsN]
  exact ⟨_, (by repeat first | exact mH | apply mT), by rw [e]; rfl, _, _, rfl, Cache.add hca his1 (by rw [e])⟩
 intro c2; try simp only [td] at c2
 refine V_skip (then_n ?_)
 refine V_seq (V_draw (.rd 0 (.rd 1 (.rd 2 (.rd 3 (.rd 4 (.rd 5 (.wr 6 [] .done))))))) mixed (by kernel_rfl) rfl ?_)
 refine Dm rfl rfl rfl rfl ?_
 refine Dp rfl rfl (p_nil rfl rfl) ?_
 refine Dp rfl rfl (p_fieldo fo172_2 rfl rfl) ?_
 refine Dr rfl rfl (r_loadB ag170 rfl rfl (own_cell hbp _) (by simp only [Vc.add_block, List.mem_singleton]; assumption)) ?_
 refine Dr rfl rfl (rlA (vs := [_, _]) ag177 sz177 rfl rfl rfl) ?_
 refine Dr rfl rfl (rlA (vs := [_, _]) ag148 sz148 rfl rfl rfl) ?_
 refine D_wr (.go (E' := []) rfl (.plain rfl) (w_mapNew un170 lv177 ag177 rfl rfl rfl (k := [_, _]) rfl rfl (fun o' => (by repeat first | exact .head | apply SetAt.tail)) his (cache_fit hca) (hs4 c1)) rfl ?_)
 rintro _ _ ⟨es1, clk1, rfl, his1⟩
 refine ⟨.nil, ?_⟩
 refine D_then (kp [4, 7] rfl) ?_
 refine Vs rfl ?_
 refine Lr rfl (rlA (vs := [_, _]) ag148 sz148 rfl rfl rfl) ?_
 refine Ls (cs' := [_, _]) rfl sz148 rfl rfl rfl rfl rfl rfl rfl ?_
 refine L_then (kp [4] rfl) ?_
 refine V_ret ?_
 refine Leave.nil (.cellA (us := [_, _]) rfl ag148 sz148 (by repeat first | exact mH | apply mT) rfl .nil) ?_
 have e : placeT t ps k u = ⟨0, 0⟩ := by rw [placeT, if_neg (by omega)]
 exact ⟨_, (by repeat first | exact mH | apply mT), by rw [e]; rfl, _, _, rfl, Cache.add hca his1 (by rw [e])⟩

end Go.Proofs.YtlcccpeelombbaaGreatDoor

/- YtlcccpeelombbaaGreatDoor: the walk of fast. -/
set_option linter.all false
namespace Go.Proofs.YtlcccpeelombbaaGreatDoor
open Go.Vc Go.Tk
set_option maxRecDepth 100000
set_option maxHeartbeats 4000000 in
theorem fast_c (bp bm : Nat) (es : Array MapEntry) (clk : Nat) (t : Task) (ps : List Int) (k u : Int) (hk : k = 0 ∨ k = 1 ∨ k = 2) (hu : 0 ≤ u ∧ u ≤ 100000) (w : World) (hp : PickR w bp bm (.map (some bm)) t ps) (hc : Cache t ps es) (hb : w.heap[bm]? = some (.map es clk)) : FnC Tryz.prog 124 [.pointer (some ⟨bp, 0, none⟩), .agg #[.int .i64 k, .int .i64 u]] w fun v w' => ∃ o', Vc.Good w [bm] [(bm, o')] w' ∧ (FastV (fastT t ps k u) v ∧ ∃ es' clk', o' = .map es' clk' ∧ Cache t ps es') := by
 have hP := hp
 obtain ⟨tv, pv, sv, ty, fr, hbp, htr, hpl, hsv⟩ := hp.ex
 obtain ⟨ta, tc, rfl, htc, hte⟩ := htr.ex
 obtain ⟨pa, pc, rfl, hpc, hpe⟩ := hpl.ex
 obtain ⟨sa, sc, rfl, hsc, hse⟩ := hsv.ex
 have hG := hP.good
 obtain ⟨hfrm, hspd, hacc⟩ := hG.nums
 have hne := hP.ne
 have hpsl := hP.psl
 simp only [List.length_map] at hbp htc hpc hsc
 refine fn_mod (b := bm) Tryz.func124 rfl (by kernel_rfl) Tryz.ntmps124 Tryz.results124 rfl hb ?_
 refine Vs rfl ?_
 refine Lw rfl (w_box rfl rfl) ?_
 rintro _ _ ⟨b1, hb1, rfl, rfl⟩
 refine Lw rfl (w_alloc zr148 rfl) ?_
 rintro _ _ ⟨b2, hb2, rfl, rfl⟩
 refine La rfl rfl rfl ?_
 refine L_then (kp [0, 3, 4] rfl) ?_
 refine V_seq ?_
 refine V_seq (V_draw (.rd 0 (.rd 1 (.rd 2 (.rd 3 (.rd 4 (.rd 5 (.rd 6 (.rd 7 .done)))))))) mixed (by kernel_rfl) rfl ?_)
 refine Dp rfl rfl (p_fieldo fo177_1 rfl rfl) ?_
 refine Dr rfl rfl (rl ag3 rfl rfl rfl) ?_
 refine Dm rfl rfl rfl rfl ?_
 refine Dp rfl rfl (p_nil rfl rfl) ?_
 refine Dp rfl rfl (p_fieldo fo172_0 rfl rfl) ?_
 refine Dp rfl rfl (p_fieldo fo39_0 rfl rfl) ?_
 refine Dr rfl rfl (r_loadB ag3 rfl rfl (own_cell hbp _) (by simp only [Vc.add_block, List.mem_singleton]; assumption)) ?_
 refine Dp rfl rfl (p_lss rfl rfl rfl) ?_
 refine D_then (kp [0, 3, 4, 20] rfl) ?_
 refine V_cond rfl ?_ ?_
 ·intro c1; try simp only [td] at c1
  refine Vs rfl ?_
  refine Lp rfl (p_build (r := [_, _]) pl148 zr148 rfl rfl rfl) ?_
  refine Ls (cs' := [_, _]) rfl sz148 rfl rfl rfl rfl rfl rfl rfl ?_
  refine La rfl rfl rfl ?_
  refine L_then (kp [4, 5] rfl) ?_
  refine V_ret (then_r ?_)
  refine Leave.nil (.cellA (us := [_, _]) rfl ag148 sz148 (by repeat first | exact mH | apply mT) rfl (.tmp rfl .nil)) ?_
  exact ⟨_, (by repeat first | exact mH | apply mT), ⟨0, 0, true, rfl, .inl ⟨rfl, by rw [fastT, if_pos (by omega)]⟩⟩, _, _, rfl, hc⟩
 intro c1; try simp only [td] at c1
 have hm0 := mul_bnd (show 0 ≤ t.accel ∧ t.accel ≤ 1000000 by omega) (show 0 ≤ u - t.frm + 1 ∧ u - t.frm + 1 ≤ 100001 by omega)
 refine V_skip (then_n ?_)
 refine V_mid (γ := Nat × Nat × Array MapEntry × Nat) (kp [0, 3, 4] rfl) (fun (x6, x7, es1, clk1) => [(6, .pointer (some ⟨x6, 0, none⟩)), (7, .pointer (some ⟨x7, 0, none⟩))]) (fun (x6, x7, es1, clk1) => [(x6, .cells #[.int .i64 (-(min t.speed (t.accel * (u - t.frm + 1)))), .int .i64 (min t.speed (t.accel * (u - t.frm + 1)))] 148), (x7, .cells #[.int .i64 (placeT t ps k u).lo, .int .i64 (placeT t ps k u).hi] 148), (b2, .cells #[.int .i64 0, .int .i64 0] 148), (b1, .cells #[.int .i64 k, .int .i64 u] 177), (bm, .map es1 clk1)]) (fun (x6, x7, es1, clk1) => Cache t ps es1) ?_ ?_
 ·refine V_draw (.rd 0 (.rd 1 (.rd 2 (.rd 3 (.rd 4 (.rd 5 (.rd 6 (.rd 7 (.rd 8 (.rd 9 (.rd 10 (.rd 11 (.rd 12 (.rd 13 (.rd 14 (.rd 15 (.rd 16 (.rd 17 (.rd 18 (.rd 19 (.rd 20 (.rd 22 (.rd 23 (.wr3 21 [23, 22, 19, 18, 17, 16, 15, 14, 13, 12, 11, 10, 9, 8, 7, 6, 5, 4, 3, 2, 1, 0] (.wr3 24 [20, 19, 18, 17, 16, 15, 14, 13, 12, 11, 10, 9, 8, 7, 6, 5, 4, 3, 2, 1, 0] (.wr2 25 [23, 22, 20, 19, 18, 17, 16, 15, 14, 13, 12, 11, 10, 9, 8, 7, 6, 5, 4, 3, 2, 1, 0] (.wr 26 [23, 22, 20, 19, 18, 17, 16, 15, 14, 13, 12, 11, 10, 9, 8, 7, 6, 5, 4, 3, 2, 1, 0] (.wr 27 [23, 22] (.wr 28 [] .done))) 26 [23, 22, 20, 19, 18, 17, 16, 15, 14, 13, 12, 11, 10, 9, 8, 7, 6, 5, 4, 3, 2, 1, 0] (.wr 25 [23, 22, 20, 19, 18, 17, 16, 15, 14, 13, 12, 11, 10, 9, 8, 7, 6, 5, 4, 3, 2, 1, 0] (.wr 27 [23, 22] (.wr 28 [] .done)))) 25 [23, 22, 20, 19, 18, 17, 16, 15, 14, 13, 12, 11, 10, 9, 8, 7, 6, 5, 4, 3, 2, 1, 0] (.wr2 24 [20, 19, 18, 17, 16, 15, 14, 13, 12, 11, 10, 9, 8, 7, 6, 5, 4, 3, 2, 1, 0] (.wr 26 [23, 22, 20, 19, 18, 17, 16, 15, 14, 13, 12, 11, 10, 9, 8, 7, 6, 5, 4, 3, 2, 1, 0] (.wr 27 [23, 22] (.wr 28 [] .done))) 26 [23, 22, 20, 19, 18, 17, 16, 15, 14, 13, 12, 11, 10, 9, 8, 7, 6, 5, 4, 3, 2, 1, 0] (.wr 24 [20, 19, 18, 17, 16, 15, 14, 13, 12, 11, 10, 9, 8, 7, 6, 5, 4, 3, 2, 1, 0] (.wr 27 [23, 22] (.wr 28 [] .done)))) 26 [23, 22, 20, 19, 18, 17, 16, 15, 14, 13, 12, 11, 10, 9, 8, 7, 6, 5, 4, 3, 2, 1, 0] (.wr2 24 [20, 19, 18, 17, 16, 15, 14, 13, 12, 11, 10, 9, 8, 7, 6, 5, 4, 3, 2, 1, 0] (.wr 25 [23, 22, 20, 19, 18, 17, 16, 15, 14, 13, 12, 11, 10, 9, 8, 7, 6, 5, 4, 3, 2, 1, 0] (.wr 27 [23, 22] (.wr 28 [] .done))) 25 [23, 22, 20, 19, 18, 17, 16, 15, 14, 13, 12, 11, 10, 9, 8, 7, 6, 5, 4, 3, 2, 1, 0] (.wr 24 [20, 19, 18, 17, 16, 15, 14, 13, 12, 11, 10, 9, 8, 7, 6, 5, 4, 3, 2, 1, 0] (.wr 27 [23, 22] (.wr 28 [] .done))))) 25 [23, 22, 20, 19, 18, 17, 16, 15, 14, 13, 12, 11, 10, 9, 8, 7, 6, 5, 4, 3, 2, 1, 0] (.wr2 21 [23, 22, 19, 18, 17, 16, 15, 14, 13, 12, 11, 10, 9, 8, 7, 6, 5, 4, 3, 2, 1, 0] (.wr2 24 [20, 19, 18, 17, 16, 15, 14, 13, 12, 11, 10, 9, 8, 7, 6, 5, 4, 3, 2, 1, 0] (.wr 26 [23, 22, 20, 19, 18, 17, 16, 15, 14, 13, 12, 11, 10, 9, 8, 7, 6, 5, 4, 3, 2, 1, 0] (.wr 27 [23, 22] (.wr 28 [] .done))) 26 [23, 22, 20, 19, 18, 17, 16, 15, 14, 13, 12, 11, 10, 9, 8, 7, 6, 5, 4, 3, 2, 1, 0] (.wr 24 [20, 19, 18, 17, 16, 15, 14, 13, 12, 11, 10, 9, 8, 7, 6, 5, 4, 3, 2, 1, 0] (.wr 27 [23, 22] (.wr 28 [] .done)))) 26 [23, 22, 20, 19, 18, 17, 16, 15, 14, 13, 12, 11, 10, 9, 8, 7, 6, 5, 4, 3, 2, 1, 0] (.wr 21 [23, 22, 19, 18, 17, 16, 15, 14, 13, 12, 11, 10, 9, 8, 7, 6, 5, 4, 3, 2, 1, 0] (.wr 24 [20, 19, 18, 17, 16, 15, 14, 13, 12, 11, 10, 9, 8, 7, 6, 5, 4, 3, 2, 1, 0] (.wr 27 [23, 22] (.wr 28 [] .done))))) 26 [23, 22, 20, 19, 18, 17, 16, 15, 14, 13, 12, 11, 10, 9, 8, 7, 6, 5, 4, 3, 2, 1, 0] (.wr2 21 [23, 22, 19, 18, 17, 16, 15, 14, 13, 12, 11, 10, 9, 8, 7, 6, 5, 4, 3, 2, 1, 0] (.wr2 24 [20, 19, 18, 17, 16, 15, 14, 13, 12, 11, 10, 9, 8, 7, 6, 5, 4, 3, 2, 1, 0] (.wr 25 [23, 22, 20, 19, 18, 17, 16, 15, 14, 13, 12, 11, 10, 9, 8, 7, 6, 5, 4, 3, 2, 1, 0] (.wr 27 [23, 22] (.wr 28 [] .done))) 25 [23, 22, 20, 19, 18, 17, 16, 15, 14, 13, 12, 11, 10, 9, 8, 7, 6, 5, 4, 3, 2, 1, 0] (.wr 24 [20, 19, 18, 17, 16, 15, 14, 13, 12, 11, 10, 9, 8, 7, 6, 5, 4, 3, 2, 1, 0] (.wr 27 [23, 22] (.wr 28 [] .done)))) 25 [23, 22, 20, 19, 18, 17, 16, 15, 14, 13, 12, 11, 10, 9, 8, 7, 6, 5, 4, 3, 2, 1, 0] (.wr 21 [23, 22, 19, 18, 17, 16, 15, 14, 13, 12, 11, 10, 9, 8, 7, 6, 5, 4, 3, 2, 1, 0] (.wr 24 [20, 19, 18, 17, 16, 15, 14, 13, 12, 11, 10, 9, 8, 7, 6, 5, 4, 3, 2, 1, 0] (.wr 27 [23, 22] (.wr 28 [] .done))))))))))))))))))))))))))))) mixed (by kernel_rfl) rfl ?_
  refine Dm rfl rfl rfl rfl ?_
  refine Dp rfl rfl (p_nil rfl rfl) ?_
  refine Dp rfl rfl (p_fieldo fo172_0 rfl rfl) ?_
  refine Dp rfl rfl (p_fieldo fo39_1 rfl rfl) ?_
  refine Dr rfl rfl (r_loadB ag3 rfl rfl (own_cell hbp _) (by simp only [Vc.add_block, List.mem_singleton]; assumption)) ?_
  refine Dm rfl rfl rfl rfl ?_
  refine Dp rfl rfl (p_nil rfl rfl) ?_
  refine Dp rfl rfl (p_fieldo fo172_0 rfl rfl) ?_
  refine Dp rfl rfl (p_fieldo fo39_2 rfl rfl) ?_
  refine Dr rfl rfl (r_loadB ag3 rfl rfl (own_cell hbp _) (by simp only [Vc.add_block, List.mem_singleton]; assumption)) ?_
  refine Dp rfl rfl (p_fieldo fo177_1 rfl rfl) ?_
  refine Dr rfl rfl (rl ag3 rfl rfl rfl) ?_
  refine Dm rfl rfl rfl rfl ?_
  refine Dp rfl rfl (p_nil rfl rfl) ?_
  refine Dp rfl rfl (p_fieldo fo172_0 rfl rfl) ?_
  refine Dp rfl rfl (p_fieldo fo39_0 rfl rfl) ?_
  refine Dr rfl rfl (r_loadB ag3 rfl rfl (own_cell hbp _) (by simp only [Vc.add_block, List.mem_singleton]; assumption)) ?_
  first | refine Dp rfl rfl (p_sub' rfl rfl rfl (by unfold InI; omega)) ?_ | refine Dp rfl rfl (p_sub rfl rfl rfl) ?_
  first | refine Dp rfl rfl (p_add' rfl rfl rfl (by unfold InI; omega)) ?_ | refine Dp rfl rfl (p_add rfl rfl rfl) ?_
  first | refine Dp rfl rfl (p_mul' rfl rfl rfl (by unfold InI; omega)) ?_ | refine Dp rfl rfl (p_mul rfl rfl rfl) ?_
  refine Dp rfl rfl (p_min rfl rfl rfl) ?_
  refine Dm rfl rfl rfl rfl ?_
  refine Dr rfl rfl (rlA (vs := [_, _]) ag177 sz177 rfl rfl rfl) ?_
  refine D_wr3 rfl rfl rfl ?_ ?_ ?_
  ·refine (.go (E' := [(23, _), (16, _), (11, _), (9, _), (4, _)]) rfl (.plain rfl) (w_callP rfl rfl rfl (fun w hg => around_c _ (by omega) w)) rfl ?_)
   rintro _ _ ⟨rfl, rfl⟩
   refine ⟨(.cons rfl (.plain rfl) (rlA (vs := [_, _]) ag177 sz177 rfl rfl rfl) (.cons rfl (.plain rfl) (r_loadB ag3 rfl rfl (own_cell hbp _) (by simp only [Vc.add_block, List.mem_singleton]; assumption)) (.cons rfl (.plain rfl) (rl ag3 rfl rfl rfl) (.cons rfl (.plain rfl) (r_loadB ag3 rfl rfl (own_cell hbp _) (by simp only [Vc.add_block, List.mem_singleton]; assumption)) (.cons rfl (.plain rfl) (r_loadB ag3 rfl rfl (own_cell hbp _) (by simp only [Vc.add_block, List.mem_singleton]; assumption)) .nil))))), ?_⟩
   refine D_wr3 rfl rfl rfl ?_ ?_ ?_
   ·refine (.go (E' := [(16, _), (11, _), (9, _), (4, _)]) rfl (.plain rfl) (w_callM rfl rfl rfl (fun o' => (by repeat first | exact .head | apply SetAt.tail)) (fun w hg => place_c bp bm es clk t ps k u hk hu w (hP.good' hg) hc (hg.own (bm, _) (by repeat first | exact mH | apply mT)))) rfl ?_)
    rintro _ _ ⟨_, rfl, rfl, es1, clk1, rfl, hc1⟩
    refine ⟨(.cons rfl (.plain rfl) (r_loadB ag3 rfl rfl (own_cell hbp _) (by simp only [Vc.add_block, List.mem_singleton]; assumption)) (.cons rfl (.plain rfl) (rl ag3 rfl rfl rfl) (.cons rfl (.plain rfl) (r_loadB ag3 rfl rfl (own_cell hbp _) (by simp only [Vc.add_block, List.mem_singleton]; assumption)) (.cons rfl (.plain rfl) (r_loadB ag3 rfl rfl (own_cell hbp _) (by simp only [Vc.add_block, List.mem_singleton]; assumption)) .nil)))), ?_⟩
    refine D_wr2 rfl ?_ ?_
    ·refine (.go (E' := [(16, _), (11, _), (9, _), (4, _)]) rfl (.plain rfl) (w_alloc zr148 rfl) rfl ?_)
     rintro _ _ ⟨b3, hb3, rfl, rfl⟩
     refine ⟨(.cons rfl (.plain rfl) (r_loadB ag3 rfl rfl (own_cell hbp _) (by simp only [Vc.add_block, List.mem_singleton]; assumption)) (.cons rfl (.plain rfl) (rl ag3 rfl rfl rfl) (.cons rfl (.plain rfl) (r_loadB ag3 rfl rfl (own_cell hbp _) (by simp only [Vc.add_block, List.mem_singleton]; assumption)) (.cons rfl (.plain rfl) (r_loadB ag3 rfl rfl (own_cell hbp _) (by simp only [Vc.add_block, List.mem_singleton]; assumption)) .nil)))), ?_⟩
     refine D_wr (.go (E' := [(16, _), (11, _), (9, _), (4, _)]) rfl (.plain rfl) (w_alloc zr148 rfl) rfl ?_)
     rintro _ _ ⟨b4, hb4, rfl, rfl⟩
     refine ⟨(.cons rfl (.plain rfl) (r_loadB ag3 rfl rfl (own_cell hbp _) (by simp only [Vc.add_block, List.mem_singleton]; assumption)) (.cons rfl (.plain rfl) (rl ag3 rfl rfl rfl) (.cons rfl (.plain rfl) (r_loadB ag3 rfl rfl (own_cell hbp _) (by simp only [Vc.add_block, List.mem_singleton]; assumption)) (.cons rfl (.plain rfl) (r_loadB ag3 rfl rfl (own_cell hbp _) (by simp only [Vc.add_block, List.mem_singleton]; assumption)) .nil)))), ?_⟩
     refine D_wr (.go (E' := []) rfl (.plain rfl) (ws (cs' := [_, _]) sz148 rfl rfl rfl rfl rfl rfl rfl) rfl ?_)
     rintro _ _ ⟨rfl, rfl⟩
     refine ⟨.nil, ?_⟩
     refine D_wr (.go (E' := []) rfl (.plain rfl) (ws (cs' := [_, _]) sz148 rfl rfl rfl rfl rfl rfl rfl) rfl ?_)
     rintro _ _ ⟨rfl, rfl⟩
     refine ⟨.nil, ?_⟩
     refine D_then (kp [0, 3, 4, 6, 7] rfl) ?_
     refine ⟨(b3, b4, es1, clk1), hc1, (.cons rfl (.cons rfl (.cons rfl (.cons rfl (.cons rfl (.nil _)))))), (by (try dsimp only); repeat (first | exact HSub.nil _ | refine HSub.take (by repeat first | exact Take.head | apply Take.tail) ?_ | exact HSub.refl _ | refine HSub.drop ?_ | refine HSub.app ?_)), rfl⟩
    refine (.go (E' := [(16, _), (11, _), (9, _), (4, _)]) rfl (.plain rfl) (w_alloc zr148 rfl) rfl ?_)
    rintro _ _ ⟨b3, hb3, rfl, rfl⟩
    refine ⟨(.cons rfl (.plain rfl) (r_loadB ag3 rfl rfl (own_cell hbp _) (by simp only [Vc.add_block, List.mem_singleton]; assumption)) (.cons rfl (.plain rfl) (rl ag3 rfl rfl rfl) (.cons rfl (.plain rfl) (r_loadB ag3 rfl rfl (own_cell hbp _) (by simp only [Vc.add_block, List.mem_singleton]; assumption)) (.cons rfl (.plain rfl) (r_loadB ag3 rfl rfl (own_cell hbp _) (by simp only [Vc.add_block, List.mem_singleton]; assumption)) .nil)))), ?_⟩
    refine D_wr (.go (E' := [(16, _), (11, _), (9, _), (4, _)]) rfl (.plain rfl) (w_alloc zr148 rfl) rfl ?_)
    rintro _ _ ⟨b4, hb4, rfl, rfl⟩
    refine ⟨(.cons rfl (.plain rfl) (r_loadB ag3 rfl rfl (own_cell hbp _) (by simp only [Vc.add_block, List.mem_singleton]; assumption)) (.cons rfl (.plain rfl) (rl ag3 rfl rfl rfl) (.cons rfl (.plain rfl) (r_loadB ag3 rfl rfl (own_cell hbp _) (by simp only [Vc.add_block, List.mem_singleton]; assumption)) (.cons rfl (.plain rfl) (r_loadB ag3 rfl rfl (own_cell hbp _) (by simp only [Vc.add_block, List.mem_singleton]; assumption)) .nil)))), ?_⟩
    refine D_wr (.go (E' := []) rfl (.plain rfl) (ws (cs' := [_, _]) sz148 rfl rfl rfl rfl rfl rfl rfl) rfl ?_)
    rintro _ _ ⟨rfl, rfl⟩
    refine ⟨.nil, ?_⟩
    refine D_wr (.go (E' := []) rfl (.plain rfl) (ws (cs' := [_, _]) sz148 rfl rfl rfl rfl rfl rfl rfl) rfl ?_)
    rintro _ _ ⟨rfl, rfl⟩
    refine ⟨.nil, ?_⟩
    refine D_then (kp [0, 3, 4, 6, 7] rfl) ?_
    refine ⟨(b4, b3, es1, clk1), hc1, (.cons rfl (.cons rfl (.cons rfl (.cons rfl (.cons rfl (.nil _)))))), (by (try dsimp only); repeat (first | exact HSub.nil _ | refine HSub.take (by repeat first | exact Take.head | apply Take.tail) ?_ | exact HSub.refl _ | refine HSub.drop ?_ | refine HSub.app ?_)), rfl⟩
   ·refine (.go (E' := [(23, _), (16, _), (11, _), (9, _), (4, _)]) rfl (.plain rfl) (w_alloc zr148 rfl) rfl ?_)
    rintro _ _ ⟨b3, hb3, rfl, rfl⟩
    refine ⟨(.cons rfl (.plain rfl) (rlA (vs := [_, _]) ag177 sz177 rfl rfl rfl) (.cons rfl (.plain rfl) (r_loadB ag3 rfl rfl (own_cell hbp _) (by simp only [Vc.add_block, List.mem_singleton]; assumption)) (.cons rfl (.plain rfl) (rl ag3 rfl rfl rfl) (.cons rfl (.plain rfl) (r_loadB ag3 rfl rfl (own_cell hbp _) (by simp only [Vc.add_block, List.mem_singleton]; assumption)) (.cons rfl (.plain rfl) (r_loadB ag3 rfl rfl (own_cell hbp _) (by simp only [Vc.add_block, List.mem_singleton]; assumption)) .nil))))), ?_⟩
    refine D_wr2 rfl ?_ ?_
    ·refine (.go (E' := [(16, _), (11, _), (9, _), (4, _)]) rfl (.plain rfl) (w_callM rfl rfl rfl (fun o' => (by repeat first | exact .head | apply SetAt.tail)) (fun w hg => place_c bp bm es clk t ps k u hk hu w (hP.good' hg) hc (hg.own (bm, _) (by repeat first | exact mH | apply mT)))) rfl ?_)
     rintro _ _ ⟨_, rfl, rfl, es1, clk1, rfl, hc1⟩
     refine ⟨(.cons rfl (.plain rfl) (r_loadB ag3 rfl rfl (own_cell hbp _) (by simp only [Vc.add_block, List.mem_singleton]; assumption)) (.cons rfl (.plain rfl) (rl ag3 rfl rfl rfl) (.cons rfl (.plain rfl) (r_loadB ag3 rfl rfl (own_cell hbp _) (by simp only [Vc.add_block, List.mem_singleton]; assumption)) (.cons rfl (.plain rfl) (r_loadB ag3 rfl rfl (own_cell hbp _) (by simp only [Vc.add_block, List.mem_singleton]; assumption)) .nil)))), ?_⟩
     refine D_wr (.go (E' := [(16, _), (11, _), (9, _), (4, _)]) rfl (.plain rfl) (w_alloc zr148 rfl) rfl ?_)
     rintro _ _ ⟨b4, hb4, rfl, rfl⟩
     refine ⟨(.cons rfl (.plain rfl) (r_loadB ag3 rfl rfl (own_cell hbp _) (by simp only [Vc.add_block, List.mem_singleton]; assumption)) (.cons rfl (.plain rfl) (rl ag3 rfl rfl rfl) (.cons rfl (.plain rfl) (r_loadB ag3 rfl rfl (own_cell hbp _) (by simp only [Vc.add_block, List.mem_singleton]; assumption)) (.cons rfl (.plain rfl) (r_loadB ag3 rfl rfl (own_cell hbp _) (by simp only [Vc.add_block, List.mem_singleton]; assumption)) .nil)))), ?_⟩
     refine D_wr (.go (E' := []) rfl (.plain rfl) (ws (cs' := [_, _]) sz148 rfl rfl rfl rfl rfl rfl rfl) rfl ?_)
     rintro _ _ ⟨rfl, rfl⟩
     refine ⟨.nil, ?_⟩
     refine D_wr (.go (E' := []) rfl (.plain rfl) (ws (cs' := [_, _]) sz148 rfl rfl rfl rfl rfl rfl rfl) rfl ?_)
     rintro _ _ ⟨rfl, rfl⟩
     refine ⟨.nil, ?_⟩
     refine D_then (kp [0, 3, 4, 6, 7] rfl) ?_
     refine ⟨(b3, b4, es1, clk1), hc1, (.cons rfl (.cons rfl (.cons rfl (.cons rfl (.cons rfl (.nil _)))))), (by (try dsimp only); repeat (first | exact HSub.nil _ | refine HSub.take (by repeat first | exact Take.head | apply Take.tail) ?_ | exact HSub.refl _ | refine HSub.drop ?_ | refine HSub.app ?_)), rfl⟩
    refine (.go (E' := [(23, _), (16, _), (11, _), (9, _), (4, _)]) rfl (.plain rfl) (w_alloc zr148 rfl) rfl ?_)
    rintro _ _ ⟨b4, hb4, rfl, rfl⟩
    refine ⟨(.cons rfl (.plain rfl) (rlA (vs := [_, _]) ag177 sz177 rfl rfl rfl) (.cons rfl (.plain rfl) (r_loadB ag3 rfl rfl (own_cell hbp _) (by simp only [Vc.add_block, List.mem_singleton]; assumption)) (.cons rfl (.plain rfl) (rl ag3 rfl rfl rfl) (.cons rfl (.plain rfl) (r_loadB ag3 rfl rfl (own_cell hbp _) (by simp only [Vc.add_block, List.mem_singleton]; assumption)) (.cons rfl (.plain rfl) (r_loadB ag3 rfl rfl (own_cell hbp _) (by simp only [Vc.add_block, List.mem_singleton]; assumption)) .nil))))), ?_⟩
    refine D_wr (.go (E' := [(16, _), (11, _), (9, _), (4, _)]) rfl (.plain rfl) (w_callM rfl rfl rfl (fun o' => (by repeat first | exact .head | apply SetAt.tail)) (fun w hg => place_c bp bm es clk t ps k u hk hu w (hP.good' hg) hc (hg.own (bm, _) (by repeat first | exact mH | apply mT)))) rfl ?_)
    rintro _ _ ⟨_, rfl, rfl, es1, clk1, rfl, hc1⟩
    refine ⟨(.cons rfl (.plain rfl) (r_loadB ag3 rfl rfl (own_cell hbp _) (by simp only [Vc.add_block, List.mem_singleton]; assumption)) (.cons rfl (.plain rfl) (rl ag3 rfl rfl rfl) (.cons rfl (.plain rfl) (r_loadB ag3 rfl rfl (own_cell hbp _) (by simp only [Vc.add_block, List.mem_singleton]; assumption)) (.cons rfl (.plain rfl) (r_loadB ag3 rfl rfl (own_cell hbp _) (by simp only [Vc.add_block, List.mem_singleton]; assumption)) .nil)))), ?_⟩
    refine D_wr (.go (E' := []) rfl (.plain rfl) (ws (cs' := [_, _]) sz148 rfl rfl rfl rfl rfl rfl rfl) rfl ?_)
    rintro _ _ ⟨rfl, rfl⟩
    refine ⟨.nil, ?_⟩
    refine D_wr (.go (E' := []) rfl (.plain rfl) (ws (cs' := [_, _]) sz148 rfl rfl rfl rfl rfl rfl rfl) rfl ?_)
    rintro _ _ ⟨rfl, rfl⟩
    refine ⟨.nil, ?_⟩
    refine D_then (kp [0, 3, 4, 6, 7] rfl) ?_
    refine ⟨(b3, b4, es1, clk1), hc1, (.cons rfl (.cons rfl (.cons rfl (.cons rfl (.cons rfl (.nil _)))))), (by (try dsimp only); repeat (first | exact HSub.nil _ | refine HSub.take (by repeat first | exact Take.head | apply Take.tail) ?_ | exact HSub.refl _ | refine HSub.drop ?_ | refine HSub.app ?_)), rfl⟩
   refine (.go (E' := [(23, _), (16, _), (11, _), (9, _), (4, _)]) rfl (.plain rfl) (w_alloc zr148 rfl) rfl ?_)
   rintro _ _ ⟨b3, hb3, rfl, rfl⟩
   refine ⟨(.cons rfl (.plain rfl) (rlA (vs := [_, _]) ag177 sz177 rfl rfl rfl) (.cons rfl (.plain rfl) (r_loadB ag3 rfl rfl (own_cell hbp _) (by simp only [Vc.add_block, List.mem_singleton]; assumption)) (.cons rfl (.plain rfl) (rl ag3 rfl rfl rfl) (.cons rfl (.plain rfl) (r_loadB ag3 rfl rfl (own_cell hbp _) (by simp only [Vc.add_block, List.mem_singleton]; assumption)) (.cons rfl (.plain rfl) (r_loadB ag3 rfl rfl (own_cell hbp _) (by simp only [Vc.add_block, List.mem_singleton]; assumption)) .nil))))), ?_⟩
   refine D_wr2 rfl ?_ ?_
   ·refine (.go (E' := [(16, _), (11, _), (9, _), (4, _)]) rfl (.plain rfl) (w_callM rfl rfl rfl (fun o' => (by repeat first | exact .head | apply SetAt.tail)) (fun w hg => place_c bp bm es clk t ps k u hk hu w (hP.good' hg) hc (hg.own (bm, _) (by repeat first | exact mH | apply mT)))) rfl ?_)
    rintro _ _ ⟨_, rfl, rfl, es1, clk1, rfl, hc1⟩
    refine ⟨(.cons rfl (.plain rfl) (r_loadB ag3 rfl rfl (own_cell hbp _) (by simp only [Vc.add_block, List.mem_singleton]; assumption)) (.cons rfl (.plain rfl) (rl ag3 rfl rfl rfl) (.cons rfl (.plain rfl) (r_loadB ag3 rfl rfl (own_cell hbp _) (by simp only [Vc.add_block, List.mem_singleton]; assumption)) (.cons rfl (.plain rfl) (r_loadB ag3 rfl rfl (own_cell hbp _) (by simp only [Vc.add_block, List.mem_singleton]; assumption)) .nil)))), ?_⟩
    refine D_wr (.go (E' := [(16, _), (11, _), (9, _), (4, _)]) rfl (.plain rfl) (w_alloc zr148 rfl) rfl ?_)
    rintro _ _ ⟨b4, hb4, rfl, rfl⟩
    refine ⟨(.cons rfl (.plain rfl) (r_loadB ag3 rfl rfl (own_cell hbp _) (by simp only [Vc.add_block, List.mem_singleton]; assumption)) (.cons rfl (.plain rfl) (rl ag3 rfl rfl rfl) (.cons rfl (.plain rfl) (r_loadB ag3 rfl rfl (own_cell hbp _) (by simp only [Vc.add_block, List.mem_singleton]; assumption)) (.cons rfl (.plain rfl) (r_loadB ag3 rfl rfl (own_cell hbp _) (by simp only [Vc.add_block, List.mem_singleton]; assumption)) .nil)))), ?_⟩
    refine D_wr (.go (E' := []) rfl (.plain rfl) (ws (cs' := [_, _]) sz148 rfl rfl rfl rfl rfl rfl rfl) rfl ?_)
    rintro _ _ ⟨rfl, rfl⟩
    refine ⟨.nil, ?_⟩
    refine D_wr (.go (E' := []) rfl (.plain rfl) (ws (cs' := [_, _]) sz148 rfl rfl rfl rfl rfl rfl rfl) rfl ?_)
    rintro _ _ ⟨rfl, rfl⟩
    refine ⟨.nil, ?_⟩
    refine D_then (kp [0, 3, 4, 6, 7] rfl) ?_
    refine ⟨(b4, b3, es1, clk1), hc1, (.cons rfl (.cons rfl (.cons rfl (.cons rfl (.cons rfl (.nil _)))))), (by (try dsimp only); repeat (first | exact HSub.nil _ | refine HSub.take (by repeat first | exact Take.head | apply Take.tail) ?_ | exact HSub.refl _ | refine HSub.drop ?_ | refine HSub.app ?_)), rfl⟩
   refine (.go (E' := [(23, _), (16, _), (11, _), (9, _), (4, _)]) rfl (.plain rfl) (w_alloc zr148 rfl) rfl ?_)
   rintro _ _ ⟨b4, hb4, rfl, rfl⟩
   refine ⟨(.cons rfl (.plain rfl) (rlA (vs := [_, _]) ag177 sz177 rfl rfl rfl) (.cons rfl (.plain rfl) (r_loadB ag3 rfl rfl (own_cell hbp _) (by simp only [Vc.add_block, List.mem_singleton]; assumption)) (.cons rfl (.plain rfl) (rl ag3 rfl rfl rfl) (.cons rfl (.plain rfl) (r_loadB ag3 rfl rfl (own_cell hbp _) (by simp only [Vc.add_block, List.mem_singleton]; assumption)) (.cons rfl (.plain rfl) (r_loadB ag3 rfl rfl (own_cell hbp _) (by simp only [Vc.add_block, List.mem_singleton]; assumption)) .nil))))), ?_⟩
   refine D_wr (.go (E' := [(16, _), (11, _), (9, _), (4, _)]) rfl (.plain rfl) (w_callM rfl rfl rfl (fun o' => (by repeat first | exact .head | apply SetAt.tail)) (fun w hg => place_c bp bm es clk t ps k u hk hu w (hP.good' hg) hc (hg.own (bm, _) (by repeat first | exact mH | apply mT)))) rfl ?_)
   rintro _ _ ⟨_, rfl, rfl, es1, clk1, rfl, hc1⟩
   refine ⟨(.cons rfl (.plain rfl) (r_loadB ag3 rfl rfl (own_cell hbp _) (by simp only [Vc.add_block, List.mem_singleton]; assumption)) (.cons rfl (.plain rfl) (rl ag3 rfl rfl rfl) (.cons rfl (.plain rfl) (r_loadB ag3 rfl rfl (own_cell hbp _) (by simp only [Vc.add_block, List.mem_singleton]; assumption)) (.cons rfl (.plain rfl) (r_loadB ag3 rfl rfl (own_cell hbp _) (by simp only [Vc.add_block, List.mem_singleton]; assumption)) .nil)))), ?_⟩
   refine D_wr (.go (E' := []) rfl (.plain rfl) (ws (cs' := [_, _]) sz148 rfl rfl rfl rfl rfl rfl rfl) rfl ?_)
   rintro _ _ ⟨rfl, rfl⟩
   refine ⟨.nil, ?_⟩
   refine D_wr (.go (E' := []) rfl (.plain rfl) (ws (cs' := [_, _]) sz148 rfl rfl rfl rfl rfl rfl rfl) rfl ?_)
   rintro _ _ ⟨rfl, rfl⟩
   refine ⟨.nil, ?_⟩
   refine D_then (kp [0, 3, 4, 6, 7] rfl) ?_
   refine ⟨(b4, b3, es1, clk1), hc1, (.cons rfl (.cons rfl (.cons rfl (.cons rfl (.cons rfl (.nil _)))))), (by (try dsimp only); repeat (first | exact HSub.nil _ | refine HSub.take (by repeat first | exact Take.head | apply Take.tail) ?_ | exact HSub.refl _ | refine HSub.drop ?_ | refine HSub.app ?_)), rfl⟩
  ·refine (.go (E' := [(23, _), (16, _), (11, _), (9, _), (4, _)]) rfl (.plain rfl) (w_alloc zr148 rfl) rfl ?_)
   rintro _ _ ⟨b3, hb3, rfl, rfl⟩
   refine ⟨(.cons rfl (.plain rfl) (rlA (vs := [_, _]) ag177 sz177 rfl rfl rfl) (.cons rfl (.plain rfl) (r_loadB ag3 rfl rfl (own_cell hbp _) (by simp only [Vc.add_block, List.mem_singleton]; assumption)) (.cons rfl (.plain rfl) (rl ag3 rfl rfl rfl) (.cons rfl (.plain rfl) (r_loadB ag3 rfl rfl (own_cell hbp _) (by simp only [Vc.add_block, List.mem_singleton]; assumption)) (.cons rfl (.plain rfl) (r_loadB ag3 rfl rfl (own_cell hbp _) (by simp only [Vc.add_block, List.mem_singleton]; assumption)) .nil))))), ?_⟩
   refine D_wr2 rfl ?_ ?_
   ·refine (.go (E' := [(23, _), (16, _), (11, _), (9, _), (4, _)]) rfl (.plain rfl) (w_callP rfl rfl rfl (fun w hg => around_c _ (by omega) w)) rfl ?_)
    rintro _ _ ⟨rfl, rfl⟩
    refine ⟨(.cons rfl (.plain rfl) (rlA (vs := [_, _]) ag177 sz177 rfl rfl rfl) (.cons rfl (.plain rfl) (r_loadB ag3 rfl rfl (own_cell hbp _) (by simp only [Vc.add_block, List.mem_singleton]; assumption)) (.cons rfl (.plain rfl) (rl ag3 rfl rfl rfl) (.cons rfl (.plain rfl) (r_loadB ag3 rfl rfl (own_cell hbp _) (by simp only [Vc.add_block, List.mem_singleton]; assumption)) (.cons rfl (.plain rfl) (r_loadB ag3 rfl rfl (own_cell hbp _) (by simp only [Vc.add_block, List.mem_singleton]; assumption)) .nil))))), ?_⟩
    refine D_wr2 rfl ?_ ?_
    ·refine (.go (E' := [(16, _), (11, _), (9, _), (4, _)]) rfl (.plain rfl) (w_callM rfl rfl rfl (fun o' => (by repeat first | exact .head | apply SetAt.tail)) (fun w hg => place_c bp bm es clk t ps k u hk hu w (hP.good' hg) hc (hg.own (bm, _) (by repeat first | exact mH | apply mT)))) rfl ?_)
     rintro _ _ ⟨_, rfl, rfl, es1, clk1, rfl, hc1⟩
     refine ⟨(.cons rfl (.plain rfl) (r_loadB ag3 rfl rfl (own_cell hbp _) (by simp only [Vc.add_block, List.mem_singleton]; assumption)) (.cons rfl (.plain rfl) (rl ag3 rfl rfl rfl) (.cons rfl (.plain rfl) (r_loadB ag3 rfl rfl (own_cell hbp _) (by simp only [Vc.add_block, List.mem_singleton]; assumption)) (.cons rfl (.plain rfl) (r_loadB ag3 rfl rfl (own_cell hbp _) (by simp only [Vc.add_block, List.mem_singleton]; assumption)) .nil)))), ?_⟩
     refine D_wr (.go (E' := [(16, _), (11, _), (9, _), (4, _)]) rfl (.plain rfl) (w_alloc zr148 rfl) rfl ?_)
     rintro _ _ ⟨b4, hb4, rfl, rfl⟩
     refine ⟨(.cons rfl (.plain rfl) (r_loadB ag3 rfl rfl (own_cell hbp _) (by simp only [Vc.add_block, List.mem_singleton]; assumption)) (.cons rfl (.plain rfl) (rl ag3 rfl rfl rfl) (.cons rfl (.plain rfl) (r_loadB ag3 rfl rfl (own_cell hbp _) (by simp only [Vc.add_block, List.mem_singleton]; assumption)) (.cons rfl (.plain rfl) (r_loadB ag3 rfl rfl (own_cell hbp _) (by simp only [Vc.add_block, List.mem_singleton]; assumption)) .nil)))), ?_⟩
     refine D_wr (.go (E' := []) rfl (.plain rfl) (ws (cs' := [_, _]) sz148 rfl rfl rfl rfl rfl rfl rfl) rfl ?_)
     rintro _ _ ⟨rfl, rfl⟩
     refine ⟨.nil, ?_⟩
     refine D_wr (.go (E' := []) rfl (.plain rfl) (ws (cs' := [_, _]) sz148 rfl rfl rfl rfl rfl rfl rfl) rfl ?_)
     rintro _ _ ⟨rfl, rfl⟩
     refine ⟨.nil, ?_⟩
     refine D_then (kp [0, 3, 4, 6, 7] rfl) ?_
     refine ⟨(b3, b4, es1, clk1), hc1, (.cons rfl (.cons rfl (.cons rfl (.cons rfl (.cons rfl (.nil _)))))), (by (try dsimp only); repeat (first | exact HSub.nil _ | refine HSub.take (by repeat first | exact Take.head | apply Take.tail) ?_ | exact HSub.refl _ | refine HSub.drop ?_ | refine HSub.app ?_)), rfl⟩
    refine (.go (E' := [(23, _), (16, _), (11, _), (9, _), (4, _)]) rfl (.plain rfl) (w_alloc zr148 rfl) rfl ?_)
    rintro _ _ ⟨b4, hb4, rfl, rfl⟩
    refine ⟨(.cons rfl (.plain rfl) (rlA (vs := [_, _]) ag177 sz177 rfl rfl rfl) (.cons rfl (.plain rfl) (r_loadB ag3 rfl rfl (own_cell hbp _) (by simp only [Vc.add_block, List.mem_singleton]; assumption)) (.cons rfl (.plain rfl) (rl ag3 rfl rfl rfl) (.cons rfl (.plain rfl) (r_loadB ag3 rfl rfl (own_cell hbp _) (by simp only [Vc.add_block, List.mem_singleton]; assumption)) (.cons rfl (.plain rfl) (r_loadB ag3 rfl rfl (own_cell hbp _) (by simp only [Vc.add_block, List.mem_singleton]; assumption)) .nil))))), ?_⟩
    refine D_wr (.go (E' := [(16, _), (11, _), (9, _), (4, _)]) rfl (.plain rfl) (w_callM rfl rfl rfl (fun o' => (by repeat first | exact .head | apply SetAt.tail)) (fun w hg => place_c bp bm es clk t ps k u hk hu w (hP.good' hg) hc (hg.own (bm, _) (by repeat first | exact mH | apply mT)))) rfl ?_)
    rintro _ _ ⟨_, rfl, rfl, es1, clk1, rfl, hc1⟩
    refine ⟨(.cons rfl (.plain rfl) (r_loadB ag3 rfl rfl (own_cell hbp _) (by simp only [Vc.add_block, List.mem_singleton]; assumption)) (.cons rfl (.plain rfl) (rl ag3 rfl rfl rfl) (.cons rfl (.plain rfl) (r_loadB ag3 rfl rfl (own_cell hbp _) (by simp only [Vc.add_block, List.mem_singleton]; assumption)) (.cons rfl (.plain rfl) (r_loadB ag3 rfl rfl (own_cell hbp _) (by simp only [Vc.add_block, List.mem_singleton]; assumption)) .nil)))), ?_⟩
    refine D_wr (.go (E' := []) rfl (.plain rfl) (ws (cs' := [_, _]) sz148 rfl rfl rfl rfl rfl rfl rfl) rfl ?_)
    rintro _ _ ⟨rfl, rfl⟩
    refine ⟨.nil, ?_⟩
    refine D_wr (.go (E' := []) rfl (.plain rfl) (ws (cs' := [_, _]) sz148 rfl rfl rfl rfl rfl rfl rfl) rfl ?_)
    rintro _ _ ⟨rfl, rfl⟩
    refine ⟨.nil, ?_⟩
    refine D_then (kp [0, 3, 4, 6, 7] rfl) ?_
    refine ⟨(b3, b4, es1, clk1), hc1, (.cons rfl (.cons rfl (.cons rfl (.cons rfl (.cons rfl (.nil _)))))), (by (try dsimp only); repeat (first | exact HSub.nil _ | refine HSub.take (by repeat first | exact Take.head | apply Take.tail) ?_ | exact HSub.refl _ | refine HSub.drop ?_ | refine HSub.app ?_)), rfl⟩
   refine (.go (E' := [(23, _), (16, _), (11, _), (9, _), (4, _)]) rfl (.plain rfl) (w_alloc zr148 rfl) rfl ?_)
   rintro _ _ ⟨b4, hb4, rfl, rfl⟩
   refine ⟨(.cons rfl (.plain rfl) (rlA (vs := [_, _]) ag177 sz177 rfl rfl rfl) (.cons rfl (.plain rfl) (r_loadB ag3 rfl rfl (own_cell hbp _) (by simp only [Vc.add_block, List.mem_singleton]; assumption)) (.cons rfl (.plain rfl) (rl ag3 rfl rfl rfl) (.cons rfl (.plain rfl) (r_loadB ag3 rfl rfl (own_cell hbp _) (by simp only [Vc.add_block, List.mem_singleton]; assumption)) (.cons rfl (.plain rfl) (r_loadB ag3 rfl rfl (own_cell hbp _) (by simp only [Vc.add_block, List.mem_singleton]; assumption)) .nil))))), ?_⟩
   refine D_wr (.go (E' := [(23, _), (16, _), (11, _), (9, _), (4, _)]) rfl (.plain rfl) (w_callP rfl rfl rfl (fun w hg => around_c _ (by omega) w)) rfl ?_)
   rintro _ _ ⟨rfl, rfl⟩
   refine ⟨(.cons rfl (.plain rfl) (rlA (vs := [_, _]) ag177 sz177 rfl rfl rfl) (.cons rfl (.plain rfl) (r_loadB ag3 rfl rfl (own_cell hbp _) (by simp only [Vc.add_block, List.mem_singleton]; assumption)) (.cons rfl (.plain rfl) (rl ag3 rfl rfl rfl) (.cons rfl (.plain rfl) (r_loadB ag3 rfl rfl (own_cell hbp _) (by simp only [Vc.add_block, List.mem_singleton]; assumption)) (.cons rfl (.plain rfl) (r_loadB ag3 rfl rfl (own_cell hbp _) (by simp only [Vc.add_block, List.mem_singleton]; assumption)) .nil))))), ?_⟩
   refine D_wr (.go (E' := [(16, _), (11, _), (9, _), (4, _)]) rfl (.plain rfl) (w_callM rfl rfl rfl (fun o' => (by repeat first | exact .head | apply SetAt.tail)) (fun w hg => place_c bp bm es clk t ps k u hk hu w (hP.good' hg) hc (hg.own (bm, _) (by repeat first | exact mH | apply mT)))) rfl ?_)
   rintro _ _ ⟨_, rfl, rfl, es1, clk1, rfl, hc1⟩
   refine ⟨(.cons rfl (.plain rfl) (r_loadB ag3 rfl rfl (own_cell hbp _) (by simp only [Vc.add_block, List.mem_singleton]; assumption)) (.cons rfl (.plain rfl) (rl ag3 rfl rfl rfl) (.cons rfl (.plain rfl) (r_loadB ag3 rfl rfl (own_cell hbp _) (by simp only [Vc.add_block, List.mem_singleton]; assumption)) (.cons rfl (.plain rfl) (r_loadB ag3 rfl rfl (own_cell hbp _) (by simp only [Vc.add_block, List.mem_singleton]; assumption)) .nil)))), ?_⟩
   refine D_wr (.go (E' := []) rfl (.plain rfl) (ws (cs' := [_, _]) sz148 rfl rfl rfl rfl rfl rfl rfl) rfl ?_)
   rintro _ _ ⟨rfl, rfl⟩
   refine ⟨.nil, ?_⟩
   refine D_wr (.go (E' := []) rfl (.plain rfl) (ws (cs' := [_, _]) sz148 rfl rfl rfl rfl rfl rfl rfl) rfl ?_)
   rintro _ _ ⟨rfl, rfl⟩
   refine ⟨.nil, ?_⟩
   refine D_then (kp [0, 3, 4, 6, 7] rfl) ?_
   refine ⟨(b3, b4, es1, clk1), hc1, (.cons rfl (.cons rfl (.cons rfl (.cons rfl (.cons rfl (.nil _)))))), (by (try dsimp only); repeat (first | exact HSub.nil _ | refine HSub.take (by repeat first | exact Take.head | apply Take.tail) ?_ | exact HSub.refl _ | refine HSub.drop ?_ | refine HSub.app ?_)), rfl⟩
  refine (.go (E' := [(23, _), (16, _), (11, _), (9, _), (4, _)]) rfl (.plain rfl) (w_alloc zr148 rfl) rfl ?_)
  rintro _ _ ⟨b3, hb3, rfl, rfl⟩
  refine ⟨(.cons rfl (.plain rfl) (rlA (vs := [_, _]) ag177 sz177 rfl rfl rfl) (.cons rfl (.plain rfl) (r_loadB ag3 rfl rfl (own_cell hbp _) (by simp only [Vc.add_block, List.mem_singleton]; assumption)) (.cons rfl (.plain rfl) (rl ag3 rfl rfl rfl) (.cons rfl (.plain rfl) (r_loadB ag3 rfl rfl (own_cell hbp _) (by simp only [Vc.add_block, List.mem_singleton]; assumption)) (.cons rfl (.plain rfl) (r_loadB ag3 rfl rfl (own_cell hbp _) (by simp only [Vc.add_block, List.mem_singleton]; assumption)) .nil))))), ?_⟩
  refine D_wr2 rfl ?_ ?_
  ·refine (.go (E' := [(23, _), (16, _), (11, _), (9, _), (4, _)]) rfl (.plain rfl) (w_callP rfl rfl rfl (fun w hg => around_c _ (by omega) w)) rfl ?_)
   rintro _ _ ⟨rfl, rfl⟩
   refine ⟨(.cons rfl (.plain rfl) (rlA (vs := [_, _]) ag177 sz177 rfl rfl rfl) (.cons rfl (.plain rfl) (r_loadB ag3 rfl rfl (own_cell hbp _) (by simp only [Vc.add_block, List.mem_singleton]; assumption)) (.cons rfl (.plain rfl) (rl ag3 rfl rfl rfl) (.cons rfl (.plain rfl) (r_loadB ag3 rfl rfl (own_cell hbp _) (by simp only [Vc.add_block, List.mem_singleton]; assumption)) (.cons rfl (.plain rfl) (r_loadB ag3 rfl rfl (own_cell hbp _) (by simp only [Vc.add_block, List.mem_singleton]; assumption)) .nil))))), ?_⟩
   refine D_wr2 rfl ?_ ?_
   ·refine (.go (E' := [(16, _), (11, _), (9, _), (4, _)]) rfl (.plain rfl) (w_callM rfl rfl rfl (fun o' => (by repeat first | exact .head | apply SetAt.tail)) (fun w hg => place_c bp bm es clk t ps k u hk hu w (hP.good' hg) hc (hg.own (bm, _) (by repeat first | exact mH | apply mT)))) rfl ?_)
    rintro _ _ ⟨_, rfl, rfl, es1, clk1, rfl, hc1⟩
    refine ⟨(.cons rfl (.plain rfl) (r_loadB ag3 rfl rfl (own_cell hbp _) (by simp only [Vc.add_block, List.mem_singleton]; assumption)) (.cons rfl (.plain rfl) (rl ag3 rfl rfl rfl) (.cons rfl (.plain rfl) (r_loadB ag3 rfl rfl (own_cell hbp _) (by simp only [Vc.add_block, List.mem_singleton]; assumption)) (.cons rfl (.plain rfl) (r_loadB ag3 rfl rfl (own_cell hbp _) (by simp only [Vc.add_block, List.mem_singleton]; assumption)) .nil)))), ?_⟩
    refine D_wr (.go (E' := [(16, _), (11, _), (9, _), (4, _)]) rfl (.plain rfl) (w_alloc zr148 rfl) rfl ?_)
    rintro _ _ ⟨b4, hb4, rfl, rfl⟩
    refine ⟨(.cons rfl (.plain rfl) (r_loadB ag3 rfl rfl (own_cell hbp _) (by simp only [Vc.add_block, List.mem_singleton]; assumption)) (.cons rfl (.plain rfl) (rl ag3 rfl rfl rfl) (.cons rfl (.plain rfl) (r_loadB ag3 rfl rfl (own_cell hbp _) (by simp only [Vc.add_block, List.mem_singleton]; assumption)) (.cons rfl (.plain rfl) (r_loadB ag3 rfl rfl (own_cell hbp _) (by simp only [Vc.add_block, List.mem_singleton]; assumption)) .nil)))), ?_⟩
    refine D_wr (.go (E' := []) rfl (.plain rfl) (ws (cs' := [_, _]) sz148 rfl rfl rfl rfl rfl rfl rfl) rfl ?_)
    rintro _ _ ⟨rfl, rfl⟩
    refine ⟨.nil, ?_⟩
    refine D_wr (.go (E' := []) rfl (.plain rfl) (ws (cs' := [_, _]) sz148 rfl rfl rfl rfl rfl rfl rfl) rfl ?_)
    rintro _ _ ⟨rfl, rfl⟩
    refine ⟨.nil, ?_⟩
    refine D_then (kp [0, 3, 4, 6, 7] rfl) ?_
    refine ⟨(b4, b3, es1, clk1), hc1, (.cons rfl (.cons rfl (.cons rfl (.cons rfl (.cons rfl (.nil _)))))), (by (try dsimp only); repeat (first | exact HSub.nil _ | refine HSub.take (by repeat first | exact Take.head | apply Take.tail) ?_ | exact HSub.refl _ | refine HSub.drop ?_ | refine HSub.app ?_)), rfl⟩
   refine (.go (E' := [(23, _), (16, _), (11, _), (9, _), (4, _)]) rfl (.plain rfl) (w_alloc zr148 rfl) rfl ?_)
   rintro _ _ ⟨b4, hb4, rfl, rfl⟩
   refine ⟨(.cons rfl (.plain rfl) (rlA (vs := [_, _]) ag177 sz177 rfl rfl rfl) (.cons rfl (.plain rfl) (r_loadB ag3 rfl rfl (own_cell hbp _) (by simp only [Vc.add_block, List.mem_singleton]; assumption)) (.cons rfl (.plain rfl) (rl ag3 rfl rfl rfl) (.cons rfl (.plain rfl) (r_loadB ag3 rfl rfl (own_cell hbp _) (by simp only [Vc.add_block, List.mem_singleton]; assumption)) (.cons rfl (.plain rfl) (r_loadB ag3 rfl rfl (own_cell hbp _) (by simp only [Vc.add_block, List.mem_singleton]; assumption)) .nil))))), ?_⟩
   refine D_wr (.go (E' := [(16, _), (11, _), (9, _), (4, _)]) rfl (.plain rfl) (w_callM rfl rfl rfl (fun o' => (by repeat first | exact .head | apply SetAt.tail)) (fun w hg => place_c bp bm es clk t ps k u hk hu w (hP.good' hg) hc (hg.own (bm, _) (by repeat first | exact mH | apply mT)))) rfl ?_)
   rintro _ _ ⟨_, rfl, rfl, es1, clk1, rfl, hc1⟩
   refine ⟨(.cons rfl (.plain rfl) (r_loadB ag3 rfl rfl (own_cell hbp _) (by simp only [Vc.add_block, List.mem_singleton]; assumption)) (.cons rfl (.plain rfl) (rl ag3 rfl rfl rfl) (.cons rfl (.plain rfl) (r_loadB ag3 rfl rfl (own_cell hbp _) (by simp only [Vc.add_block, List.mem_singleton]; assumption)) (.cons rfl (.plain rfl) (r_loadB ag3 rfl rfl (own_cell hbp _) (by simp only [Vc.add_block, List.mem_singleton]; assumption)) .nil)))), ?_⟩
   refine D_wr (.go (E' := []) rfl (.plain rfl) (ws (cs' := [_, _]) sz148 rfl rfl rfl rfl rfl rfl rfl) rfl ?_)
   rintro _ _ ⟨rfl, rfl⟩
   refine ⟨.nil, ?_⟩
   refine D_wr (.go (E' := []) rfl (.plain rfl) (ws (cs' := [_, _]) sz148 rfl rfl rfl rfl rfl rfl rfl) rfl ?_)
   rintro _ _ ⟨rfl, rfl⟩
   refine ⟨.nil, ?_⟩
   refine D_then (kp [0, 3, 4, 6, 7] rfl) ?_
   refine ⟨(b4, b3, es1, clk1), hc1, (.cons rfl (.cons rfl (.cons rfl (.cons rfl (.cons rfl (.nil _)))))), (by (try dsimp only); repeat (first | exact HSub.nil _ | refine HSub.take (by repeat first | exact Take.head | apply Take.tail) ?_ | exact HSub.refl _ | refine HSub.drop ?_ | refine HSub.app ?_)), rfl⟩
  refine (.go (E' := [(23, _), (16, _), (11, _), (9, _), (4, _)]) rfl (.plain rfl) (w_alloc zr148 rfl) rfl ?_)
  rintro _ _ ⟨b4, hb4, rfl, rfl⟩
  refine ⟨(.cons rfl (.plain rfl) (rlA (vs := [_, _]) ag177 sz177 rfl rfl rfl) (.cons rfl (.plain rfl) (r_loadB ag3 rfl rfl (own_cell hbp _) (by simp only [Vc.add_block, List.mem_singleton]; assumption)) (.cons rfl (.plain rfl) (rl ag3 rfl rfl rfl) (.cons rfl (.plain rfl) (r_loadB ag3 rfl rfl (own_cell hbp _) (by simp only [Vc.add_block, List.mem_singleton]; assumption)) (.cons rfl (.plain rfl) (r_loadB ag3 rfl rfl (own_cell hbp _) (by simp only [Vc.add_block, List.mem_singleton]; assumption)) .nil))))), ?_⟩
  refine D_wr (.go (E' := [(23, _), (16, _), (11, _), (9, _), (4, _)]) rfl (.plain rfl) (w_callP rfl rfl rfl (fun w hg => around_c _ (by omega) w)) rfl ?_)
  rintro _ _ ⟨rfl, rfl⟩
  refine ⟨(.cons rfl (.plain rfl) (rlA (vs := [_, _]) ag177 sz177 rfl rfl rfl) (.cons rfl (.plain rfl) (r_loadB ag3 rfl rfl (own_cell hbp _) (by simp only [Vc.add_block, List.mem_singleton]; assumption)) (.cons rfl (.plain rfl) (rl ag3 rfl rfl rfl) (.cons rfl (.plain rfl) (r_loadB ag3 rfl rfl (own_cell hbp _) (by simp only [Vc.add_block, List.mem_singleton]; assumption)) (.cons rfl (.plain rfl) (r_loadB ag3 rfl rfl (own_cell hbp _) (by simp only [Vc.add_block, List.mem_singleton]; assumption)) .nil))))), ?_⟩
  refine D_wr (.go (E' := [(16, _), (11, _), (9, _), (4, _)]) rfl (.plain rfl) (w_callM rfl rfl rfl (fun o' => (by repeat first | exact .head | apply SetAt.tail)) (fun w hg => place_c bp bm es clk t ps k u hk hu w (hP.good' hg) hc (hg.own (bm, _) (by repeat first | exact mH | apply mT)))) rfl ?_)
  rintro _ _ ⟨_, rfl, rfl, es1, clk1, rfl, hc1⟩
  refine ⟨(.cons rfl (.plain rfl) (r_loadB ag3 rfl rfl (own_cell hbp _) (by simp only [Vc.add_block, List.mem_singleton]; assumption)) (.cons rfl (.plain rfl) (rl ag3 rfl rfl rfl) (.cons rfl (.plain rfl) (r_loadB ag3 rfl rfl (own_cell hbp _) (by simp only [Vc.add_block, List.mem_singleton]; assumption)) (.cons rfl (.plain rfl) (r_loadB ag3 rfl rfl (own_cell hbp _) (by simp only [Vc.add_block, List.mem_singleton]; assumption)) .nil)))), ?_⟩
  refine D_wr (.go (E' := []) rfl (.plain rfl) (ws (cs' := [_, _]) sz148 rfl rfl rfl rfl rfl rfl rfl) rfl ?_)
  rintro _ _ ⟨rfl, rfl⟩
  refine ⟨.nil, ?_⟩
  refine D_wr (.go (E' := []) rfl (.plain rfl) (ws (cs' := [_, _]) sz148 rfl rfl rfl rfl rfl rfl rfl) rfl ?_)
  rintro _ _ ⟨rfl, rfl⟩
  refine ⟨.nil, ?_⟩
  refine D_then (kp [0, 3, 4, 6, 7] rfl) ?_
  refine ⟨(b4, b3, es1, clk1), hc1, (.cons rfl (.cons rfl (.cons rfl (.cons rfl (.cons rfl (.nil _)))))), (by (try dsimp only); repeat (first | exact HSub.nil _ | refine HSub.take (by repeat first | exact Take.head | apply Take.tail) ?_ | exact HSub.refl _ | refine HSub.drop ?_ | refine HSub.app ?_)), rfl⟩
 rintro ⟨x6, x7, es1, clk1⟩ hc1
 refine V_seq ?_
 refine Vs rfl ?_
 refine La rfl rfl rfl ?_
 refine L_then (kp [0, 3, 4, 6, 7, 8] rfl) ?_
 refine V_block ?_
 refine V_loop1 (γ := Int × Span × Array MapEntry × Nat) (kp [0, 3, 4, 6, 7] rfl) (fun (j, s, es1, clk1) => [(8, .int .i64 j)]) (fun (j, s, es1, clk1) => [(x6, .cells #[.int .i64 s.lo, .int .i64 s.hi] 148), (x7, .cells #[.int .i64 (placeT t ps k u).lo, .int .i64 (placeT t ps k u).hi] 148), (b2, .cells #[.int .i64 0, .int .i64 0] 148), (b1, .cells #[.int .i64 k, .int .i64 u] 177), (bm, .map es1 clk1)]) (fun (j, s, es1, clk1) => 1 ≤ j ∧ j ≤ 9 ∧ fastN t ps k u (j - 1).toNat = some s ∧ Cache t ps es1) (fun (j, s, es1, clk1) => (9 - j).toNat) ((1, room0 (min t.speed (t.accel * (u - t.frm + 1))), es1, clk1)) (.cons rfl (.nil _)) (by repeat (first | exact List.Sublist.refl _ | apply List.Sublist.cons_cons | apply List.Sublist.cons)) (⟨by omega, by omega, rfl, hc1⟩) ?_
 rintro ⟨j, s, es1, clk1⟩ hi
 obtain ⟨hj0, hj1, hN, hc1⟩ := hi
 refine V_seq ?_
 refine Vs rfl ?_
 refine Lm rfl rfl rfl ?_
 refine Lp rfl (p_leq rfl rfl rfl) ?_
 refine L_then (kp [0, 3, 4, 6, 7, 8, 48] rfl) ?_
 refine V_cond rfl ?_ ?_
 ·intro c2; try simp only [td] at c2
  have hmb := moreB_bnd hG (j := j) ⟨by omega, by omega⟩
  have hmf := moreF_bnd hG (j := j) ⟨by omega, by omega⟩
  have hmb3 : 0 ≤ moreB t j ∧ moreB t j ≤ 72000000 := hmb.2.2
  have hmf3 : 0 ≤ moreF t j ∧ moreF t j ≤ 56000000 := hmf.2.2
  have hpu := placeT_bnd hG hP.bnd hu.2 k
  unfold SpanB at hpu
  refine V_skip (then_n ?_)
  refine V_seq ?_
  refine V_block ?_
  refine V_seq ?_
  refine V_seq (V_draw (.rd 0 (.rd 1 (.rd 2 (.rd 3 (.rd 4 (.rd 5 (.rd 6 (.rd 7 (.rd 8 (.rd 9 .done)))))))))) mixed (by kernel_rfl) rfl ?_)
  refine Dp rfl rfl (p_fieldo fo177_1 rfl rfl) ?_
  refine Dr rfl rfl (rl ag3 rfl rfl rfl) ?_
  refine Dm rfl rfl rfl rfl ?_
  first | refine Dp rfl rfl (p_sub' rfl rfl rfl (by unfold InI; omega)) ?_ | refine Dp rfl rfl (p_sub rfl rfl rfl) ?_
  refine Dm rfl rfl rfl rfl ?_
  refine Dp rfl rfl (p_nil rfl rfl) ?_
  refine Dp rfl rfl (p_fieldo fo172_0 rfl rfl) ?_
  refine Dp rfl rfl (p_fieldo fo39_0 rfl rfl) ?_
  refine Dr rfl rfl (r_loadB ag3 rfl rfl (own_cell hbp _) (by simp only [Vc.add_block, List.mem_singleton]; assumption)) ?_
  refine Dp rfl rfl (p_geq rfl rfl rfl) ?_
  refine D_then (kp [0, 3, 4, 6, 7, 8, 60] rfl) ?_
  refine V_cond rfl ?_ ?_
  ·intro c3; try simp only [td] at c3
   have hpv := placeT_bnd hG hP.bnd (u := u - j) (by omega) k
   unfold SpanB at hpv
   refine V_mid (γ := Nat × Array MapEntry × Nat) (kp [0, 3, 4, 6, 7, 8] rfl) (fun (x9, es2, clk2) => [(9, .pointer (some ⟨x9, 0, none⟩)), (10, .int .i64 (moreB t j))]) (fun (x9, es2, clk2) => [(x9, .cells #[.int .i64 (placeT t ps k (u - j)).lo, .int .i64 (placeT t ps k (u - j)).hi] 148), (x6, .cells #[.int .i64 s.lo, .int .i64 s.hi] 148), (x7, .cells #[.int .i64 (placeT t ps k u).lo, .int .i64 (placeT t ps k u).hi] 148), (b2, .cells #[.int .i64 0, .int .i64 0] 148), (b1, .cells #[.int .i64 k, .int .i64 u] 177), (bm, .map es2 clk2)]) (fun (x9, es2, clk2) => Cache t ps es2) ?_ ?_
   ·refine V_draw (.rd 0 (.rd 1 (.rd 2 (.rd 3 (.rd 4 (.rd 5 (.rd 6 (.rd 7 (.rd 9 (.rd 10 (.rd 11 (.rd 12 (.rd 13 (.rd 14 (.rd 15 (.rd 16 (.rd 17 (.rd 18 (.rd 19 (.wr2 8 [19, 18, 17, 16, 15, 14, 13, 12, 11, 10, 9, 6, 5, 4, 3, 2, 1] (.wr 20 [19, 18, 17, 16, 15, 14, 13, 12, 11, 10, 9, 7, 6, 5, 4, 3, 2, 1, 0] (.wr 21 [19, 18, 17, 16, 15, 14, 12, 11, 10, 9] (.rd 22 .done))) 20 [19, 18, 17, 16, 15, 14, 13, 12, 11, 10, 9, 7, 6, 5, 4, 3, 2, 1, 0] (.wr 8 [19, 18, 17, 16, 15, 14, 13, 12, 11, 10, 9, 6, 5, 4, 3, 2, 1] (.wr 21 [19, 18, 17, 16, 15, 14, 12, 11, 10, 9] (.rd 22 .done))))))))))))))))))))))) mixed (by kernel_rfl) rfl ?_
    refine Dm rfl rfl rfl rfl ?_
    refine Dp rfl rfl (p_fieldo fo177_0 rfl rfl) ?_
    refine Dr rfl rfl (rl ag3 rfl rfl rfl) ?_
    refine Dp rfl rfl (p_fieldo fo177_1 rfl rfl) ?_
    refine Dr rfl rfl (rl ag3 rfl rfl rfl) ?_
    refine Dm rfl rfl rfl rfl ?_
    first | refine Dp rfl rfl (p_sub' rfl rfl rfl (by unfold InI; omega)) ?_ | refine Dp rfl rfl (p_sub rfl rfl rfl) ?_
    refine Dp rfl rfl (p_build (r := [_, _]) pl177 zr177 rfl rfl rfl) ?_
    refine Dm rfl rfl rfl rfl ?_
    refine Dp rfl rfl (p_nil rfl rfl) ?_
    refine Dp rfl rfl (p_fieldo fo172_0 rfl rfl) ?_
    refine Dp rfl rfl (p_fieldo fo39_2 rfl rfl) ?_
    refine Dr rfl rfl (r_loadB ag3 rfl rfl (own_cell hbp _) (by simp only [Vc.add_block, List.mem_singleton]; assumption)) ?_
    iterate 2 refine Dm rfl rfl rfl rfl ?_
    first | refine Dp rfl rfl (p_add' rfl rfl rfl (by unfold InI; omega)) ?_ | refine Dp rfl rfl (p_add rfl rfl rfl) ?_
    first | refine Dp rfl rfl (p_mul' rfl rfl rfl (by unfold InI; omega)) ?_ | refine Dp rfl rfl (p_mul rfl rfl rfl) ?_
    first | refine Dp rfl rfl (p_quo' rfl rfl rfl (by first | decide | omega) (by unfold InI; omega)) ?_ | refine Dp rfl rfl (p_quo rfl rfl rfl (by first | decide | omega)) ?_
    first | refine Dp rfl rfl (p_mul' rfl rfl rfl (by unfold InI; omega)) ?_ | refine Dp rfl rfl (p_mul rfl rfl rfl) ?_
    refine D_wr2 rfl ?_ ?_
    ·refine (.go (E' := [(13, _), (4, _), (2, _)]) rfl (.plain rfl) (w_callM rfl rfl rfl (fun o' => (by repeat first | exact .head | apply SetAt.tail)) (fun w hg => place_c bp bm es1 clk1 t ps k (u - j) hk (by omega) w (hP.good' hg) hc1 (hg.own (bm, _) (by repeat first | exact mH | apply mT)))) rfl ?_)
     rintro _ _ ⟨_, rfl, rfl, es2, clk2, rfl, hc2⟩
     refine ⟨(.cons rfl (.plain rfl) (r_loadB ag3 rfl rfl (own_cell hbp _) (by simp only [Vc.add_block, List.mem_singleton]; assumption)) (.cons rfl (.plain rfl) (rl ag3 rfl rfl rfl) (.cons rfl (.plain rfl) (rl ag3 rfl rfl rfl) .nil))), ?_⟩
     refine D_wr (.go (E' := [(13, _), (4, _), (2, _)]) rfl (.plain rfl) (w_alloc zr148 rfl) rfl ?_)
     rintro _ _ ⟨b3, hb3, rfl, rfl⟩
     refine ⟨(.cons rfl (.plain rfl) (r_loadB ag3 rfl rfl (own_cell hbp _) (by simp only [Vc.add_block, List.mem_singleton]; assumption)) (.cons rfl (.plain rfl) (rl ag3 rfl rfl rfl) (.cons rfl (.plain rfl) (rl ag3 rfl rfl rfl) .nil))), ?_⟩
     refine D_wr (.go (E' := []) rfl (.plain rfl) (ws (cs' := [_, _]) sz148 rfl rfl rfl rfl rfl rfl rfl) rfl ?_)
     rintro _ _ ⟨rfl, rfl⟩
     refine ⟨.nil, ?_⟩
     refine Dp rfl rfl (p_assign rfl rfl) ?_
     refine D_then (kp [0, 3, 4, 6, 7, 8, 9, 10] rfl) ?_
     refine ⟨(b3, es2, clk2), hc2, (.cons rfl (.cons rfl (.cons rfl (.cons rfl (.cons rfl (.cons rfl (.cons rfl (.cons rfl (.nil _))))))))), (by (try dsimp only); repeat (first | exact HSub.nil _ | refine HSub.take (by repeat first | exact Take.head | apply Take.tail) ?_ | exact HSub.refl _ | refine HSub.drop ?_ | refine HSub.app ?_)), rfl⟩
    refine (.go (E' := [(13, _), (4, _), (2, _)]) rfl (.plain rfl) (w_alloc zr148 rfl) rfl ?_)
    rintro _ _ ⟨b3, hb3, rfl, rfl⟩
    refine ⟨(.cons rfl (.plain rfl) (r_loadB ag3 rfl rfl (own_cell hbp _) (by simp only [Vc.add_block, List.mem_singleton]; assumption)) (.cons rfl (.plain rfl) (rl ag3 rfl rfl rfl) (.cons rfl (.plain rfl) (rl ag3 rfl rfl rfl) .nil))), ?_⟩
    refine D_wr (.go (E' := [(13, _), (4, _), (2, _)]) rfl (.plain rfl) (w_callM rfl rfl rfl (fun o' => (by repeat first | exact .head | apply SetAt.tail)) (fun w hg => place_c bp bm es1 clk1 t ps k (u - j) hk (by omega) w (hP.good' hg) hc1 (hg.own (bm, _) (by repeat first | exact mH | apply mT)))) rfl ?_)
    rintro _ _ ⟨_, rfl, rfl, es2, clk2, rfl, hc2⟩
    refine ⟨(.cons rfl (.plain rfl) (r_loadB ag3 rfl rfl (own_cell hbp _) (by simp only [Vc.add_block, List.mem_singleton]; assumption)) (.cons rfl (.plain rfl) (rl ag3 rfl rfl rfl) (.cons rfl (.plain rfl) (rl ag3 rfl rfl rfl) .nil))), ?_⟩
    refine D_wr (.go (E' := []) rfl (.plain rfl) (ws (cs' := [_, _]) sz148 rfl rfl rfl rfl rfl rfl rfl) rfl ?_)
    rintro _ _ ⟨rfl, rfl⟩
    refine ⟨.nil, ?_⟩
    refine Dp rfl rfl (p_assign rfl rfl) ?_
    refine D_then (kp [0, 3, 4, 6, 7, 8, 9, 10] rfl) ?_
    refine ⟨(b3, es2, clk2), hc2, (.cons rfl (.cons rfl (.cons rfl (.cons rfl (.cons rfl (.cons rfl (.cons rfl (.cons rfl (.nil _))))))))), (by (try dsimp only); repeat (first | exact HSub.nil _ | refine HSub.take (by repeat first | exact Take.head | apply Take.tail) ?_ | exact HSub.refl _ | refine HSub.drop ?_ | refine HSub.app ?_)), rfl⟩
   rintro ⟨x9, es2, clk2⟩ hc2
   refine V_seq ?_
   refine Vs rfl ?_
   refine Lc rfl rfl rfl rfl (fun w hg => empty_c x9 _ _ 148 w (hg.own (x9, _) (by repeat first | exact mH | apply mT))) ?_
   refine L_then (kp [0, 3, 4, 6, 7, 8, 9, 10, 81] rfl) ?_
   refine V_cond rfl ?_ ?_
   ·intro c4; try simp only [td] at c4
    refine Vs rfl ?_
    refine Lr rfl (rlA (vs := [_, _]) ag148 sz148 rfl rfl rfl) ?_
    refine Ls (cs' := [_, _]) rfl sz148 rfl rfl rfl rfl rfl rfl rfl ?_
    refine La rfl rfl rfl ?_
    refine L_then (kp [4, 5] rfl) ?_
    refine V_ret (then_r (then_r (blk_r (then_r (then_r (blk_r (then_r ?_)))))))
    refine Leave.nil (.cellA (us := [_, _]) rfl ag148 sz148 (by repeat first | exact mH | apply mT) rfl (.tmp rfl .nil)) ?_
    exact ⟨_, (by repeat first | exact mH | apply mT), ⟨_, _, false, rfl, .inr ⟨rfl, fastT_none1 (by omega) ⟨by omega, by omega⟩ hN (fastB_none (by omega) c4)⟩⟩, _, _, rfl, hc2⟩
   intro c4; try simp only [td] at c4
   refine V_skip (then_n ?_)
   refine V_region rfl ?_
   refine Lp rfl (p_fieldo fo148_0 rfl rfl) ?_
   refine Lp rfl (p_fieldo fo24_0 rfl rfl) ?_
   refine Lr rfl (rl ag3 rfl rfl rfl) ?_
   refine Lp rfl (p_fieldo fo148_0 rfl rfl) ?_
   refine Lp rfl (p_fieldo fo24_1 rfl rfl) ?_
   refine Lr rfl (rl ag3 rfl rfl rfl) ?_
   first | refine Lp rfl (p_sub' rfl rfl rfl (by unfold InI; omega)) ?_ | refine Lp rfl (p_sub rfl rfl rfl) ?_
   refine Lm rfl rfl rfl ?_
   first | refine Lp rfl (p_sub' rfl rfl rfl (by unfold InI; omega)) ?_ | refine Lp rfl (p_sub rfl rfl rfl) ?_
   refine Lp rfl (p_fieldo fo148_0 rfl rfl) ?_
   refine Lp rfl (p_fieldo fo24_1 rfl rfl) ?_
   refine Lr rfl (rl ag3 rfl rfl rfl) ?_
   refine Lp rfl (p_fieldo fo148_0 rfl rfl) ?_
   refine Lp rfl (p_fieldo fo24_0 rfl rfl) ?_
   refine Lr rfl (rl ag3 rfl rfl rfl) ?_
   first | refine Lp rfl (p_sub' rfl rfl rfl (by unfold InI; omega)) ?_ | refine Lp rfl (p_sub rfl rfl rfl) ?_
   refine Lm rfl rfl rfl ?_
   first | refine Lp rfl (p_add' rfl rfl rfl (by unfold InI; omega)) ?_ | refine Lp rfl (p_add rfl rfl rfl) ?_
   refine Lm rfl rfl rfl ?_
   refine Lw rfl (w_callM rfl rfl rfl (fun o' => (by repeat first | exact .head | apply SetAt.tail)) (fun w hg => gone_c x6 s.lo s.hi 148 _ _ _ (by omega) (by omega) (by omega) w (hg.own (x6, _) (by repeat first | exact mH | apply mT)))) ?_
   rintro _ _ ⟨_, rfl, rfl, rfl⟩
   refine L_then (kp [0, 3, 4, 6, 7, 8] rfl) ?_
   refine Vs rfl ?_
   refine Lp rfl (p_fieldo fo177_1 rfl rfl) ?_
   refine Lr rfl (rl ag3 rfl rfl rfl) ?_
   refine Lm rfl rfl rfl ?_
   first | refine Lp rfl (p_add' rfl rfl rfl (by unfold InI; omega)) ?_ | refine Lp rfl (p_add rfl rfl rfl) ?_
   refine Lp rfl (p_leq rfl rfl rfl) ?_
   refine L_then (kp [0, 3, 4, 6, 7, 8, 107] rfl) ?_
   refine V_cond rfl ?_ ?_
   ·intro c5; try simp only [td] at c5
    have hpw := placeT_bnd hG hP.bnd (u := u + j) (by omega) k
    unfold SpanB at hpw
    refine V_mid (γ := Nat × Array MapEntry × Nat) (kp [0, 3, 4, 6, 7, 8] rfl) (fun (x11, es3, clk3) => [(11, .pointer (some ⟨x11, 0, none⟩)), (12, .int .i64 (moreF t j))]) (fun (x11, es3, clk3) => [(x11, .cells #[.int .i64 (placeT t ps k (u + j)).lo, .int .i64 (placeT t ps k (u + j)).hi] 148), (x6, .cells #[.int .i64 (sB t ps k u j s).lo, .int .i64 (sB t ps k u j s).hi] 148), (x7, .cells #[.int .i64 (placeT t ps k u).lo, .int .i64 (placeT t ps k u).hi] 148), (b2, .cells #[.int .i64 0, .int .i64 0] 148), (b1, .cells #[.int .i64 k, .int .i64 u] 177), (bm, .map es3 clk3)]) (fun (x11, es3, clk3) => Cache t ps es3) ?_ ?_
    ·refine V_draw (.rd 0 (.rd 1 (.rd 2 (.rd 3 (.rd 4 (.rd 5 (.rd 6 (.rd 7 (.rd 9 (.rd 10 (.rd 11 (.rd 12 (.rd 13 (.rd 14 (.rd 15 (.rd 16 (.rd 17 (.rd 18 (.rd 19 (.wr2 8 [19, 18, 17, 16, 15, 14, 13, 12, 11, 10, 9, 6, 5, 4, 3, 2, 1] (.wr 20 [19, 18, 17, 16, 15, 14, 13, 12, 11, 10, 9, 7, 6, 5, 4, 3, 2, 1, 0] (.wr 21 [19, 18, 17, 16, 15, 14, 12, 11, 10, 9] (.rd 22 .done))) 20 [19, 18, 17, 16, 15, 14, 13, 12, 11, 10, 9, 7, 6, 5, 4, 3, 2, 1, 0] (.wr 8 [19, 18, 17, 16, 15, 14, 13, 12, 11, 10, 9, 6, 5, 4, 3, 2, 1] (.wr 21 [19, 18, 17, 16, 15, 14, 12, 11, 10, 9] (.rd 22 .done))))))))))))))))))))))) mixed (by kernel_rfl) rfl ?_
     refine Dm rfl rfl rfl rfl ?_
     refine Dp rfl rfl (p_fieldo fo177_0 rfl rfl) ?_
     refine Dr rfl rfl (rl ag3 rfl rfl rfl) ?_
     refine Dp rfl rfl (p_fieldo fo177_1 rfl rfl) ?_
     refine Dr rfl rfl (rl ag3 rfl rfl rfl) ?_
     refine Dm rfl rfl rfl rfl ?_
     first | refine Dp rfl rfl (p_add' rfl rfl rfl (by unfold InI; omega)) ?_ | refine Dp rfl rfl (p_add rfl rfl rfl) ?_
     refine Dp rfl rfl (p_build (r := [_, _]) pl177 zr177 rfl rfl rfl) ?_
     refine Dm rfl rfl rfl rfl ?_
     refine Dp rfl rfl (p_nil rfl rfl) ?_
     refine Dp rfl rfl (p_fieldo fo172_0 rfl rfl) ?_
     refine Dp rfl rfl (p_fieldo fo39_2 rfl rfl) ?_
     refine Dr rfl rfl (r_loadB ag3 rfl rfl (own_cell hbp _) (by simp only [Vc.add_block, List.mem_singleton]; assumption)) ?_
     iterate 2 refine Dm rfl rfl rfl rfl ?_
     first | refine Dp rfl rfl (p_sub' rfl rfl rfl (by unfold InI; omega)) ?_ | refine Dp rfl rfl (p_sub rfl rfl rfl) ?_
     first | refine Dp rfl rfl (p_mul' rfl rfl rfl (by unfold InI; omega)) ?_ | refine Dp rfl rfl (p_mul rfl rfl rfl) ?_
     first | refine Dp rfl rfl (p_quo' rfl rfl rfl (by first | decide | omega) (by unfold InI; omega)) ?_ | refine Dp rfl rfl (p_quo rfl rfl rfl (by first | decide | omega)) ?_
     first | refine Dp rfl rfl (p_mul' rfl rfl rfl (by unfold InI; omega)) ?_ | refine Dp rfl rfl (p_mul rfl rfl rfl) ?_
     refine D_wr2 rfl ?_ ?_
     ·refine (.go (E' := [(13, _), (4, _), (2, _)]) rfl (.plain rfl) (w_callM rfl rfl rfl (fun o' => (by repeat first | exact .head | apply SetAt.tail)) (fun w hg => place_c bp bm es2 clk2 t ps k (u + j) hk (by omega) w (hP.good' hg) hc2 (hg.own (bm, _) (by repeat first | exact mH | apply mT)))) rfl ?_)
      rintro _ _ ⟨_, rfl, rfl, es3, clk3, rfl, hc3⟩
      refine ⟨(.cons rfl (.plain rfl) (r_loadB ag3 rfl rfl (own_cell hbp _) (by simp only [Vc.add_block, List.mem_singleton]; assumption)) (.cons rfl (.plain rfl) (rl ag3 rfl rfl rfl) (.cons rfl (.plain rfl) (rl ag3 rfl rfl rfl) .nil))), ?_⟩
      refine D_wr (.go (E' := [(13, _), (4, _), (2, _)]) rfl (.plain rfl) (w_alloc zr148 rfl) rfl ?_)
      rintro _ _ ⟨b3, hb3, rfl, rfl⟩
      refine ⟨(.cons rfl (.plain rfl) (r_loadB ag3 rfl rfl (own_cell hbp _) (by simp only [Vc.add_block, List.mem_singleton]; assumption)) (.cons rfl (.plain rfl) (rl ag3 rfl rfl rfl) (.cons rfl (.plain rfl) (rl ag3 rfl rfl rfl) .nil))), ?_⟩
      refine D_wr (.go (E' := []) rfl (.plain rfl) (ws (cs' := [_, _]) sz148 rfl rfl rfl rfl rfl rfl rfl) rfl ?_)
      rintro _ _ ⟨rfl, rfl⟩
      refine ⟨.nil, ?_⟩
      refine Dp rfl rfl (p_assign rfl rfl) ?_
      refine D_then (kp [0, 3, 4, 6, 7, 8, 11, 12] rfl) ?_
      refine ⟨(b3, es3, clk3), hc3, (.cons rfl (.cons rfl (.cons rfl (.cons rfl (.cons rfl (.cons rfl (.cons rfl (.cons rfl (.nil _))))))))), (by (try dsimp only); repeat (first | exact HSub.nil _ | refine HSub.take (by repeat first | exact Take.head | apply Take.tail) ?_ | exact HSub.refl _ | refine HSub.drop ?_ | refine HSub.app ?_)), rfl⟩
     refine (.go (E' := [(13, _), (4, _), (2, _)]) rfl (.plain rfl) (w_alloc zr148 rfl) rfl ?_)
     rintro _ _ ⟨b3, hb3, rfl, rfl⟩
     refine ⟨(.cons rfl (.plain rfl) (r_loadB ag3 rfl rfl (own_cell hbp _) (by simp only [Vc.add_block, List.mem_singleton]; assumption)) (.cons rfl (.plain rfl) (rl ag3 rfl rfl rfl) (.cons rfl (.plain rfl) (rl ag3 rfl rfl rfl) .nil))), ?_⟩
     refine D_wr (.go (E' := [(13, _), (4, _), (2, _)]) rfl (.plain rfl) (w_callM rfl rfl rfl (fun o' => (by repeat first | exact .head | apply SetAt.tail)) (fun w hg => place_c bp bm es2 clk2 t ps k (u + j) hk (by omega) w (hP.good' hg) hc2 (hg.own (bm, _) (by repeat first | exact mH | apply mT)))) rfl ?_)
     rintro _ _ ⟨_, rfl, rfl, es3, clk3, rfl, hc3⟩
     refine ⟨(.cons rfl (.plain rfl) (r_loadB ag3 rfl rfl (own_cell hbp _) (by simp only [Vc.add_block, List.mem_singleton]; assumption)) (.cons rfl (.plain rfl) (rl ag3 rfl rfl rfl) (.cons rfl (.plain rfl) (rl ag3 rfl rfl rfl) .nil))), ?_⟩
     refine D_wr (.go (E' := []) rfl (.plain rfl) (ws (cs' := [_, _]) sz148 rfl rfl rfl rfl rfl rfl rfl) rfl ?_)
     rintro _ _ ⟨rfl, rfl⟩
     refine ⟨.nil, ?_⟩
     refine Dp rfl rfl (p_assign rfl rfl) ?_
     refine D_then (kp [0, 3, 4, 6, 7, 8, 11, 12] rfl) ?_
     refine ⟨(b3, es3, clk3), hc3, (.cons rfl (.cons rfl (.cons rfl (.cons rfl (.cons rfl (.cons rfl (.cons rfl (.cons rfl (.nil _))))))))), (by (try dsimp only); repeat (first | exact HSub.nil _ | refine HSub.take (by repeat first | exact Take.head | apply Take.tail) ?_ | exact HSub.refl _ | refine HSub.drop ?_ | refine HSub.app ?_)), rfl⟩
    rintro ⟨x11, es3, clk3⟩ hc3
    refine V_seq ?_
    refine Vs rfl ?_
    refine Lc rfl rfl rfl rfl (fun w hg => empty_c x11 _ _ 148 w (hg.own (x11, _) (by repeat first | exact mH | apply mT))) ?_
    refine L_then (kp [0, 3, 4, 6, 7, 8, 11, 12, 128] rfl) ?_
    refine V_cond rfl ?_ ?_
    ·intro c6; try simp only [td] at c6
     refine Vs rfl ?_
     refine Lr rfl (rlA (vs := [_, _]) ag148 sz148 rfl rfl rfl) ?_
     refine Ls (cs' := [_, _]) rfl sz148 rfl rfl rfl rfl rfl rfl rfl ?_
     refine La rfl rfl rfl ?_
     refine L_then (kp [4, 5] rfl) ?_
     refine V_ret (then_r (blk_r (then_r (then_r (blk_r (then_r ?_))))))
     refine Leave.nil (.cellA (us := [_, _]) rfl ag148 sz148 (by repeat first | exact mH | apply mT) rfl (.tmp rfl .nil)) ?_
     exact ⟨_, (by repeat first | exact mH | apply mT), ⟨_, _, false, rfl, .inr ⟨rfl, fastT_none2 (by omega) ⟨by omega, by omega⟩ hN (fastB_go (by omega) c4) (fastF_none (by omega) c6)⟩⟩, _, _, rfl, hc3⟩
    intro c6; try simp only [td] at c6
    refine V_skip (then_n ?_)
    refine V_region rfl ?_
    refine Lp rfl (p_fieldo fo148_0 rfl rfl) ?_
    refine Lp rfl (p_fieldo fo24_0 rfl rfl) ?_
    refine Lr rfl (rl ag3 rfl rfl rfl) ?_
    refine Lp rfl (p_fieldo fo148_0 rfl rfl) ?_
    refine Lp rfl (p_fieldo fo24_1 rfl rfl) ?_
    refine Lr rfl (rl ag3 rfl rfl rfl) ?_
    first | refine Lp rfl (p_sub' rfl rfl rfl (by unfold InI; omega)) ?_ | refine Lp rfl (p_sub rfl rfl rfl) ?_
    refine Lm rfl rfl rfl ?_
    first | refine Lp rfl (p_sub' rfl rfl rfl (by unfold InI; omega)) ?_ | refine Lp rfl (p_sub rfl rfl rfl) ?_
    refine Lp rfl (p_fieldo fo148_0 rfl rfl) ?_
    refine Lp rfl (p_fieldo fo24_1 rfl rfl) ?_
    refine Lr rfl (rl ag3 rfl rfl rfl) ?_
    refine Lp rfl (p_fieldo fo148_0 rfl rfl) ?_
    refine Lp rfl (p_fieldo fo24_0 rfl rfl) ?_
    refine Lr rfl (rl ag3 rfl rfl rfl) ?_
    first | refine Lp rfl (p_sub' rfl rfl rfl (by unfold InI; omega)) ?_ | refine Lp rfl (p_sub rfl rfl rfl) ?_
    refine Lm rfl rfl rfl ?_
    first | refine Lp rfl (p_add' rfl rfl rfl (by unfold InI; omega)) ?_ | refine Lp rfl (p_add rfl rfl rfl) ?_
    refine Lm rfl rfl rfl ?_
    refine Lw rfl (w_callM rfl rfl rfl (fun o' => (by repeat first | exact .head | apply SetAt.tail)) (fun w hg => gone_c x6 (sB t ps k u j s).lo (sB t ps k u j s).hi 148 _ _ _ (by omega) (by omega) (by omega) w (hg.own (x6, _) (by repeat first | exact mH | apply mT)))) ?_
    rintro _ _ ⟨_, rfl, rfl, rfl⟩
    refine L_keep (kp [0, 3, 4, 6, 7, 8] rfl) (blk_n (then_n ?_))
    refine V_region rfl ?_
    refine Lm rfl rfl rfl ?_
    first | refine Lp rfl (p_add' rfl rfl rfl (by unfold InI; omega)) ?_ | refine Lp rfl (p_add rfl rfl rfl) ?_
    refine La rfl rfl rfl ?_
    refine L_keep (kp [0, 3, 4, 6, 7, 8] rfl) (then_n ?_)
    refine ⟨(j + 1, sF t ps k u j (sB t ps k u j s), es3, clk3), ?_, ?_, (.cons rfl (.cons rfl (.cons rfl (.cons rfl (.cons rfl (.cons rfl (.nil _))))))), (by repeat (first | exact List.Sublist.refl _ | apply List.Sublist.cons_cons | apply List.Sublist.cons | apply List.sublist_append_of_sublist_right)), rfl⟩
    ·exact ⟨by omega, by omega, fastN_go hj0 hN (fastB_go (by omega) c4) (fastF_go (by omega) c6), hc3⟩
    dsimp only; omega
   intro c5; try simp only [td] at c5
   refine V_skip (blk_n (then_n ?_))
   refine V_region rfl ?_
   refine Lm rfl rfl rfl ?_
   first | refine Lp rfl (p_add' rfl rfl rfl (by unfold InI; omega)) ?_ | refine Lp rfl (p_add rfl rfl rfl) ?_
   refine La rfl rfl rfl ?_
   refine L_keep (kp [0, 3, 4, 6, 7, 8] rfl) (then_n ?_)
   refine ⟨(j + 1, sB t ps k u j s, es2, clk2), ?_, ?_, (.cons rfl (.cons rfl (.cons rfl (.cons rfl (.cons rfl (.cons rfl (.nil _))))))), (by repeat (first | exact List.Sublist.refl _ | apply List.Sublist.cons_cons | apply List.Sublist.cons | apply List.sublist_append_of_sublist_right)), rfl⟩
   ·exact ⟨by omega, by omega, fastN_go hj0 hN (fastB_go (by omega) c4) (fastF_skip (by omega)), hc2⟩
   dsimp only; omega
  intro c3; try simp only [td] at c3
  refine V_skip (then_n ?_)
  refine Vs rfl ?_
  refine Lp rfl (p_fieldo fo177_1 rfl rfl) ?_
  refine Lr rfl (rl ag3 rfl rfl rfl) ?_
  refine Lm rfl rfl rfl ?_
  first | refine Lp rfl (p_add' rfl rfl rfl (by unfold InI; omega)) ?_ | refine Lp rfl (p_add rfl rfl rfl) ?_
  refine Lp rfl (p_leq rfl rfl rfl) ?_
  refine L_then (kp [0, 3, 4, 6, 7, 8, 107] rfl) ?_
  refine V_cond rfl ?_ ?_
  ·intro c7; try simp only [td] at c7
   have hpw := placeT_bnd hG hP.bnd (u := u + j) (by omega) k
   unfold SpanB at hpw
   refine V_mid (γ := Nat × Array MapEntry × Nat) (kp [0, 3, 4, 6, 7, 8] rfl) (fun (x11, es3, clk3) => [(11, .pointer (some ⟨x11, 0, none⟩)), (12, .int .i64 (moreF t j))]) (fun (x11, es3, clk3) => [(x11, .cells #[.int .i64 (placeT t ps k (u + j)).lo, .int .i64 (placeT t ps k (u + j)).hi] 148), (x6, .cells #[.int .i64 s.lo, .int .i64 s.hi] 148), (x7, .cells #[.int .i64 (placeT t ps k u).lo, .int .i64 (placeT t ps k u).hi] 148), (b2, .cells #[.int .i64 0, .int .i64 0] 148), (b1, .cells #[.int .i64 k, .int .i64 u] 177), (bm, .map es3 clk3)]) (fun (x11, es3, clk3) => Cache t ps es3) ?_ ?_
   ·refine V_draw (.rd 0 (.rd 1 (.rd 2 (.rd 3 (.rd 4 (.rd 5 (.rd 6 (.rd 7 (.rd 9 (.rd 10 (.rd 11 (.rd 12 (.rd 13 (.rd 14 (.rd 15 (.rd 16 (.rd 17 (.rd 18 (.rd 19 (.wr2 8 [19, 18, 17, 16, 15, 14, 13, 12, 11, 10, 9, 6, 5, 4, 3, 2, 1] (.wr 20 [19, 18, 17, 16, 15, 14, 13, 12, 11, 10, 9, 7, 6, 5, 4, 3, 2, 1, 0] (.wr 21 [19, 18, 17, 16, 15, 14, 12, 11, 10, 9] (.rd 22 .done))) 20 [19, 18, 17, 16, 15, 14, 13, 12, 11, 10, 9, 7, 6, 5, 4, 3, 2, 1, 0] (.wr 8 [19, 18, 17, 16, 15, 14, 13, 12, 11, 10, 9, 6, 5, 4, 3, 2, 1] (.wr 21 [19, 18, 17, 16, 15, 14, 12, 11, 10, 9] (.rd 22 .done))))))))))))))))))))))) mixed (by kernel_rfl) rfl ?_
    refine Dm rfl rfl rfl rfl ?_
    refine Dp rfl rfl (p_fieldo fo177_0 rfl rfl) ?_
    refine Dr rfl rfl (rl ag3 rfl rfl rfl) ?_
    refine Dp rfl rfl (p_fieldo fo177_1 rfl rfl) ?_
    refine Dr rfl rfl (rl ag3 rfl rfl rfl) ?_
    refine Dm rfl rfl rfl rfl ?_
    first | refine Dp rfl rfl (p_add' rfl rfl rfl (by unfold InI; omega)) ?_ | refine Dp rfl rfl (p_add rfl rfl rfl) ?_
    refine Dp rfl rfl (p_build (r := [_, _]) pl177 zr177 rfl rfl rfl) ?_
    refine Dm rfl rfl rfl rfl ?_
    refine Dp rfl rfl (p_nil rfl rfl) ?_
    refine Dp rfl rfl (p_fieldo fo172_0 rfl rfl) ?_
    refine Dp rfl rfl (p_fieldo fo39_2 rfl rfl) ?_
    refine Dr rfl rfl (r_loadB ag3 rfl rfl (own_cell hbp _) (by simp only [Vc.add_block, List.mem_singleton]; assumption)) ?_
    iterate 2 refine Dm rfl rfl rfl rfl ?_
    first | refine Dp rfl rfl (p_sub' rfl rfl rfl (by unfold InI; omega)) ?_ | refine Dp rfl rfl (p_sub rfl rfl rfl) ?_
    first | refine Dp rfl rfl (p_mul' rfl rfl rfl (by unfold InI; omega)) ?_ | refine Dp rfl rfl (p_mul rfl rfl rfl) ?_
    first | refine Dp rfl rfl (p_quo' rfl rfl rfl (by first | decide | omega) (by unfold InI; omega)) ?_ | refine Dp rfl rfl (p_quo rfl rfl rfl (by first | decide | omega)) ?_
    first | refine Dp rfl rfl (p_mul' rfl rfl rfl (by unfold InI; omega)) ?_ | refine Dp rfl rfl (p_mul rfl rfl rfl) ?_
    refine D_wr2 rfl ?_ ?_
    ·refine (.go (E' := [(13, _), (4, _), (2, _)]) rfl (.plain rfl) (w_callM rfl rfl rfl (fun o' => (by repeat first | exact .head | apply SetAt.tail)) (fun w hg => place_c bp bm es1 clk1 t ps k (u + j) hk (by omega) w (hP.good' hg) hc1 (hg.own (bm, _) (by repeat first | exact mH | apply mT)))) rfl ?_)
     rintro _ _ ⟨_, rfl, rfl, es3, clk3, rfl, hc3⟩
     refine ⟨(.cons rfl (.plain rfl) (r_loadB ag3 rfl rfl (own_cell hbp _) (by simp only [Vc.add_block, List.mem_singleton]; assumption)) (.cons rfl (.plain rfl) (rl ag3 rfl rfl rfl) (.cons rfl (.plain rfl) (rl ag3 rfl rfl rfl) .nil))), ?_⟩
     refine D_wr (.go (E' := [(13, _), (4, _), (2, _)]) rfl (.plain rfl) (w_alloc zr148 rfl) rfl ?_)
     rintro _ _ ⟨b3, hb3, rfl, rfl⟩
     refine ⟨(.cons rfl (.plain rfl) (r_loadB ag3 rfl rfl (own_cell hbp _) (by simp only [Vc.add_block, List.mem_singleton]; assumption)) (.cons rfl (.plain rfl) (rl ag3 rfl rfl rfl) (.cons rfl (.plain rfl) (rl ag3 rfl rfl rfl) .nil))), ?_⟩
     refine D_wr (.go (E' := []) rfl (.plain rfl) (ws (cs' := [_, _]) sz148 rfl rfl rfl rfl rfl rfl rfl) rfl ?_)
     rintro _ _ ⟨rfl, rfl⟩
     refine ⟨.nil, ?_⟩
     refine Dp rfl rfl (p_assign rfl rfl) ?_
     refine D_then (kp [0, 3, 4, 6, 7, 8, 11, 12] rfl) ?_
     refine ⟨(b3, es3, clk3), hc3, (.cons rfl (.cons rfl (.cons rfl (.cons rfl (.cons rfl (.cons rfl (.cons rfl (.cons rfl (.nil _))))))))), (by (try dsimp only); repeat (first | exact HSub.nil _ | refine HSub.take (by repeat first | exact Take.head | apply Take.tail) ?_ | exact HSub.refl _ | refine HSub.drop ?_ | refine HSub.app ?_)), rfl⟩
    refine (.go (E' := [(13, _), (4, _), (2, _)]) rfl (.plain rfl) (w_alloc zr148 rfl) rfl ?_)
    rintro _ _ ⟨b3, hb3, rfl, rfl⟩
    refine ⟨(.cons rfl (.plain rfl) (r_loadB ag3 rfl rfl (own_cell hbp _) (by simp only [Vc.add_block, List.mem_singleton]; assumption)) (.cons rfl (.plain rfl) (rl ag3 rfl rfl rfl) (.cons rfl (.plain rfl) (rl ag3 rfl rfl rfl) .nil))), ?_⟩
    refine D_wr (.go (E' := [(13, _), (4, _), (2, _)]) rfl (.plain rfl) (w_callM rfl rfl rfl (fun o' => (by repeat first | exact .head | apply SetAt.tail)) (fun w hg => place_c bp bm es1 clk1 t ps k (u + j) hk (by omega) w (hP.good' hg) hc1 (hg.own (bm, _) (by repeat first | exact mH | apply mT)))) rfl ?_)
    rintro _ _ ⟨_, rfl, rfl, es3, clk3, rfl, hc3⟩
    refine ⟨(.cons rfl (.plain rfl) (r_loadB ag3 rfl rfl (own_cell hbp _) (by simp only [Vc.add_block, List.mem_singleton]; assumption)) (.cons rfl (.plain rfl) (rl ag3 rfl rfl rfl) (.cons rfl (.plain rfl) (rl ag3 rfl rfl rfl) .nil))), ?_⟩
    refine D_wr (.go (E' := []) rfl (.plain rfl) (ws (cs' := [_, _]) sz148 rfl rfl rfl rfl rfl rfl rfl) rfl ?_)
    rintro _ _ ⟨rfl, rfl⟩
    refine ⟨.nil, ?_⟩
    refine Dp rfl rfl (p_assign rfl rfl) ?_
    refine D_then (kp [0, 3, 4, 6, 7, 8, 11, 12] rfl) ?_
    refine ⟨(b3, es3, clk3), hc3, (.cons rfl (.cons rfl (.cons rfl (.cons rfl (.cons rfl (.cons rfl (.cons rfl (.cons rfl (.nil _))))))))), (by (try dsimp only); repeat (first | exact HSub.nil _ | refine HSub.take (by repeat first | exact Take.head | apply Take.tail) ?_ | exact HSub.refl _ | refine HSub.drop ?_ | refine HSub.app ?_)), rfl⟩
   rintro ⟨x11, es3, clk3⟩ hc3
   refine V_seq ?_
   refine Vs rfl ?_
   refine Lc rfl rfl rfl rfl (fun w hg => empty_c x11 _ _ 148 w (hg.own (x11, _) (by repeat first | exact mH | apply mT))) ?_
   refine L_then (kp [0, 3, 4, 6, 7, 8, 11, 12, 128] rfl) ?_
   refine V_cond rfl ?_ ?_
   ·intro c8; try simp only [td] at c8
    refine Vs rfl ?_
    refine Lr rfl (rlA (vs := [_, _]) ag148 sz148 rfl rfl rfl) ?_
    refine Ls (cs' := [_, _]) rfl sz148 rfl rfl rfl rfl rfl rfl rfl ?_
    refine La rfl rfl rfl ?_
    refine L_then (kp [4, 5] rfl) ?_
    refine V_ret (then_r (blk_r (then_r (then_r (blk_r (then_r ?_))))))
    refine Leave.nil (.cellA (us := [_, _]) rfl ag148 sz148 (by repeat first | exact mH | apply mT) rfl (.tmp rfl .nil)) ?_
    exact ⟨_, (by repeat first | exact mH | apply mT), ⟨_, _, false, rfl, .inr ⟨rfl, fastT_none2 (by omega) ⟨by omega, by omega⟩ hN (fastB_skip (by omega)) (fastF_none (by omega) c8)⟩⟩, _, _, rfl, hc3⟩
   intro c8; try simp only [td] at c8
   refine V_skip (then_n ?_)
   refine V_region rfl ?_
   refine Lp rfl (p_fieldo fo148_0 rfl rfl) ?_
   refine Lp rfl (p_fieldo fo24_0 rfl rfl) ?_
   refine Lr rfl (rl ag3 rfl rfl rfl) ?_
   refine Lp rfl (p_fieldo fo148_0 rfl rfl) ?_
   refine Lp rfl (p_fieldo fo24_1 rfl rfl) ?_
   refine Lr rfl (rl ag3 rfl rfl rfl) ?_
   first | refine Lp rfl (p_sub' rfl rfl rfl (by unfold InI; omega)) ?_ | refine Lp rfl (p_sub rfl rfl rfl) ?_
   refine Lm rfl rfl rfl ?_
   first | refine Lp rfl (p_sub' rfl rfl rfl (by unfold InI; omega)) ?_ | refine Lp rfl (p_sub rfl rfl rfl) ?_
   refine Lp rfl (p_fieldo fo148_0 rfl rfl) ?_
   refine Lp rfl (p_fieldo fo24_1 rfl rfl) ?_
   refine Lr rfl (rl ag3 rfl rfl rfl) ?_
   refine Lp rfl (p_fieldo fo148_0 rfl rfl) ?_
   refine Lp rfl (p_fieldo fo24_0 rfl rfl) ?_
   refine Lr rfl (rl ag3 rfl rfl rfl) ?_
   first | refine Lp rfl (p_sub' rfl rfl rfl (by unfold InI; omega)) ?_ | refine Lp rfl (p_sub rfl rfl rfl) ?_
   refine Lm rfl rfl rfl ?_
   first | refine Lp rfl (p_add' rfl rfl rfl (by unfold InI; omega)) ?_ | refine Lp rfl (p_add rfl rfl rfl) ?_
   refine Lm rfl rfl rfl ?_
   refine Lw rfl (w_callM rfl rfl rfl (fun o' => (by repeat first | exact .head | apply SetAt.tail)) (fun w hg => gone_c x6 s.lo s.hi 148 _ _ _ (by omega) (by omega) (by omega) w (hg.own (x6, _) (by repeat first | exact mH | apply mT)))) ?_
   rintro _ _ ⟨_, rfl, rfl, rfl⟩
   refine L_keep (kp [0, 3, 4, 6, 7, 8] rfl) (blk_n (then_n ?_))
   refine V_region rfl ?_
   refine Lm rfl rfl rfl ?_
   first | refine Lp rfl (p_add' rfl rfl rfl (by unfold InI; omega)) ?_ | refine Lp rfl (p_add rfl rfl rfl) ?_
   refine La rfl rfl rfl ?_
   refine L_keep (kp [0, 3, 4, 6, 7, 8] rfl) (then_n ?_)
   refine ⟨(j + 1, sF t ps k u j s, es3, clk3), ?_, ?_, (.cons rfl (.cons rfl (.cons rfl (.cons rfl (.cons rfl (.cons rfl (.nil _))))))), (by repeat (first | exact List.Sublist.refl _ | apply List.Sublist.cons_cons | apply List.Sublist.cons | apply List.sublist_append_of_sublist_right)), rfl⟩
   ·exact ⟨by omega, by omega, fastN_go hj0 hN (fastB_skip (by omega)) (fastF_go (by omega) c8), hc3⟩
   dsimp only; omega
  intro c7; try simp only [td] at c7
  refine V_skip (blk_n (then_n ?_))
  refine V_region rfl ?_
  refine Lm rfl rfl rfl ?_
  first | refine Lp rfl (p_add' rfl rfl rfl (by unfold InI; omega)) ?_ | refine Lp rfl (p_add rfl rfl rfl) ?_
  refine La rfl rfl rfl ?_
  refine L_keep (kp [0, 3, 4, 6, 7, 8] rfl) (then_n ?_)
  refine ⟨(j + 1, s, es1, clk1), ?_, ?_, (.cons rfl (.cons rfl (.cons rfl (.cons rfl (.cons rfl (.cons rfl (.nil _))))))), (by repeat (first | exact List.Sublist.refl _ | apply List.Sublist.cons_cons | apply List.Sublist.cons | apply List.sublist_append_of_sublist_right)), rfl⟩
  ·exact ⟨by omega, by omega, fastN_go hj0 hN (fastB_skip (by omega)) (fastF_skip (by omega)), hc1⟩
  dsimp only; omega
 intro c2; try simp only [td] at c2
 refine V_exit (then_e (then_e (blk_e rfl (then_n ?_))))
 refine V_seq (V_draw (.rd 0 (.wr 1 [0] (.rd 2 (.wr 3 [2] (.rd 4 .done))))) mixed (by kernel_rfl) rfl ?_)
 refine Dr rfl rfl (rlA (vs := [_, _]) ag148 sz148 rfl rfl rfl) ?_
 refine D_wr (.go (E' := [(0, _)]) rfl (.plain rfl) (w_callP rfl rfl rfl (fun w hg => empty_c x6 _ _ 148 w (hg.own (x6, _) (by repeat first | exact mH | apply mT)))) rfl ?_)
 rintro _ _ ⟨rfl, rfl⟩
 refine ⟨(.cons rfl (.plain rfl) (rlA (vs := [_, _]) ag148 sz148 rfl rfl rfl) .nil), ?_⟩
 refine Dp rfl rfl (p_not rfl rfl) ?_
 refine D_wr (.go (E' := []) rfl (.plain rfl) (ws (cs' := [_, _]) sz148 rfl rfl rfl rfl rfl rfl rfl) rfl ?_)
 rintro _ _ ⟨rfl, rfl⟩
 refine ⟨.nil, ?_⟩
 refine Dp rfl rfl (p_assign rfl rfl) ?_
 refine D_then (kp [4, 5] rfl) ?_
 refine V_ret ?_
 refine Leave.nil (.cellA (us := [_, _]) rfl ag148 sz148 (by repeat first | exact mH | apply mT) rfl (.tmp rfl .nil)) ?_
 have hj9 : j = 9 := by omega
 subst hj9
 refine ⟨_, (by repeat first | exact mH | apply mT), ⟨s.lo, s.hi, !(Span.none s), rfl, ?_⟩, _, _, rfl, hc1⟩
 rw [fastT_end (by omega) hN]
 cases hh : Span.none s
 ·exact .inl ⟨rfl, rfl⟩
 exact .inr ⟨rfl, rfl⟩

end Go.Proofs.YtlcccpeelombbaaGreatDoor

/- YtlcccpeelombbaaGreatDoor: the walk of box. -/
set_option linter.all false
namespace Go.Proofs.YtlcccpeelombbaaGreatDoor
open Go.Vc Go.Tk
set_option maxRecDepth 100000
theorem parts_c (b : Nat) (w : World) : FnP Tryz.prog 54 [.pointer (some ⟨b, 0, none⟩)] w (.agg #[.pointer (some ⟨b, 1, none⟩), .pointer (some ⟨b, 3, none⟩), .pointer (some ⟨b, 5, none⟩), .pointer (some ⟨b, 7, none⟩), .pointer (some ⟨b, 9, none⟩), .pointer (some ⟨b, 11, none⟩)]) := by
 refine fn_pure Tryz.func54 rfl (by kernel_rfl) Tryz.ntmps54 Tryz.results54 rfl ?_
 refine Vs rfl ?_
 refine Lw rfl (w_alloc zr93 rfl) ?_
 rintro _ _ ⟨b1, hb1, rfl, rfl⟩
 refine L_then (kp [0, 2] rfl) ?_
 refine V_seq (V_draw (.rd 0 (.rd 1 (.rd 2 (.rd 3 (.rd 4 (.rd 5 (.rd 6 (.rd 7 (.rd 8 (.rd 9 (.rd 10 (.rd 11 (.rd 12 (.rd 13 (.rd 14 (.rd 15 (.rd 16 (.rd 17 (.rd 18 (.wr 19 [] .done)))))))))))))))))))) mixed (by kernel_rfl) rfl ?_)
 refine Dm rfl rfl rfl rfl ?_
 refine Dp rfl rfl (p_nil rfl rfl) ?_
 refine Dp rfl rfl (p_fieldo fo28_1 rfl rfl) ?_
 refine Dm rfl rfl rfl rfl ?_
 refine Dp rfl rfl (p_nil rfl rfl) ?_
 refine Dp rfl rfl (p_fieldo fo28_2 rfl rfl) ?_
 refine Dm rfl rfl rfl rfl ?_
 refine Dp rfl rfl (p_nil rfl rfl) ?_
 refine Dp rfl rfl (p_fieldo fo28_3 rfl rfl) ?_
 refine Dm rfl rfl rfl rfl ?_
 refine Dp rfl rfl (p_nil rfl rfl) ?_
 refine Dp rfl rfl (p_fieldo fo28_4 rfl rfl) ?_
 refine Dm rfl rfl rfl rfl ?_
 refine Dp rfl rfl (p_nil rfl rfl) ?_
 refine Dp rfl rfl (p_fieldo fo28_5 rfl rfl) ?_
 refine Dm rfl rfl rfl rfl ?_
 refine Dp rfl rfl (p_nil rfl rfl) ?_
 refine Dp rfl rfl (p_fieldo fo28_6 rfl rfl) ?_
 refine Dp rfl rfl (p_buildA (r := [_, _, _, _, _, _]) ar93 zr93 rfl rfl rfl) ?_
 refine D_wr (.go (E' := []) rfl (.plain rfl) (ws (cs' := [_, _, _, _, _, _]) sz93 rfl rfl rfl rfl rfl rfl rfl) rfl ?_)
 rintro _ _ ⟨rfl, rfl⟩
 refine ⟨.nil, ?_⟩
 refine D_then (kp [2] rfl) ?_
 refine V_ret ?_
 refine Leave.nil (.cellA (us := [_, _, _, _, _, _]) rfl ag93 sz93 (by repeat first | exact mH | apply mT) rfl .nil) ?_
 rfl
set_option maxHeartbeats 4000000 in
theorem box_c (bp bm : Nat) (es : Array MapEntry) (clk : Nat) (t : Task) (ps : List Int) (u : Int) (hu : 0 ≤ u ∧ u ≤ 100000) (w : World) (hp : PickR w bp bm (.map (some bm)) t ps) (hc : Cache t ps es) (hb : w.heap[bm]? = some (.map es clk)) : FnC Tryz.prog 114 [.pointer (some ⟨bp, 0, none⟩), .int .i64 u] w fun v w' => ∃ o', Vc.Good w [bm] [(bm, o')] w' ∧ (v = boxV (boxT t ps u) ∧ ∃ es' clk', o' = .map es' clk' ∧ Cache t ps es') := by
 have hP := hp
 obtain ⟨tv, pv, sv, ty, fr, hbp, htr, hpl, hsv⟩ := hp.ex
 obtain ⟨ta, tc, rfl, htc, hte⟩ := htr.ex
 obtain ⟨pa, pc, rfl, hpc, hpe⟩ := hpl.ex
 obtain ⟨sa, sc, rfl, hsc, hse⟩ := hsv.ex
 have hG := hP.good
 obtain ⟨hfrm, hspd, hacc⟩ := hG.nums
 have hne := hP.ne
 have hpsl := hP.psl
 simp only [List.length_map] at hbp htc hpc hsc
 refine fn_mod (b := bm) Tryz.func114 rfl (by kernel_rfl) Tryz.ntmps114 Tryz.results114 rfl hb ?_
 refine Vs rfl ?_
 refine Lw rfl (w_alloc zr28 rfl) ?_
 rintro _ _ ⟨b1, hb1, rfl, rfl⟩
 refine La rfl rfl rfl ?_
 refine L_then (kp [0, 1, 4] rfl) ?_
 refine Vs rfl ?_
 refine Lm rfl rfl rfl ?_
 refine Lp rfl (p_fieldo fo28_0 rfl rfl) ?_
 refine Ls (cs' := [_, _, _, _, _, _, _, _, _, _, _, _, _]) rfl sz3 rfl rfl rfl rfl rfl rfl rfl ?_
 refine L_then (kp [0, 1, 4] rfl) ?_
 refine Vs rfl ?_
 refine Lc rfl rfl rfl rfl (fun w hg => parts_c b1 w) ?_
 refine Lw rfl (w_alloc zr93 rfl) ?_
 rintro _ _ ⟨b2, hb2, rfl, rfl⟩
 refine Ls (cs' := [_, _, _, _, _, _]) rfl sz93 rfl rfl rfl rfl rfl rfl rfl ?_
 refine L_then (kp [0, 1, 4, 6] rfl) ?_
 refine V_seq ?_
 refine Vs rfl ?_
 refine Lm rfl rfl rfl ?_
 refine L_then (kp [0, 1, 4, 6, 15] rfl) ?_
 refine V_block ?_
 refine V_loopU ?_
 refine LU_step ?_
 refine Vs rfl ?_
 refine Lp rfl (p_lss rfl rfl rfl) ?_
 refine L_then (kp [0, 1, 4, 6, 15, 16] rfl) ?_
 refine V_seq ?_
 refine V_cond_t rfl rfl ?_
 refine V_skip (then_n ?_)
 refine V_seq ?_
 refine V_block ?_
 refine Vs rfl ?_
 refine Lm rfl rfl rfl ?_
 refine La rfl rfl rfl ?_
 refine L_then (kp [0, 1, 4, 6, 7, 15] rfl) ?_
 refine Vs rfl ?_
 iterate 2 refine Lm rfl rfl rfl ?_
 refine Lp rfl (p_build (r := [_, _]) pl177 zr177 rfl rfl rfl) ?_
 refine Lw rfl (w_alloc zr177 rfl) ?_
 rintro _ _ ⟨b3, hb3, rfl, rfl⟩
 refine Ls (cs' := [_, _]) rfl sz177 rfl rfl rfl rfl rfl rfl rfl ?_
 refine L_then (kp [0, 1, 4, 6, 7, 8, 15] rfl) ?_
 refine Vs rfl ?_
 refine Lm rfl rfl rfl ?_
 refine Lr rfl (rlA (vs := [_, _]) ag177 sz177 rfl rfl rfl) ?_
 refine Lw rfl (w_callM rfl rfl rfl (fun o' => (by repeat first | exact .head | apply SetAt.tail)) (fun w hg => place_c bp bm es clk t ps _ u (by decide) hu w (hP.good' hg) hc (hg.own (bm, _) (by repeat first | exact mH | apply mT)))) ?_
 rintro _ _ ⟨_, rfl, rfl, ea1, ck1, rfl, ha1⟩
 refine Lw rfl (w_alloc zr148 rfl) ?_
 rintro _ _ ⟨b4, hb4, rfl, rfl⟩
 refine Ls (cs' := [_, _]) rfl sz148 rfl rfl rfl rfl rfl rfl rfl ?_
 refine L_then (kp [0, 1, 4, 6, 7, 8, 9, 15] rfl) ?_
 refine Vs rfl ?_
 refine Lm rfl rfl rfl ?_
 refine Lr rfl (rlA (vs := [_, _]) ag177 sz177 rfl rfl rfl) ?_
 refine Lw rfl (w_callM rfl rfl rfl (fun o' => (by repeat first | exact .head | apply SetAt.tail)) (fun w hg => fast_c bp bm ea1 ck1 t ps _ u (by decide) hu w (hP.good' hg) ha1 (hg.own (bm, _) (by repeat first | exact mH | apply mT)))) ?_
 rintro _ _ ⟨_, rfl, ⟨lo1, hi1, ok1, rfl, hok1⟩, eb1, cl1, rfl, hb1⟩
 refine Lm rfl rfl rfl ?_
 iterate 2 refine Lp rfl (p_ext rfl rfl rfl) ?_
 refine Lw rfl (w_alloc zr148 rfl) ?_
 rintro _ _ ⟨b5, hb5, rfl, rfl⟩
 refine Ls (cs' := [_, _]) rfl sz148 rfl rfl rfl rfl rfl rfl rfl ?_
 refine La rfl rfl rfl ?_
 refine L_then (kp [0, 1, 4, 6, 7, 9, 10, 11, 15] rfl) ?_
 refine V_seq ?_
 refine Vs rfl ?_
 refine Lm rfl rfl rfl ?_
 refine Lp rfl (p_not rfl rfl) ?_
 refine Lm rfl rfl rfl ?_
 refine L_cases (d := 32) rfl ?_ ?_
 ·intro g1; have g1' := g1; try simp only [td] at g1'
  refine L_no rfl rfl rfl g1 ?_
  refine Lp rfl (p_pick_t rfl rfl g1 rfl) ?_
  refine L_then (kp [0, 1, 4, 6, 7, 9, 10, 15, 34] rfl) ?_
  refine V_cond_t rfl rfl ?_
  refine Vs rfl ?_
  refine Lp rfl (p_build (r := [_, _, _, _, _, _, _, _, _, _, _, _, _]) pl28 zr28 rfl rfl rfl) ?_
  refine Ls (cs' := [_, _, _, _, _, _, _, _, _, _, _, _, _]) rfl sz28 rfl rfl rfl rfl rfl rfl rfl ?_
  refine La rfl rfl rfl ?_
  refine L_then (kp [4, 5] rfl) ?_
  refine V_ret (then_r (blk_r (then_r (then_r (blk_r (then_r ?_))))))
  refine Leave.nil (.cellA (us := [_, _, _, _, _, _, _, _, _, _, _, _, _]) rfl ag28 sz28 (by repeat first | exact mH | apply mT) rfl (.tmp rfl .nil)) ?_
  exact ⟨_, (by repeat first | exact mH | apply mT), by rw [boxT_0 (partT_none1 (fv_none hok1 g1'))]; rfl, _, _, rfl, hb1⟩
 intro g1; have g1' := g1; try simp only [td] at g1'
 refine L_yes rfl rfl rfl g1 (X_wr (w_callP rfl rfl rfl (fun w hg => empty_c b4 _ _ 148 w (hg.own (b4, _) (by repeat first | exact mH | apply mT)))) ?_)
 rintro _ _ ⟨rfl, rfl⟩
 refine Lp rfl (p_pick_f rfl rfl g1 rfl) ?_
 refine L_then (kp [0, 1, 4, 6, 7, 9, 10, 15, 34] rfl) ?_
 refine V_cond rfl ?_ ?_
 ·intro c1; try simp only [td] at c1
  refine Vs rfl ?_
  refine Lp rfl (p_build (r := [_, _, _, _, _, _, _, _, _, _, _, _, _]) pl28 zr28 rfl rfl rfl) ?_
  refine Ls (cs' := [_, _, _, _, _, _, _, _, _, _, _, _, _]) rfl sz28 rfl rfl rfl rfl rfl rfl rfl ?_
  refine La rfl rfl rfl ?_
  refine L_then (kp [4, 5] rfl) ?_
  refine V_ret (then_r (blk_r (then_r (then_r (blk_r (then_r ?_))))))
  refine Leave.nil (.cellA (us := [_, _, _, _, _, _, _, _, _, _, _, _, _]) rfl ag28 sz28 (by repeat first | exact mH | apply mT) rfl (.tmp rfl .nil)) ?_
  exact ⟨_, (by repeat first | exact mH | apply mT), by rw [boxT_0 (partT_none2 c1)]; rfl, _, _, rfl, hb1⟩
 intro c1; try simp only [td] at c1
 refine V_skip (then_n ?_)
 refine V_draw (.rd 0 (.rd 1 (.rd 2 (.rd 3 (.rd 4 (.rd 5 (.rd 6 (.rd 7 (.rd 8 (.rd 9 (.rd 10 (.rd 11 (.wr 12 [10, 9, 6, 5, 4, 3] (.rd 13 (.wr 14 [] .done))))))))))))))) mixed (by kernel_rfl) rfl ?_
 refine Dm rfl rfl rfl rfl ?_
 refine Dp rfl rfl (p_idxao ar93 rfl rfl rfl (by omega) (by omega)) ?_
 refine Dr rfl rfl (rl ag92 rfl rfl rfl) ?_
 refine Dm rfl rfl rfl rfl ?_
 first | refine Dp rfl rfl (p_add' rfl rfl rfl (by unfold InI; omega)) ?_ | refine Dp rfl rfl (p_add rfl rfl rfl) ?_
 refine Dp rfl rfl (p_idxao ar93 rfl rfl rfl (by omega) (by omega)) ?_
 refine Dr rfl rfl (rl ag92 rfl rfl rfl) ?_
 refine Dp rfl rfl (p_fieldo fo148_0 rfl rfl) ?_
 refine Dr rfl rfl (rlA (vs := [_, _]) ag24 sz24 rfl rfl rfl) ?_
 refine Dp rfl rfl (p_fieldo fo148_0 rfl rfl) ?_
 refine Dr rfl rfl (rlA (vs := [_, _]) ag24 sz24 rfl rfl rfl) ?_
 refine Dp rfl rfl (p_nil rfl rfl) ?_
 refine D_wr (.go (E' := [(10, _), (6, _)]) rfl (.plain rfl) (ws (cs' := [_, _, _, _, _, _, _, _, _, _, _, _, _]) sz24 rfl rfl rfl rfl rfl rfl rfl) rfl ?_)
 rintro _ _ ⟨rfl, rfl⟩
 refine ⟨(.cons rfl (.plain rfl) (rlA (vs := [_, _]) ag24 sz24 rfl rfl rfl) (.cons rfl (.plain rfl) (rl ag92 rfl rfl rfl) .nil)), ?_⟩
 refine Dp rfl rfl (p_nil rfl rfl) ?_
 refine D_wr (.go (E' := []) rfl (.plain rfl) (ws (cs' := [_, _, _, _, _, _, _, _, _, _, _, _, _]) sz24 rfl rfl rfl rfl rfl rfl rfl) rfl ?_)
 rintro _ _ ⟨rfl, rfl⟩
 refine ⟨.nil, ?_⟩
 refine D_keep (kp [0, 1, 4, 6, 15] rfl) (blk_n (then_n ?_))
 refine V_region rfl ?_
 first | refine Lp rfl (p_add' rfl rfl rfl (by unfold InI; omega)) ?_ | refine Lp rfl (p_add rfl rfl rfl) ?_
 refine Lm rfl rfl rfl ?_
 refine L_keep (kp [0, 1, 4, 6, 15] rfl) (then_n ?_)
 refine LU_step ?_
 refine Vs rfl ?_
 refine Lp rfl (p_lss rfl rfl rfl) ?_
 refine L_then (kp [0, 1, 4, 6, 15, 16] rfl) ?_
 refine V_seq ?_
 refine V_cond_t rfl rfl ?_
 refine V_skip (then_n ?_)
 refine V_seq ?_
 refine V_block ?_
 refine Vs rfl ?_
 refine Lm rfl rfl rfl ?_
 refine La rfl rfl rfl ?_
 refine L_then (kp [0, 1, 4, 6, 7, 15] rfl) ?_
 refine Vs rfl ?_
 iterate 2 refine Lm rfl rfl rfl ?_
 refine Lp rfl (p_build (r := [_, _]) pl177 zr177 rfl rfl rfl) ?_
 refine Lw rfl (w_alloc zr177 rfl) ?_
 rintro _ _ ⟨b6, hb6, rfl, rfl⟩
 refine Ls (cs' := [_, _]) rfl sz177 rfl rfl rfl rfl rfl rfl rfl ?_
 refine L_then (kp [0, 1, 4, 6, 7, 8, 15] rfl) ?_
 refine Vs rfl ?_
 refine Lm rfl rfl rfl ?_
 refine Lr rfl (rlA (vs := [_, _]) ag177 sz177 rfl rfl rfl) ?_
 refine Lw rfl (w_callM rfl rfl rfl (fun o' => (by repeat first | exact .head | apply SetAt.tail)) (fun w hg => place_c bp bm eb1 cl1 t ps _ u (by decide) hu w (hP.good' hg) hb1 (hg.own (bm, _) (by repeat first | exact mH | apply mT)))) ?_
 rintro _ _ ⟨_, rfl, rfl, ea2, ck2, rfl, ha2⟩
 refine Lw rfl (w_alloc zr148 rfl) ?_
 rintro _ _ ⟨b7, hb7, rfl, rfl⟩
 refine Ls (cs' := [_, _]) rfl sz148 rfl rfl rfl rfl rfl rfl rfl ?_
 refine L_then (kp [0, 1, 4, 6, 7, 8, 9, 15] rfl) ?_
 refine Vs rfl ?_
 refine Lm rfl rfl rfl ?_
 refine Lr rfl (rlA (vs := [_, _]) ag177 sz177 rfl rfl rfl) ?_
 refine Lw rfl (w_callM rfl rfl rfl (fun o' => (by repeat first | exact .head | apply SetAt.tail)) (fun w hg => fast_c bp bm ea2 ck2 t ps _ u (by decide) hu w (hP.good' hg) ha2 (hg.own (bm, _) (by repeat first | exact mH | apply mT)))) ?_
 rintro _ _ ⟨_, rfl, ⟨lo2, hi2, ok2, rfl, hok2⟩, eb2, cl2, rfl, hb2⟩
 refine Lm rfl rfl rfl ?_
 iterate 2 refine Lp rfl (p_ext rfl rfl rfl) ?_
 refine Lw rfl (w_alloc zr148 rfl) ?_
 rintro _ _ ⟨b8, hb8, rfl, rfl⟩
 refine Ls (cs' := [_, _]) rfl sz148 rfl rfl rfl rfl rfl rfl rfl ?_
 refine La rfl rfl rfl ?_
 refine L_then (kp [0, 1, 4, 6, 7, 9, 10, 11, 15] rfl) ?_
 refine V_seq ?_
 refine Vs rfl ?_
 refine Lm rfl rfl rfl ?_
 refine Lp rfl (p_not rfl rfl) ?_
 refine Lm rfl rfl rfl ?_
 refine L_cases (d := 32) rfl ?_ ?_
 ·intro g2; have g2' := g2; try simp only [td] at g2'
  refine L_no rfl rfl rfl g2 ?_
  refine Lp rfl (p_pick_t rfl rfl g2 rfl) ?_
  refine L_then (kp [0, 1, 4, 6, 7, 9, 10, 15, 34] rfl) ?_
  refine V_cond_t rfl rfl ?_
  refine Vs rfl ?_
  refine Lp rfl (p_build (r := [_, _, _, _, _, _, _, _, _, _, _, _, _]) pl28 zr28 rfl rfl rfl) ?_
  refine Ls (cs' := [_, _, _, _, _, _, _, _, _, _, _, _, _]) rfl sz28 rfl rfl rfl rfl rfl rfl rfl ?_
  refine La rfl rfl rfl ?_
  refine L_then (kp [4, 5] rfl) ?_
  refine V_ret (then_r (blk_r (then_r (then_r (blk_r (then_r ?_))))))
  refine Leave.nil (.cellA (us := [_, _, _, _, _, _, _, _, _, _, _, _, _]) rfl ag28 sz28 (by repeat first | exact mH | apply mT) rfl (.tmp rfl .nil)) ?_
  exact ⟨_, (by repeat first | exact mH | apply mT), by rw [boxT_1 (partT_some (fv_some hok1 g1') c1) (partT_none1 (fv_none hok2 g2'))]; rfl, _, _, rfl, hb2⟩
 intro g2; have g2' := g2; try simp only [td] at g2'
 refine L_yes rfl rfl rfl g2 (X_wr (w_callP rfl rfl rfl (fun w hg => empty_c b7 _ _ 148 w (hg.own (b7, _) (by repeat first | exact mH | apply mT)))) ?_)
 rintro _ _ ⟨rfl, rfl⟩
 refine Lp rfl (p_pick_f rfl rfl g2 rfl) ?_
 refine L_then (kp [0, 1, 4, 6, 7, 9, 10, 15, 34] rfl) ?_
 refine V_cond rfl ?_ ?_
 ·intro c2; try simp only [td] at c2
  refine Vs rfl ?_
  refine Lp rfl (p_build (r := [_, _, _, _, _, _, _, _, _, _, _, _, _]) pl28 zr28 rfl rfl rfl) ?_
  refine Ls (cs' := [_, _, _, _, _, _, _, _, _, _, _, _, _]) rfl sz28 rfl rfl rfl rfl rfl rfl rfl ?_
  refine La rfl rfl rfl ?_
  refine L_then (kp [4, 5] rfl) ?_
  refine V_ret (then_r (blk_r (then_r (then_r (blk_r (then_r ?_))))))
  refine Leave.nil (.cellA (us := [_, _, _, _, _, _, _, _, _, _, _, _, _]) rfl ag28 sz28 (by repeat first | exact mH | apply mT) rfl (.tmp rfl .nil)) ?_
  exact ⟨_, (by repeat first | exact mH | apply mT), by rw [boxT_1 (partT_some (fv_some hok1 g1') c1) (partT_none2 c2)]; rfl, _, _, rfl, hb2⟩
 intro c2; try simp only [td] at c2
 refine V_skip (then_n ?_)
 refine V_draw (.rd 0 (.rd 1 (.rd 2 (.rd 3 (.rd 4 (.rd 5 (.rd 6 (.rd 7 (.rd 8 (.rd 9 (.rd 10 (.rd 11 (.wr 12 [10, 9, 6, 5, 4, 3] (.rd 13 (.wr 14 [] .done))))))))))))))) mixed (by kernel_rfl) rfl ?_
 refine Dm rfl rfl rfl rfl ?_
 refine Dp rfl rfl (p_idxao ar93 rfl rfl rfl (by omega) (by omega)) ?_
 refine Dr rfl rfl (rl ag92 rfl rfl rfl) ?_
 refine Dm rfl rfl rfl rfl ?_
 first | refine Dp rfl rfl (p_add' rfl rfl rfl (by unfold InI; omega)) ?_ | refine Dp rfl rfl (p_add rfl rfl rfl) ?_
 refine Dp rfl rfl (p_idxao ar93 rfl rfl rfl (by omega) (by omega)) ?_
 refine Dr rfl rfl (rl ag92 rfl rfl rfl) ?_
 refine Dp rfl rfl (p_fieldo fo148_0 rfl rfl) ?_
 refine Dr rfl rfl (rlA (vs := [_, _]) ag24 sz24 rfl rfl rfl) ?_
 refine Dp rfl rfl (p_fieldo fo148_0 rfl rfl) ?_
 refine Dr rfl rfl (rlA (vs := [_, _]) ag24 sz24 rfl rfl rfl) ?_
 refine Dp rfl rfl (p_nil rfl rfl) ?_
 refine D_wr (.go (E' := [(10, _), (6, _)]) rfl (.plain rfl) (ws (cs' := [_, _, _, _, _, _, _, _, _, _, _, _, _]) sz24 rfl rfl rfl rfl rfl rfl rfl) rfl ?_)
 rintro _ _ ⟨rfl, rfl⟩
 refine ⟨(.cons rfl (.plain rfl) (rlA (vs := [_, _]) ag24 sz24 rfl rfl rfl) (.cons rfl (.plain rfl) (rl ag92 rfl rfl rfl) .nil)), ?_⟩
 refine Dp rfl rfl (p_nil rfl rfl) ?_
 refine D_wr (.go (E' := []) rfl (.plain rfl) (ws (cs' := [_, _, _, _, _, _, _, _, _, _, _, _, _]) sz24 rfl rfl rfl rfl rfl rfl rfl) rfl ?_)
 rintro _ _ ⟨rfl, rfl⟩
 refine ⟨.nil, ?_⟩
 refine D_keep (kp [0, 1, 4, 6, 15] rfl) (blk_n (then_n ?_))
 refine V_region rfl ?_
 first | refine Lp rfl (p_add' rfl rfl rfl (by unfold InI; omega)) ?_ | refine Lp rfl (p_add rfl rfl rfl) ?_
 refine Lm rfl rfl rfl ?_
 refine L_keep (kp [0, 1, 4, 6, 15] rfl) (then_n ?_)
 refine LU_step ?_
 refine Vs rfl ?_
 refine Lp rfl (p_lss rfl rfl rfl) ?_
 refine L_then (kp [0, 1, 4, 6, 15, 16] rfl) ?_
 refine V_seq ?_
 refine V_cond_t rfl rfl ?_
 refine V_skip (then_n ?_)
 refine V_seq ?_
 refine V_block ?_
 refine Vs rfl ?_
 refine Lm rfl rfl rfl ?_
 refine La rfl rfl rfl ?_
 refine L_then (kp [0, 1, 4, 6, 7, 15] rfl) ?_
 refine Vs rfl ?_
 iterate 2 refine Lm rfl rfl rfl ?_
 refine Lp rfl (p_build (r := [_, _]) pl177 zr177 rfl rfl rfl) ?_
 refine Lw rfl (w_alloc zr177 rfl) ?_
 rintro _ _ ⟨b9, hb9, rfl, rfl⟩
 refine Ls (cs' := [_, _]) rfl sz177 rfl rfl rfl rfl rfl rfl rfl ?_
 refine L_then (kp [0, 1, 4, 6, 7, 8, 15] rfl) ?_
 refine Vs rfl ?_
 refine Lm rfl rfl rfl ?_
 refine Lr rfl (rlA (vs := [_, _]) ag177 sz177 rfl rfl rfl) ?_
 refine Lw rfl (w_callM rfl rfl rfl (fun o' => (by repeat first | exact .head | apply SetAt.tail)) (fun w hg => place_c bp bm eb2 cl2 t ps _ u (by decide) hu w (hP.good' hg) hb2 (hg.own (bm, _) (by repeat first | exact mH | apply mT)))) ?_
 rintro _ _ ⟨_, rfl, rfl, ea3, ck3, rfl, ha3⟩
 refine Lw rfl (w_alloc zr148 rfl) ?_
 rintro _ _ ⟨b10, hb10, rfl, rfl⟩
 refine Ls (cs' := [_, _]) rfl sz148 rfl rfl rfl rfl rfl rfl rfl ?_
 refine L_then (kp [0, 1, 4, 6, 7, 8, 9, 15] rfl) ?_
 refine Vs rfl ?_
 refine Lm rfl rfl rfl ?_
 refine Lr rfl (rlA (vs := [_, _]) ag177 sz177 rfl rfl rfl) ?_
 refine Lw rfl (w_callM rfl rfl rfl (fun o' => (by repeat first | exact .head | apply SetAt.tail)) (fun w hg => fast_c bp bm ea3 ck3 t ps _ u (by decide) hu w (hP.good' hg) ha3 (hg.own (bm, _) (by repeat first | exact mH | apply mT)))) ?_
 rintro _ _ ⟨_, rfl, ⟨lo3, hi3, ok3, rfl, hok3⟩, eb3, cl3, rfl, hb3⟩
 refine Lm rfl rfl rfl ?_
 iterate 2 refine Lp rfl (p_ext rfl rfl rfl) ?_
 refine Lw rfl (w_alloc zr148 rfl) ?_
 rintro _ _ ⟨b11, hb11, rfl, rfl⟩
 refine Ls (cs' := [_, _]) rfl sz148 rfl rfl rfl rfl rfl rfl rfl ?_
 refine La rfl rfl rfl ?_
 refine L_then (kp [0, 1, 4, 6, 7, 9, 10, 11, 15] rfl) ?_
 refine V_seq ?_
 refine Vs rfl ?_
 refine Lm rfl rfl rfl ?_
 refine Lp rfl (p_not rfl rfl) ?_
 refine Lm rfl rfl rfl ?_
 refine L_cases (d := 32) rfl ?_ ?_
 ·intro g3; have g3' := g3; try simp only [td] at g3'
  refine L_no rfl rfl rfl g3 ?_
  refine Lp rfl (p_pick_t rfl rfl g3 rfl) ?_
  refine L_then (kp [0, 1, 4, 6, 7, 9, 10, 15, 34] rfl) ?_
  refine V_cond_t rfl rfl ?_
  refine Vs rfl ?_
  refine Lp rfl (p_build (r := [_, _, _, _, _, _, _, _, _, _, _, _, _]) pl28 zr28 rfl rfl rfl) ?_
  refine Ls (cs' := [_, _, _, _, _, _, _, _, _, _, _, _, _]) rfl sz28 rfl rfl rfl rfl rfl rfl rfl ?_
  refine La rfl rfl rfl ?_
  refine L_then (kp [4, 5] rfl) ?_
  refine V_ret (then_r (blk_r (then_r (then_r (blk_r (then_r ?_))))))
  refine Leave.nil (.cellA (us := [_, _, _, _, _, _, _, _, _, _, _, _, _]) rfl ag28 sz28 (by repeat first | exact mH | apply mT) rfl (.tmp rfl .nil)) ?_
  exact ⟨_, (by repeat first | exact mH | apply mT), by rw [boxT_2 (partT_some (fv_some hok1 g1') c1) (partT_some (fv_some hok2 g2') c2) (partT_none1 (fv_none hok3 g3'))]; rfl, _, _, rfl, hb3⟩
 intro g3; have g3' := g3; try simp only [td] at g3'
 refine L_yes rfl rfl rfl g3 (X_wr (w_callP rfl rfl rfl (fun w hg => empty_c b10 _ _ 148 w (hg.own (b10, _) (by repeat first | exact mH | apply mT)))) ?_)
 rintro _ _ ⟨rfl, rfl⟩
 refine Lp rfl (p_pick_f rfl rfl g3 rfl) ?_
 refine L_then (kp [0, 1, 4, 6, 7, 9, 10, 15, 34] rfl) ?_
 refine V_cond rfl ?_ ?_
 ·intro c3; try simp only [td] at c3
  refine Vs rfl ?_
  refine Lp rfl (p_build (r := [_, _, _, _, _, _, _, _, _, _, _, _, _]) pl28 zr28 rfl rfl rfl) ?_
  refine Ls (cs' := [_, _, _, _, _, _, _, _, _, _, _, _, _]) rfl sz28 rfl rfl rfl rfl rfl rfl rfl ?_
  refine La rfl rfl rfl ?_
  refine L_then (kp [4, 5] rfl) ?_
  refine V_ret (then_r (blk_r (then_r (then_r (blk_r (then_r ?_))))))
  refine Leave.nil (.cellA (us := [_, _, _, _, _, _, _, _, _, _, _, _, _]) rfl ag28 sz28 (by repeat first | exact mH | apply mT) rfl (.tmp rfl .nil)) ?_
  exact ⟨_, (by repeat first | exact mH | apply mT), by rw [boxT_2 (partT_some (fv_some hok1 g1') c1) (partT_some (fv_some hok2 g2') c2) (partT_none2 c3)]; rfl, _, _, rfl, hb3⟩
 intro c3; try simp only [td] at c3
 refine V_skip (then_n ?_)
 refine V_draw (.rd 0 (.rd 1 (.rd 2 (.rd 3 (.rd 4 (.rd 5 (.rd 6 (.rd 7 (.rd 8 (.rd 9 (.rd 10 (.rd 11 (.wr 12 [10, 9, 6, 5, 4, 3] (.rd 13 (.wr 14 [] .done))))))))))))))) mixed (by kernel_rfl) rfl ?_
 refine Dm rfl rfl rfl rfl ?_
 refine Dp rfl rfl (p_idxao ar93 rfl rfl rfl (by omega) (by omega)) ?_
 refine Dr rfl rfl (rl ag92 rfl rfl rfl) ?_
 refine Dm rfl rfl rfl rfl ?_
 first | refine Dp rfl rfl (p_add' rfl rfl rfl (by unfold InI; omega)) ?_ | refine Dp rfl rfl (p_add rfl rfl rfl) ?_
 refine Dp rfl rfl (p_idxao ar93 rfl rfl rfl (by omega) (by omega)) ?_
 refine Dr rfl rfl (rl ag92 rfl rfl rfl) ?_
 refine Dp rfl rfl (p_fieldo fo148_0 rfl rfl) ?_
 refine Dr rfl rfl (rlA (vs := [_, _]) ag24 sz24 rfl rfl rfl) ?_
 refine Dp rfl rfl (p_fieldo fo148_0 rfl rfl) ?_
 refine Dr rfl rfl (rlA (vs := [_, _]) ag24 sz24 rfl rfl rfl) ?_
 refine Dp rfl rfl (p_nil rfl rfl) ?_
 refine D_wr (.go (E' := [(10, _), (6, _)]) rfl (.plain rfl) (ws (cs' := [_, _, _, _, _, _, _, _, _, _, _, _, _]) sz24 rfl rfl rfl rfl rfl rfl rfl) rfl ?_)
 rintro _ _ ⟨rfl, rfl⟩
 refine ⟨(.cons rfl (.plain rfl) (rlA (vs := [_, _]) ag24 sz24 rfl rfl rfl) (.cons rfl (.plain rfl) (rl ag92 rfl rfl rfl) .nil)), ?_⟩
 refine Dp rfl rfl (p_nil rfl rfl) ?_
 refine D_wr (.go (E' := []) rfl (.plain rfl) (ws (cs' := [_, _, _, _, _, _, _, _, _, _, _, _, _]) sz24 rfl rfl rfl rfl rfl rfl rfl) rfl ?_)
 rintro _ _ ⟨rfl, rfl⟩
 refine ⟨.nil, ?_⟩
 refine D_keep (kp [0, 1, 4, 6, 15] rfl) (blk_n (then_n ?_))
 refine V_region rfl ?_
 first | refine Lp rfl (p_add' rfl rfl rfl (by unfold InI; omega)) ?_ | refine Lp rfl (p_add rfl rfl rfl) ?_
 refine Lm rfl rfl rfl ?_
 refine L_keep (kp [0, 1, 4, 6, 15] rfl) (then_n ?_)
 refine LU_step ?_
 refine Vs rfl ?_
 refine Lp rfl (p_lss rfl rfl rfl) ?_
 refine L_then (kp [0, 1, 4, 6, 15, 16] rfl) ?_
 refine V_seq ?_
 refine V_cond_f rfl rfl ?_
 refine V_exit (then_e (then_e (blk_e rfl (then_n ?_))))
 refine Vs rfl ?_
 refine Lr rfl (rlA (vs := [_, _, _, _, _, _, _, _, _, _, _, _, _]) ag28 sz28 rfl rfl rfl) ?_
 refine Ls (cs' := [_, _, _, _, _, _, _, _, _, _, _, _, _]) rfl sz28 rfl rfl rfl rfl rfl rfl rfl ?_
 refine La rfl rfl rfl ?_
 refine L_then (kp [4, 5] rfl) ?_
 refine V_ret ?_
 refine Leave.nil (.cellA (us := [_, _, _, _, _, _, _, _, _, _, _, _, _]) rfl ag28 sz28 (by repeat first | exact mH | apply mT) rfl (.tmp rfl .nil)) ?_
 exact ⟨_, (by repeat first | exact mH | apply mT), by rw [boxT_3 (partT_some (fv_some hok1 g1') c1) (partT_some (fv_some hok2 g2') c2) (partT_some (fv_some hok3 g3') c3)]; rfl, _, _, rfl, hb3⟩

end Go.Proofs.YtlcccpeelombbaaGreatDoor

/- YtlcccpeelombbaaGreatDoor: what is done with boxes. -/
set_option linter.all false
namespace Go.Proofs.YtlcccpeelombbaaGreatDoor
open Go.Vc Go.Tk
set_option maxRecDepth 100000
theorem found_c (o : Option Box) (w : World) : FnP Tryz.prog 99 [.agg (Box.cells (o.getD boxZ)).toArray, .bool o.isSome] w (foundT o) := by
 refine fn_pure Tryz.func99 rfl (by kernel_rfl) Tryz.ntmps99 Tryz.results99 rfl ?_
 refine Vs rfl ?_
 refine Lw rfl (w_box rfl rfl) ?_
 rintro _ _ ⟨b1, hb1, rfl, rfl⟩
 refine Lw rfl (w_alloc zr28 rfl) ?_
 rintro _ _ ⟨b2, hb2, rfl, rfl⟩
 refine La rfl rfl rfl ?_
 refine L_then (kp [1, 2, 4] rfl) ?_
 refine V_seq ?_
 refine Vs rfl ?_
 refine Lm rfl rfl rfl ?_
 refine Lp rfl (p_not rfl rfl) ?_
 refine L_then (kp [2, 4, 7] rfl) ?_
 refine V_cond rfl ?_ ?_
 ·intro c1; try simp only [td] at c1
  refine Vs rfl ?_
  refine Lp rfl (p_build (r := [_, _, _, _, _, _, _, _, _, _, _, _, _]) pl28 zr28 rfl rfl rfl) ?_
  refine Ls (cs' := [_, _, _, _, _, _, _, _, _, _, _, _, _]) rfl sz28 rfl rfl rfl rfl rfl rfl rfl ?_
  refine La rfl rfl rfl ?_
  refine L_then (kp [4, 5] rfl) ?_
  refine V_ret (then_r ?_)
  refine Leave.nil (.cellA (us := [_, _, _, _, _, _, _, _, _, _, _, _, _]) rfl ag28 sz28 (by repeat first | exact mH | apply mT) rfl (.tmp rfl .nil)) ?_
  rw [foundT, isSome_none c1]; rfl
 intro c1; try simp only [td] at c1
 refine V_skip (then_n ?_)
 refine Vs rfl ?_
 refine Lr rfl (rlA (vs := [_, _, _, _, _, _, _, _, _, _, _, _, _]) ag28 sz28 rfl rfl rfl) ?_
 refine Ls (cs' := [_, _, _, _, _, _, _, _, _, _, _, _, _]) rfl sz28 rfl rfl rfl rfl rfl rfl rfl ?_
 refine La rfl rfl rfl ?_
 refine L_then (kp [4, 5] rfl) ?_
 refine V_ret ?_
 refine Leave.nil (.cellA (us := [_, _, _, _, _, _, _, _, _, _, _, _, _]) rfl ag28 sz28 (by repeat first | exact mH | apply mT) rfl (.tmp rfl .nil)) ?_
 rw [foundT, c1]; rfl

end Go.Proofs.YtlcccpeelombbaaGreatDoor

/- YtlcccpeelombbaaGreatDoor: what is known; picks are made. -/
set_option linter.all false
namespace Go.Proofs.YtlcccpeelombbaaGreatDoor
open Go.Vc Go.Tk
set_option maxRecDepth 100000
theorem known_c (bp : Nat) (now : Int) (w : World) : FnC Tryz.prog 122 [.pointer (some ⟨bp, 0, none⟩), .int .i64 now] w fun v w' => ∃ Hc, Vc.Good w [] Hc w' ∧ ∃ c1 c2, v = .func (.func 131) #[] #[.pointer (some ⟨c1, 0, none⟩), .pointer (some ⟨c2, 0, none⟩)] ∧ Hc = [(c2, .cells #[.int .i64 now] 3), (c1, .cells #[.pointer (some ⟨bp, 0, none⟩)] 159)] := by
 refine fn_new Tryz.func122 rfl (by kernel_rfl) Tryz.ntmps122 Tryz.results122 rfl ?_
 refine Vs rfl ?_
 refine Lw rfl (w_box rfl rfl) ?_
 rintro _ _ ⟨b1, hb1, rfl, rfl⟩
 refine Lw rfl (w_box rfl rfl) ?_
 rintro _ _ ⟨b2, hb2, rfl, rfl⟩
 refine La rfl rfl rfl ?_
 refine L_then (kp [2, 3] rfl) ?_
 refine Vs rfl ?_
 refine Lp rfl (p_func rfl rfl rfl) ?_
 refine La rfl rfl rfl ?_
 refine L_then (kp [4] rfl) ?_
 refine V_ret ?_
 refine Leave.nil (.tmp rfl .nil) ?_
 exact ⟨_, HSub.refl _, _, _, rfl, rfl⟩
theorem known1_c (t : Task) (hG : GoodT t) (now : Int) (w0 : World) (l bp c1 c2 : Nat) (ta pa : Option Addr) (tc pc : Nat) (I : List (List Value) → Heap → Prop) (htr : SliceR w0 6 (.slice ta t.trackers.length tc) (t.trackers.map Tracker.cells)) (hpl : SliceR w0 5 (.slice pa t.plots.length pc) (t.plots.map Plot.cells)) (hY : RoundOk Tryz.prog w0 [] l (fun done x => done.length < t.plots.length ∧ ∃ i : Int, 0 ≤ i ∧ i < t.plots.length ∧ x = [.int .i64 i]) I) (hI : ∀ done Hs, I done Hs → (c1, Obj.cells #[.pointer (some ⟨bp, 0, none⟩)] 159) ∈ Hs ∧ (c2, Obj.cells #[.int .i64 now] 3) ∈ Hs ∧ ∃ sv mv, (bp, Obj.cells #[.int .i64 t.frm, .int .i64 t.speed, .int .i64 t.accel, .slice ta t.trackers.length tc, .slice pa t.plots.length pc, sv, mv] 172) ∈ Hs) (w : World) (Hs0 : Heap) (h0 : I [] Hs0) (hg0 : Vc.Good w0 [] Hs0 w) : FnC Tryz.prog 131 [.func (.yield l) #[] #[], .pointer (some ⟨c1, 0, none⟩), .pointer (some ⟨c2, 0, none⟩)] w fun _ w' => ∃ Hs, Vc.Good w0 [] Hs w' ∧ I (knownV t now t.plots.length) Hs := by
 obtain ⟨_, _, e1, htc, hte⟩ := htr.ex
 injection e1 with e1 _ e1'; subst e1 e1'
 obtain ⟨_, _, e2, hpc, hpe⟩ := hpl.ex
 injection e2 with e2 _ e2'; subst e2 e2'
 simp only [List.length_map] at htc hpc
 have hplen := hG.h2
 obtain ⟨hfrm, hspd, hacc⟩ := hG.nums
 obtain ⟨hm1, hm2, sv, mv, hm3⟩ := hI _ _ h0
 refine fn_over (M := []) (H0 := Hs0) Tryz.func131 rfl (by kernel_rfl) Tryz.ntmps131 Tryz.results131 rfl hg0 ?_
 refine Vs rfl ?_
 refine Lr rfl (r_load ag159 rfl rfl (by repeat first | exact hm1 | exact hm2 | exact hm3 | exact mH | apply mT) rfl) ?_
 refine Ln rfl rfl rfl ?_
 refine Lp rfl (p_fieldo fo172_0 rfl rfl) ?_
 refine Lp rfl (p_fieldo fo39_4 rfl rfl) ?_
 refine Lr rfl (r_load ag37 rfl rfl (by repeat first | exact hm1 | exact hm2 | exact hm3 | exact mH | apply mT) rfl) ?_
 refine Lp rfl (p_len isl37 rfl rfl) ?_
 refine Lm rfl rfl rfl ?_
 refine L_then (kp [0, 1, 2, 10, 11, 12] rfl) ?_
 refine V_block ?_
 refine V_loop1 (γ := Int × Heap) (kp [0, 1, 2, 10, 11] rfl) (fun (k, Hs) => [(12, .int .i64 k)]) (fun (k, Hs) => Hs) (fun (k, Hs) => 0 ≤ k ∧ k ≤ t.plots.length ∧ I (knownV t now k.toNat) Hs) (fun (k, Hs) => (t.plots.length - k).toNat) ((0, Hs0)) (.cons rfl (.nil _)) (by repeat (first | exact List.Sublist.refl _ | apply List.Sublist.cons_cons | apply List.Sublist.cons)) (⟨by omega, by omega, h0⟩) ?_
 rintro ⟨k, Hs⟩ hi
 obtain ⟨hk0, hk1, hik⟩ := hi
 obtain ⟨hm1, hm2, sv, mv, hm3⟩ := hI _ _ hik
 refine Vs rfl ?_
 refine Lp rfl (p_lss rfl rfl rfl) ?_
 refine L_then (kp [0, 1, 2, 10, 11, 12, 13] rfl) ?_
 refine V_seq ?_
 refine V_cond rfl ?_ ?_
 ·intro c1; try simp only [td] at c1
  obtain ⟨pb, rfl, hcp⟩ := hpe k.toNat _ (getD_cells (d := plZ) (by omega))
  have hb := hG.plot (i := k.toNat) (by omega)
  have hb2 := hG.of (i := k.toNat) (by omega)
  obtain ⟨p1, p2, p3, p4, p5, p6⟩ := hb
  obtain ⟨q1, q2, q3, q4, q5⟩ := hb2
  simp only [Task.trOf, Task.pl, Task.tr] at p1 p2 p3 p4 p5 p6 q1 q2 q3 q4 q5
  obtain ⟨tb, rfl, hct⟩ := hte (t.plots.getD k.toNat plZ).tracker.toNat _ (getD_cells (d := trZ) (by omega))
  refine V_skip (then_n ?_)
  refine V_seq ?_
  refine V_block ?_
  refine Vs rfl ?_
  refine Lm rfl rfl rfl ?_
  refine Lp rfl (p_idx es37 rfl rfl rfl (by omega) (by omega)) ?_
  refine Lr rfl (r_loadBA ag138 sz138 rfl rfl hcp rfl List.not_mem_nil) ?_
  refine Lw rfl (w_alloc zr138 rfl) ?_
  rintro _ _ ⟨b1, hb1, rfl, rfl⟩
  refine La rfl rfl rfl ?_
  refine Ls (cs' := [_, _, _, _, _]) rfl sz138 rfl rfl rfl rfl rfl rfl rfl ?_
  refine L_then (kp [0, 1, 2, 4, 5, 10, 11, 12] rfl) ?_
  refine V_seq (V_draw (.rd 0 (.rd 1 (.rd 2 (.rd 3 (.rd 4 (.rd 5 (.rd 6 (.rd 7 (.rd 8 (.rd 9 (.rd 10 (.rd 11 (.rd 12 (.rd 13 (.rd 14 (.rd 15 (.rd 16 (.rd 17 (.wr 18 [14, 13, 12, 11, 10, 9, 8, 7, 6, 5, 4, 3, 2, 1, 0] (.rd 19 (.rd 20 .done))))))))))))))))))))) mixed (by kernel_rfl) rfl ?_)
  refine Dp rfl rfl (p_fieldo fo138_1 rfl rfl) ?_
  refine Dr rfl rfl (r_load ag3 rfl rfl (by repeat first | exact hm1 | exact hm2 | exact hm3 | exact mH | apply mT) rfl) ?_
  refine Dr rfl rfl (r_load ag159 rfl rfl (by repeat first | exact hm1 | exact hm2 | exact hm3 | exact mH | apply mT) rfl) ?_
  refine Dp rfl rfl (p_nil rfl rfl) ?_
  refine Dp rfl rfl (p_fieldo fo172_0 rfl rfl) ?_
  refine Dp rfl rfl (p_fieldo fo39_3 rfl rfl) ?_
  refine Dr rfl rfl (r_load ag36 rfl rfl (by repeat first | exact hm1 | exact hm2 | exact hm3 | exact mH | apply mT) rfl) ?_
  refine Dp rfl rfl (p_fieldo fo138_0 rfl rfl) ?_
  refine Dr rfl rfl (r_load ag3 rfl rfl (by repeat first | exact hm1 | exact hm2 | exact hm3 | exact mH | apply mT) rfl) ?_
  refine Dp rfl rfl (p_idx es36 rfl rfl rfl (by omega) (by omega)) ?_
  refine Dp rfl rfl (p_field fo132_5 rfl rfl) ?_
  refine Dr rfl rfl (r_loadB ag3 rfl rfl (hct 5 _ rfl) List.not_mem_nil) ?_
  first | refine Dp rfl rfl (p_add' rfl rfl rfl (by unfold InI; omega)) ?_ | refine Dp rfl rfl (p_add rfl rfl rfl) ?_
  refine Dr rfl rfl (r_load ag3 rfl rfl (by repeat first | exact hm1 | exact hm2 | exact hm3 | exact mH | apply mT) rfl) ?_
  refine Dp rfl rfl (p_leq rfl rfl rfl) ?_
  refine Dm rfl rfl rfl rfl ?_
  refine D_cases (d := 32) rfl ?_ ?_
  ·intro g1; have g1' := g1; try simp only [td] at g1'
   iterate 2 refine D_p rfl (.yes rfl rfl rfl g1) (p_move rfl rfl) ?_
   refine D_wr (.go (E' := [(13, _), (11, _), (8, _), (6, _), (2, _), (1, _)]) rfl (.yes rfl rfl rfl g1) (w_yield (own := [_]) rfl rfl rfl hY ⟨Nat.lt_of_le_of_lt knownV_len (by omega), k, hk0, by omega, rfl⟩ hik rfl) rfl ?_)
   rintro _ _ ⟨Hs1, rfl, rfl, hI1⟩; obtain ⟨hm1, hm2, sv1, mv1, hm3⟩ := hI _ _ hI1
   refine ⟨(.cons rfl (.plain rfl) (r_load ag3 rfl rfl (by repeat first | exact hm1 | exact hm2 | exact hm3 | exact mH | apply mT) rfl) (.cons rfl (.plain rfl) (r_loadB ag3 rfl rfl (hct 5 _ rfl) List.not_mem_nil) (.cons rfl (.plain rfl) (r_load ag3 rfl rfl (by repeat first | exact hm1 | exact hm2 | exact hm3 | exact mH | apply mT) rfl) (.cons rfl (.plain rfl) (r_load ag36 rfl rfl (by repeat first | exact hm1 | exact hm2 | exact hm3 | exact mH | apply mT) rfl) (.cons rfl (.plain rfl) (r_load ag159 rfl rfl (by repeat first | exact hm1 | exact hm2 | exact hm3 | exact mH | apply mT) rfl) (.cons rfl (.plain rfl) (r_load ag3 rfl rfl (by repeat first | exact hm1 | exact hm2 | exact hm3 | exact mH | apply mT) rfl) .nil)))))), ?_⟩
   refine D_p rfl (.yes rfl rfl rfl g1) (p_not rfl rfl) ?_
   refine Dp rfl rfl (p_pick_t rfl rfl g1 rfl) ?_
   refine D_then (kp [0, 1, 2, 10, 11, 12, 37] rfl) ?_
   refine V_cond_f rfl rfl ?_
   refine V_skip (blk_n (then_n ?_))
   refine V_region rfl ?_
   first | refine Lp rfl (p_add' rfl rfl rfl (by unfold InI; omega)) ?_ | refine Lp rfl (p_add rfl rfl rfl) ?_
   refine Lm rfl rfl rfl ?_
   refine L_keep (kp [0, 1, 2, 10, 11, 12] rfl) (then_n ?_)
   refine ⟨(k + 1, Hs1), ?_, ?_, (.cons rfl (.cons rfl (.cons rfl (.cons rfl (.cons rfl (.cons rfl (.nil _))))))), (by repeat (first | exact List.Sublist.refl _ | apply List.Sublist.cons_cons | apply List.Sublist.cons | apply List.sublist_append_of_sublist_right)), rfl⟩
   ·refine ⟨by omega, by omega, ?_⟩
    have hkb : knownB t now k.toNat = true := by
     exact decide_eq_true g1'
    rw [knownV_yes hk0 hkb]; exact hI1
   dsimp only; omega
  intro g1; have g1' := g1; try simp only [td] at g1'
  iterate 2 refine D_no rfl (.mk' rfl rfl rfl g1) ?_
  refine D_wr (.pass (E' := [(13, _), (11, _), (8, _), (6, _), (2, _), (1, _)]) rfl (.mk' rfl rfl rfl g1) rfl ⟨(.cons rfl (.plain rfl) (r_load ag3 rfl rfl (by repeat first | exact hm1 | exact hm2 | exact hm3 | exact mH | apply mT) rfl) (.cons rfl (.plain rfl) (r_loadB ag3 rfl rfl (hct 5 _ rfl) List.not_mem_nil) (.cons rfl (.plain rfl) (r_load ag3 rfl rfl (by repeat first | exact hm1 | exact hm2 | exact hm3 | exact mH | apply mT) rfl) (.cons rfl (.plain rfl) (r_load ag36 rfl rfl (by repeat first | exact hm1 | exact hm2 | exact hm3 | exact mH | apply mT) rfl) (.cons rfl (.plain rfl) (r_load ag159 rfl rfl (by repeat first | exact hm1 | exact hm2 | exact hm3 | exact mH | apply mT) rfl) (.cons rfl (.plain rfl) (r_load ag3 rfl rfl (by repeat first | exact hm1 | exact hm2 | exact hm3 | exact mH | apply mT) rfl) .nil)))))), ?_⟩)
  refine D_no rfl (.mk' rfl rfl rfl g1) ?_
  refine Dp rfl rfl (p_pick_f rfl rfl g1 rfl) ?_
  refine D_then (kp [0, 1, 2, 10, 11, 12, 37] rfl) ?_
  refine V_cond_f rfl rfl ?_
  refine V_skip (blk_n (then_n ?_))
  refine V_region rfl ?_
  first | refine Lp rfl (p_add' rfl rfl rfl (by unfold InI; omega)) ?_ | refine Lp rfl (p_add rfl rfl rfl) ?_
  refine Lm rfl rfl rfl ?_
  refine L_keep (kp [0, 1, 2, 10, 11, 12] rfl) (then_n ?_)
  refine ⟨(k + 1, Hs), ?_, ?_, (.cons rfl (.cons rfl (.cons rfl (.cons rfl (.cons rfl (.cons rfl (.nil _))))))), (by repeat (first | exact List.Sublist.refl _ | apply List.Sublist.cons_cons | apply List.Sublist.cons | apply List.sublist_append_of_sublist_right)), rfl⟩
  ·refine ⟨by omega, by omega, ?_⟩
   have hkb : knownB t now k.toNat = false := decide_eq_false (Int.not_le.2 g1')
   rw [knownV_no hk0 hkb]; exact hik
  dsimp only; omega
 intro c1; try simp only [td] at c1
 refine V_exit (then_e (then_e (blk_e rfl ?_)))
 refine Leave.nil .nil ?_
 have e : k.toNat = t.plots.length := by omega
 rw [e] at hik
 exact ⟨Hs, HSub.refl _, hik⟩
def PickOut (t : Task) (now : Int) (want : Int → Bool) (tv pv : Value) (u : Value) (A G : Heap) : Prop :=
 ∃ bp bm sv clk, u = .pointer (some ⟨bp, 0, none⟩) ∧ A = [(bp, .cells #[.int .i64 t.frm, .int .i64 t.speed, .int .i64 t.accel, tv, pv, sv, .map (some bm)] 172), (bm, .map #[] clk)] ∧ Grow 3 1 sv (byT t now want).length (iiL (byT t now want)) G
theorem pickOf_c (t : Task) (hG : GoodT t) (tv pv : Value) (now : Int) (want : Int → Bool) (fid : Nat) (cap : Array Value) (w : World) (ht : TaskR w (.agg #[.int .i64 t.frm, .int .i64 t.speed, .int .i64 t.accel, tv, pv]) t) (hf : ∀ x w', Ext w w' → FnP Tryz.prog fid (.int .i64 x :: cap.toList) w' (.bool (want x))) : FnC Tryz.prog 112 [.agg #[.int .i64 t.frm, .int .i64 t.speed, .int .i64 t.accel, tv, pv], .int .i64 now, .func (.func fid) #[] cap] w fun u w' => ∃ Hc, Vc.Good w [] Hc w' ∧ ∃ A G, Hc = A ++ G ∧ PickOut t now want tv pv u A G := by
 have hT := ht
 obtain ⟨_, _, _, htr, hpl⟩ := ht.lit
 obtain ⟨ta, tc, rfl, htc, hte⟩ := htr.ex
 obtain ⟨pa, pc, rfl, hpc, hpe⟩ := hpl.ex
 have hplen := hG.h2
 simp only [List.length_map] at hT htc hpc htr hpl ⊢
 refine fn_new Tryz.func112 rfl (by kernel_rfl) Tryz.ntmps112 Tryz.results112 rfl ?_
 refine Vs rfl ?_
 refine Lw rfl (w_box rfl rfl) ?_
 rintro _ _ ⟨b1, hb1, rfl, rfl⟩
 refine Lw rfl (w_box rfl rfl) ?_
 rintro _ _ ⟨b2, hb2, rfl, rfl⟩
 refine La rfl rfl rfl ?_
 refine L_then (kp [1, 3, 5, 6] rfl) ?_
 refine Vs rfl ?_
 refine Lr rfl (rlA (vs := [_, _, _, _, _]) ag39 sz39 rfl rfl rfl) ?_
 refine Lw rfl (w_map rfl) ?_
 rintro _ _ ⟨b3, hb3, rfl, rfl⟩
 refine Lp rfl (p_build (r := [_, _, _, _, _, _, _]) pl172 zr172 rfl rfl rfl) ?_
 refine Lw rfl (w_box rfl rfl) ?_
 rintro _ _ ⟨b4, hb4, rfl, rfl⟩
 refine Lw rfl (w_alloc zr159 rfl) ?_
 rintro _ _ ⟨b5, hb5, rfl, rfl⟩
 refine Ls (cs' := [_]) rfl sz159 rfl rfl rfl rfl rfl rfl rfl ?_
 refine L_then (kp [1, 3, 5, 6, 7] rfl) ?_
 refine V_seq ?_
 refine Vs rfl ?_
 refine Lr rfl (rl ag159 rfl rfl rfl) ?_
 refine Lm rfl rfl rfl ?_
 refine Lw rfl (w_callN rfl rfl rfl (fun w hg => known_c _ now w)) ?_
 rintro _ _ ⟨_, rfl, _, y1, y2, rfl, rfl⟩
 refine L_then (kp [3, 5, 6, 7, 15] rfl) ?_
 refine V_block ?_
 refine V_range (L := knownV t now t.plots.length) rfl (kp [3, 5, 6, 7, 15] rfl) rfl rfl (fun done x => done.length < t.plots.length ∧ ∃ i : Int, 0 ≤ i ∧ i < t.plots.length ∧ x = [.int .i64 i]) (fun done Hs => ∃ (is : List Int) (sv : Value) (G : Heap), done = is.map iv ∧ Hs = (y2, .cells #[.int .i64 now] 3) :: (y1, .cells #[.pointer (some ⟨b4, 0, none⟩)] 159) :: (b5, .cells #[.pointer (some ⟨b4, 0, none⟩)] 159) :: (b4, .cells #[.int .i64 t.frm, .int .i64 t.speed, .int .i64 t.accel, .slice ta t.trackers.length tc, .slice pa t.plots.length pc, sv, .map (some b3)] 172) :: (b3, .map #[] 0) :: (b2, .cells #[.func (.func fid) #[] cap] 79) :: (b1, t.obj (.slice ta t.trackers.length tc) (.slice pa t.plots.length pc) 39) :: G ∧ Grow 3 1 sv (is.filter (fun i : Int => want (t.pl i.toNat).tracker)).length (iiL (is.filter (fun i : Int => want (t.pl i.toNat).tracker))) G) (by rintro done vs ⟨_, i, _, _, rfl⟩; rfl) (by repeat (first | exact List.Sublist.refl _ | apply List.Sublist.cons_cons | apply List.Sublist.cons)) (⟨[], _, [], rfl, rfl, .nil⟩) ?_ ?_ ?_
 ·intro l1 D1 r1 done vs Hr own hp hJ
  obtain ⟨hdl, i, hi0, hi1, rfl⟩ := hp
  obtain ⟨is, sv, G, rfl, rfl, hgr⟩ := hJ
  simp only [List.length_map] at hdl
  refine V_region rfl ?_
  refine La rfl rfl rfl ?_
  refine L_keep (kp [3, 5, 6, 7, 8, 15] rfl) ?_
  refine asgI (by repeat first | exact .head | apply SetAt.tail) ?_
  refine V_block ?_
  refine V_seq (V_draw (.rd 0 (.rd 1 (.rd 2 (.rd 3 (.rd 4 (.rd 5 (.rd 6 (.wr 7 [5, 4, 3, 2, 1] .done)))))))) mixed (by kernel_rfl) rfl ?_)
  obtain ⟨pb, rfl, hcp⟩ := hpe i.toNat _ (getD_cells (d := plZ) (by omega))
  refine Dr rfl rfl (rl ag79 rfl rfl rfl) ?_
  refine Dp rfl rfl (p_fieldo fo39_4 rfl rfl) ?_
  refine Dr rfl rfl (rl ag37 rfl rfl rfl) ?_
  refine Dm rfl rfl rfl rfl ?_
  refine Dp rfl rfl (p_idx es37 rfl rfl rfl (by omega) (by omega)) ?_
  refine Dp rfl rfl (p_field fo138_0 rfl rfl) ?_
  refine Dr rfl rfl (r_loadB ag3 rfl rfl (hcp 0 _ rfl) List.not_mem_nil) ?_
  refine D_wr (.go (E' := [(2, _)]) rfl (.plain rfl) (w_callP rfl rfl rfl (fun w hg => hf _ w hg.toExt)) rfl ?_)
  rintro _ _ ⟨rfl, rfl⟩
  refine ⟨(.cons rfl (.plain rfl) (rl ag37 rfl rfl rfl) .nil), ?_⟩
  refine D_then (kp [7, 8, 24] rfl) ?_
  refine V_cond rfl ?_ ?_
  ·intro c1; try simp only [td] at c1
   refine V_draw (.rd 0 (.rd 1 (.rd 2 (.rd 3 (.rd 4 (.rd 5 (.wr 6 [4, 3, 2, 1, 0] (.wr 7 [5, 3, 2, 1, 0] (.rd 8 (.rd 9 (.wr 10 [8] .done))))))))))) mixed (by kernel_rfl) rfl ?_
   iterate 2 refine Dr rfl rfl (rl ag159 rfl rfl rfl) ?_
   refine Dp rfl rfl (p_nil rfl rfl) ?_
   refine Dp rfl rfl (p_fieldo fo172_1 rfl rfl) ?_
   refine Dr rfl rfl (rl ag53 rfl rfl rfl) ?_
   refine Dm rfl rfl rfl rfl ?_
   refine D_wr (.go (E' := [(4, _), (1, _), (0, _)]) rfl (.plain rfl) (w_slice (r := [_]) un53 sz3 zr3 rfl (by decide) rfl (by decide) rfl rfl) rfl ?_)
   rintro _ _ ⟨b7, hb7, rfl, rfl⟩
   refine ⟨(.cons rfl (.plain rfl) (rl ag53 rfl rfl rfl) (.cons rfl (.plain rfl) (rl ag159 rfl rfl rfl) (.cons rfl (.plain rfl) (rl ag159 rfl rfl rfl) .nil))), ?_⟩
   refine D_wr (.go (E' := [(1, _), (0, _)]) rfl (.plain rfl) (w_app (pre := [_, _, _, _, _, _, _, _, _, _]) (G := G) ap53 rfl rfl rfl hgr rfl rfl (news_own (by repeat first | exact mH | apply mT)) (by simp [Value.oneCell']) (by have := List.length_filter_le (fun i : Int => want (t.pl i.toNat).tracker) is; omega) (by have := List.length_filter_le (fun i : Int => want (t.pl i.toNat).tracker) is; simp only [maxLen]; omega)) rfl ?_)
   rintro _ _ ⟨G1a, G1c, G1, rfl, rfl, hgr1⟩
   try simp only [List.cons_append, List.nil_append, List.append_nil]
   refine ⟨(.cons rfl (.plain rfl) (rl ag159 rfl rfl rfl) (.cons rfl (.plain rfl) (rl ag159 rfl rfl rfl) .nil)), ?_⟩
   refine Dp rfl rfl (p_nil rfl rfl) ?_
   refine Dp rfl rfl (p_fieldo fo172_1 rfl rfl) ?_
   refine D_wr (.go (E' := []) rfl (.plain rfl) (ws (cs' := [_, _, _, _, _, _, _]) sz53 rfl rfl rfl rfl rfl rfl rfl) rfl ?_)
   rintro _ _ ⟨rfl, rfl⟩
   refine ⟨.nil, ?_⟩
   refine D_keep .nil (blk_n ?_)
   refine endI (by repeat first | exact .head | apply SetAt.tail) ?_
   refine ⟨(y2, .cells #[.int .i64 now] 3) :: (y1, .cells #[.pointer (some ⟨b4, 0, none⟩)] 159) :: (b5, .cells #[.pointer (some ⟨b4, 0, none⟩)] 159) :: (b4, .cells #[.int .i64 t.frm, .int .i64 t.speed, .int .i64 t.accel, .slice ta t.trackers.length tc, .slice (some pb) t.plots.length pc, _, .map (some b3)] 172) :: (b3, .map #[] 0) :: (b2, .cells #[.func (.func fid) #[] cap] 79) :: (b1, t.obj (.slice ta t.trackers.length tc) (.slice (some pb) t.plots.length pc) 39) :: G1, (by (try dsimp only); repeat (first | exact HSub.nil _ | refine HSub.take (by repeat first | exact Take.head | apply Take.tail) ?_ | exact HSub.refl _ | refine HSub.drop ?_ | refine HSub.app ?_)), ?_⟩
   have e := filt_yes (p := fun i : Int => want (t.pl i.toNat).tracker) (is := is) (i := i) c1
   refine ⟨is ++ [i], _, G1, by rw [List.map_append]; rfl, rfl, ?_⟩
   rw [e, List.length_append, iiL, List.map_append]
   exact hgr1
  intro c1; try simp only [td] at c1
  refine V_skip (blk_n ?_)
  refine endI (by repeat first | exact .head | apply SetAt.tail) ?_
  refine ⟨(y2, .cells #[.int .i64 now] 3) :: (y1, .cells #[.pointer (some ⟨b4, 0, none⟩)] 159) :: (b5, .cells #[.pointer (some ⟨b4, 0, none⟩)] 159) :: (b4, .cells #[.int .i64 t.frm, .int .i64 t.speed, .int .i64 t.accel, .slice ta t.trackers.length tc, .slice (some pb) t.plots.length pc, sv, .map (some b3)] 172) :: (b3, .map #[] 0) :: (b2, .cells #[.func (.func fid) #[] cap] 79) :: (b1, t.obj (.slice ta t.trackers.length tc) (.slice (some pb) t.plots.length pc) 39) :: G, (by (try dsimp only); repeat (first | exact HSub.nil _ | refine HSub.take (by repeat first | exact Take.head | apply Take.tail) ?_ | exact HSub.refl _ | refine HSub.drop ?_ | refine HSub.app ?_)), ?_⟩
  have e := filt_no (p := fun i : Int => want (t.pl i.toNat).tracker) (is := is) (i := i) c1
  refine ⟨is ++ [i], sv, G, by rw [List.map_append]; rfl, rfl, ?_⟩
  rw [e]
  exact hgr
 ·intro l1 D1 r1 w1 hY hgi
  refine (known1_c t hG now w l1 b4 y1 y2 ta pa tc pc _ htr hpl hY ?_ w1 _ ⟨_, rfl, [], _, [], rfl, rfl, .nil⟩ hgi).mono (fun _ w2 ⟨Hs, hg2, Hr, e, hJ⟩ => ⟨Hr, e ▸ hg2, hJ⟩)
  rintro done _ ⟨Hr, rfl, is, sv, G, rfl, rfl, hgr⟩
  exact ⟨.tail _ (.tail _ (.tail _ (.head _))), .tail _ (.tail _ (.head _)), sv, _, .tail _ (.tail _ (.tail _ (.tail _ (.tail _ (.head _)))))⟩
 intro l1 D1 ob1 Hr hJ
 obtain ⟨is, sv, G, hL, rfl, hgr⟩ := hJ
 refine (blk_n (then_n ?_))
 refine Vs rfl ?_
 refine Lr rfl (rl ag159 rfl rfl rfl) ?_
 refine La rfl rfl rfl ?_
 refine L_then (kp [6] rfl) ?_
 refine V_ret ?_
 refine Leave.mark (by repeat first | exact .head | apply SetAt.tail) (Leave.nil (.tmp rfl .nil) ?_)
 rw [← iv_inj hL] at hgr
 exact ⟨_, (by (try dsimp only); repeat (first | exact HSub.nil _ | refine HSub.take (by repeat first | exact Take.head | apply Take.tail) ?_ | exact HSub.refl _ | refine HSub.drop ?_ | refine HSub.app ?_)), [_, _], G, rfl, b4, b3, sv, 0, rfl, rfl, hgr⟩

end Go.Proofs.YtlcccpeelombbaaGreatDoor
