/- Joined texts. -/
import Derived.Test.YtbncegfgjbdheaaGreatZad
import Derived.Test.YtbncegfgjbdheaaGreatProg
import Derived.Test.YtbncegfgjbdheaaGreatZac
/- What the tables say of the types in hand. -/
set_option linter.all false
namespace Go.Proofs.YtbncegfgjbdheaaGreat
open Go.Vc
theorem mixed : Tryz.prog.follows .mixedOrders = true := by kernel_rfl
theorem ag125 : tyAgg Tryz.prog 125 = some true := by kernel_rfl
theorem ag127 : tyAgg Tryz.prog 127 = some true := by kernel_rfl
theorem ag130 : tyAgg Tryz.prog 130 = some false := by kernel_rfl
theorem ag23 : tyAgg Tryz.prog 23 = some true := by kernel_rfl
theorem ag24 : tyAgg Tryz.prog 24 = some false := by kernel_rfl
theorem ag25 : tyAgg Tryz.prog 25 = some false := by kernel_rfl
theorem ag26 : tyAgg Tryz.prog 26 = some false := by kernel_rfl
theorem ag28 : tyAgg Tryz.prog 28 = some true := by kernel_rfl
theorem ag3 : tyAgg Tryz.prog 3 = some false := by kernel_rfl
theorem ag30 : tyAgg Tryz.prog 30 = some true := by kernel_rfl
theorem ag31 : tyAgg Tryz.prog 31 = some false := by kernel_rfl
theorem ag33 : tyAgg Tryz.prog 33 = some true := by kernel_rfl
theorem ag37 : tyAgg Tryz.prog 37 = some true := by kernel_rfl
theorem ag38 : tyAgg Tryz.prog 38 = some false := by kernel_rfl
theorem ag45 : tyAgg Tryz.prog 45 = some false := by kernel_rfl
theorem ag5 : tyAgg Tryz.prog 5 = some false := by kernel_rfl
theorem ag50 : tyAgg Tryz.prog 50 = some false := by kernel_rfl
theorem ag57 : tyAgg Tryz.prog 57 = some false := by kernel_rfl
theorem ag61 : tyAgg Tryz.prog 61 = some true := by kernel_rfl
theorem ag63 : tyAgg Tryz.prog 63 = some true := by kernel_rfl
theorem ag65 : tyAgg Tryz.prog 65 = some true := by kernel_rfl
theorem ag69 : tyAgg Tryz.prog 69 = some true := by kernel_rfl
theorem ag70 : tyAgg Tryz.prog 70 = some false := by kernel_rfl
theorem ag74 : tyAgg Tryz.prog 74 = some true := by kernel_rfl
theorem ag76 : tyAgg Tryz.prog 76 = some true := by kernel_rfl
theorem ag84 : tyAgg Tryz.prog 84 = some true := by kernel_rfl
theorem ag86 : tyAgg Tryz.prog 86 = some true := by kernel_rfl
theorem ag9 : tyAgg Tryz.prog 9 = some false := by kernel_rfl
theorem ag93 : tyAgg Tryz.prog 93 = some true := by kernel_rfl
theorem ap148 : appOf Tryz.prog 148 = some (3, 1, 8) := by kernel_rfl
theorem ap149 : appOf Tryz.prog 149 = some (63, 6, 48) := by kernel_rfl
theorem ap45 : appOf Tryz.prog 45 = some (86, 7, 56) := by kernel_rfl
theorem ap50 : appOf Tryz.prog 50 = some (33, 12, 96) := by kernel_rfl
theorem ar151 : arrOf Tryz.prog 151 = some (4, 1) := by kernel_rfl
theorem ar63 : arrOf Tryz.prog 63 = some (3, 2) := by kernel_rfl
theorem eg37 : Tryz.prog.eqGuardType Tryz.prog.depth 37 = false := by kernel_rfl
theorem eg86 : Tryz.prog.eqGuardType Tryz.prog.depth 86 = false := by kernel_rfl
theorem es146 : elemSz Tryz.prog 146 = some 2 := by kernel_rfl
theorem es148 : elemSz Tryz.prog 148 = some 1 := by kernel_rfl
theorem es149 : elemSz Tryz.prog 149 = some 6 := by kernel_rfl
theorem es159 : elemSz Tryz.prog 159 = some 1 := by kernel_rfl
theorem es24 : elemSz Tryz.prog 24 = some 2 := by kernel_rfl
theorem es25 : elemSz Tryz.prog 25 = some 13 := by kernel_rfl
theorem es26 : elemSz Tryz.prog 26 = some 13 := by kernel_rfl
theorem es31 : elemSz Tryz.prog 31 = some 6 := by kernel_rfl
theorem es45 : elemSz Tryz.prog 45 = some 7 := by kernel_rfl
theorem es50 : elemSz Tryz.prog 50 = some 12 := by kernel_rfl
theorem fo107_0 : fieldOff Tryz.prog 107 0 = some 0 := by kernel_rfl
theorem fo107_1 : fieldOff Tryz.prog 107 1 = some 6 := by kernel_rfl
theorem fo107_2 : fieldOff Tryz.prog 107 2 = some 12 := by kernel_rfl
theorem fo125_0 : fieldOff Tryz.prog 125 0 = some 0 := by kernel_rfl
theorem fo125_1 : fieldOff Tryz.prog 125 1 = some 1 := by kernel_rfl
theorem fo125_2 : fieldOff Tryz.prog 125 2 = some 2 := by kernel_rfl
theorem fo125_3 : fieldOff Tryz.prog 125 3 = some 4 := by kernel_rfl
theorem fo127_0 : fieldOff Tryz.prog 127 0 = some 0 := by kernel_rfl
theorem fo127_1 : fieldOff Tryz.prog 127 1 = some 1 := by kernel_rfl
theorem fo132_0 : fieldOff Tryz.prog 132 0 = some 0 := by kernel_rfl
theorem fo132_1 : fieldOff Tryz.prog 132 1 = some 7 := by kernel_rfl
theorem fo132_2 : fieldOff Tryz.prog 132 2 = some 8 := by kernel_rfl
theorem fo23_0 : fieldOff Tryz.prog 23 0 = some 0 := by kernel_rfl
theorem fo23_1 : fieldOff Tryz.prog 23 1 = some 1 := by kernel_rfl
theorem fo28_0 : fieldOff Tryz.prog 28 0 = some 0 := by kernel_rfl
theorem fo28_1 : fieldOff Tryz.prog 28 1 = some 1 := by kernel_rfl
theorem fo28_2 : fieldOff Tryz.prog 28 2 = some 3 := by kernel_rfl
theorem fo28_3 : fieldOff Tryz.prog 28 3 = some 4 := by kernel_rfl
theorem fo28_4 : fieldOff Tryz.prog 28 4 = some 5 := by kernel_rfl
theorem fo30_0 : fieldOff Tryz.prog 30 0 = some 0 := by kernel_rfl
theorem fo30_1 : fieldOff Tryz.prog 30 1 = some 1 := by kernel_rfl
theorem fo30_2 : fieldOff Tryz.prog 30 2 = some 2 := by kernel_rfl
theorem fo33_0 : fieldOff Tryz.prog 33 0 = some 0 := by kernel_rfl
theorem fo33_1 : fieldOff Tryz.prog 33 1 = some 2 := by kernel_rfl
theorem fo33_2 : fieldOff Tryz.prog 33 2 = some 4 := by kernel_rfl
theorem fo33_3 : fieldOff Tryz.prog 33 3 = some 6 := by kernel_rfl
theorem fo33_4 : fieldOff Tryz.prog 33 4 = some 8 := by kernel_rfl
theorem fo33_5 : fieldOff Tryz.prog 33 5 = some 10 := by kernel_rfl
theorem fo37_0 : fieldOff Tryz.prog 37 0 = some 0 := by kernel_rfl
theorem fo37_1 : fieldOff Tryz.prog 37 1 = some 2 := by kernel_rfl
theorem fo37_2 : fieldOff Tryz.prog 37 2 = some 4 := by kernel_rfl
theorem fo44_0 : fieldOff Tryz.prog 44 0 = some 0 := by kernel_rfl
theorem fo44_1 : fieldOff Tryz.prog 44 1 = some 3 := by kernel_rfl
theorem fo61_0 : fieldOff Tryz.prog 61 0 = some 0 := by kernel_rfl
theorem fo61_1 : fieldOff Tryz.prog 61 1 = some 1 := by kernel_rfl
theorem fo65_0 : fieldOff Tryz.prog 65 0 = some 0 := by kernel_rfl
theorem fo65_1 : fieldOff Tryz.prog 65 1 = some 6 := by kernel_rfl
theorem fo69_0 : fieldOff Tryz.prog 69 0 = some 0 := by kernel_rfl
theorem fo69_1 : fieldOff Tryz.prog 69 1 = some 2 := by kernel_rfl
theorem fo69_2 : fieldOff Tryz.prog 69 2 = some 4 := by kernel_rfl
theorem fo69_3 : fieldOff Tryz.prog 69 3 = some 6 := by kernel_rfl
theorem fo74_0 : fieldOff Tryz.prog 74 0 = some 0 := by kernel_rfl
theorem fo74_1 : fieldOff Tryz.prog 74 1 = some 2 := by kernel_rfl
theorem fo74_2 : fieldOff Tryz.prog 74 2 = some 4 := by kernel_rfl
theorem fo76_0 : fieldOff Tryz.prog 76 0 = some 0 := by kernel_rfl
theorem fo76_1 : fieldOff Tryz.prog 76 1 = some 1 := by kernel_rfl
theorem fo76_2 : fieldOff Tryz.prog 76 2 = some 3 := by kernel_rfl
theorem fo76_3 : fieldOff Tryz.prog 76 3 = some 5 := by kernel_rfl
theorem fo76_4 : fieldOff Tryz.prog 76 4 = some 7 := by kernel_rfl
theorem fo84_0 : fieldOff Tryz.prog 84 0 = some 0 := by kernel_rfl
theorem fo84_1 : fieldOff Tryz.prog 84 1 = some 2 := by kernel_rfl
theorem fo86_1 : fieldOff Tryz.prog 86 1 = some 1 := by kernel_rfl
theorem fo86_2 : fieldOff Tryz.prog 86 2 = some 5 := by kernel_rfl
theorem fo93_0 : fieldOff Tryz.prog 93 0 = some 0 := by kernel_rfl
theorem fo93_1 : fieldOff Tryz.prog 93 1 = some 1 := by kernel_rfl
theorem fo93_2 : fieldOff Tryz.prog 93 2 = some 2 := by kernel_rfl
theorem fo93_3 : fieldOff Tryz.prog 93 3 = some 4 := by kernel_rfl
theorem fo93_4 : fieldOff Tryz.prog 93 4 = some 6 := by kernel_rfl
theorem fo93_5 : fieldOff Tryz.prog 93 5 = some 12 := by kernel_rfl
theorem isl146 : (Tryz.prog.underlying 146).any (fun d => match d with | .slice _ => true | _ => false) = true := by kernel_rfl
theorem isl148 : (Tryz.prog.underlying 148).any (fun d => match d with | .slice _ => true | _ => false) = true := by kernel_rfl
theorem isl149 : (Tryz.prog.underlying 149).any (fun d => match d with | .slice _ => true | _ => false) = true := by kernel_rfl
theorem isl159 : (Tryz.prog.underlying 159).any (fun d => match d with | .slice _ => true | _ => false) = true := by kernel_rfl
theorem isl24 : (Tryz.prog.underlying 24).any (fun d => match d with | .slice _ => true | _ => false) = true := by kernel_rfl
theorem isl25 : (Tryz.prog.underlying 25).any (fun d => match d with | .slice _ => true | _ => false) = true := by kernel_rfl
theorem isl26 : (Tryz.prog.underlying 26).any (fun d => match d with | .slice _ => true | _ => false) = true := by kernel_rfl
theorem isl31 : (Tryz.prog.underlying 31).any (fun d => match d with | .slice _ => true | _ => false) = true := by kernel_rfl
theorem isl45 : (Tryz.prog.underlying 45).any (fun d => match d with | .slice _ => true | _ => false) = true := by kernel_rfl
theorem isl50 : (Tryz.prog.underlying 50).any (fun d => match d with | .slice _ => true | _ => false) = true := by kernel_rfl
theorem ist9 : (Tryz.prog.underlying 9).any (fun d => match d with | .string => true | _ => false) = true := by kernel_rfl
theorem lv37 : leaves Tryz.prog 10 37 = some [.int .i64, .int .i64, .int .i64, .int .i64, .int .i64, .int .i64] := by kernel_rfl
theorem lv86 : leaves Tryz.prog 10 86 = some [.int .i64, .int .i64, .int .i64, .int .i64, .int .i64, .int .i64, .int .i64] := by kernel_rfl
theorem pl107 : placesOf Tryz.prog 107 = some [(0, 6), (6, 6), (12, 1)] := by kernel_rfl
theorem pl125 : placesOf Tryz.prog 125 = some [(0, 1), (1, 1), (2, 2), (4, 2)] := by kernel_rfl
theorem pl127 : placesOf Tryz.prog 127 = some [(0, 1), (1, 1)] := by kernel_rfl
theorem pl129 : placesOf Tryz.prog 129 = some [] := by kernel_rfl
theorem pl132 : placesOf Tryz.prog 132 = some [(0, 7), (7, 1), (8, 1)] := by kernel_rfl
theorem pl23 : placesOf Tryz.prog 23 = some [(0, 1), (1, 1)] := by kernel_rfl
theorem pl28 : placesOf Tryz.prog 28 = some [(0, 1), (1, 2), (3, 1), (4, 1), (5, 1)] := by kernel_rfl
theorem pl30 : placesOf Tryz.prog 30 = some [(0, 1), (1, 1), (2, 1)] := by kernel_rfl
theorem pl33 : placesOf Tryz.prog 33 = some [(0, 2), (2, 2), (4, 2), (6, 2), (8, 2), (10, 2)] := by kernel_rfl
theorem pl37 : placesOf Tryz.prog 37 = some [(0, 2), (2, 2), (4, 2)] := by kernel_rfl
theorem pl61 : placesOf Tryz.prog 61 = some [(0, 1), (1, 1)] := by kernel_rfl
theorem pl65 : placesOf Tryz.prog 65 = some [(0, 6), (6, 6)] := by kernel_rfl
theorem pl69 : placesOf Tryz.prog 69 = some [(0, 2), (2, 2), (4, 2), (6, 6)] := by kernel_rfl
theorem pl74 : placesOf Tryz.prog 74 = some [(0, 2), (2, 2), (4, 2)] := by kernel_rfl
theorem pl76 : placesOf Tryz.prog 76 = some [(0, 1), (1, 2), (3, 2), (5, 2), (7, 6)] := by kernel_rfl
theorem pl84 : placesOf Tryz.prog 84 = some [(0, 2), (2, 2)] := by kernel_rfl
theorem pl86 : placesOf Tryz.prog 86 = some [(0, 1), (1, 4), (5, 2)] := by kernel_rfl
theorem sz125 : tySize Tryz.prog 125 = some 6 := by kernel_rfl
theorem sz127 : tySize Tryz.prog 127 = some 2 := by kernel_rfl
theorem sz129 : tySize Tryz.prog 129 = some 0 := by kernel_rfl
theorem sz130 : tySize Tryz.prog 130 = some 1 := by kernel_rfl
theorem sz151 : tySize Tryz.prog 151 = some 4 := by kernel_rfl
theorem sz23 : tySize Tryz.prog 23 = some 2 := by kernel_rfl
theorem sz24 : tySize Tryz.prog 24 = some 1 := by kernel_rfl
theorem sz28 : tySize Tryz.prog 28 = some 6 := by kernel_rfl
theorem sz3 : tySize Tryz.prog 3 = some 1 := by kernel_rfl
theorem sz30 : tySize Tryz.prog 30 = some 3 := by kernel_rfl
theorem sz33 : tySize Tryz.prog 33 = some 12 := by kernel_rfl
theorem sz37 : tySize Tryz.prog 37 = some 6 := by kernel_rfl
theorem sz38 : tySize Tryz.prog 38 = some 1 := by kernel_rfl
theorem sz45 : tySize Tryz.prog 45 = some 1 := by kernel_rfl
theorem sz50 : tySize Tryz.prog 50 = some 1 := by kernel_rfl
theorem sz57 : tySize Tryz.prog 57 = some 1 := by kernel_rfl
theorem sz61 : tySize Tryz.prog 61 = some 2 := by kernel_rfl
theorem sz63 : tySize Tryz.prog 63 = some 6 := by kernel_rfl
theorem sz65 : tySize Tryz.prog 65 = some 12 := by kernel_rfl
theorem sz69 : tySize Tryz.prog 69 = some 12 := by kernel_rfl
theorem sz74 : tySize Tryz.prog 74 = some 6 := by kernel_rfl
theorem sz76 : tySize Tryz.prog 76 = some 13 := by kernel_rfl
theorem sz84 : tySize Tryz.prog 84 = some 4 := by kernel_rfl
theorem sz86 : tySize Tryz.prog 86 = some 7 := by kernel_rfl
theorem sz93 : tySize Tryz.prog 93 = some 13 := by kernel_rfl
theorem un129 : Tryz.prog.underlying 129 = some (.struct #[]) := by kernel_rfl
theorem un148 : Tryz.prog.underlying 148 = some (.slice 3) := by kernel_rfl
theorem un149 : Tryz.prog.underlying 149 = some (.slice 63) := by kernel_rfl
theorem un159 : Tryz.prog.underlying 159 = some (.slice 5) := by kernel_rfl
theorem un24 : Tryz.prog.underlying 24 = some (.slice 127) := by kernel_rfl
theorem un25 : Tryz.prog.underlying 25 = some (.slice 76) := by kernel_rfl
theorem un31 : Tryz.prog.underlying 31 = some (.slice 125) := by kernel_rfl
theorem un45 : Tryz.prog.underlying 45 = some (.slice 86) := by kernel_rfl
theorem un5 : Tryz.prog.underlying 5 = some (.int .u8) := by kernel_rfl
theorem un50 : Tryz.prog.underlying 50 = some (.slice 33) := by kernel_rfl
theorem un63 : Tryz.prog.underlying 63 = some (.array 3 61) := by kernel_rfl
theorem un9 : Tryz.prog.underlying 9 = some (.string) := by kernel_rfl
theorem zr107 : tyZero Tryz.prog 107 = some (.agg #[.string ByteArray.empty, .int .i64 0, .int .i64 0, .slice none 0 0, .slice none 0 0, .slice none 0 0, .int .i64 0, .int .i64 0, .int .i64 0, .int .i64 0, .int .i64 0, .int .i64 0, .slice none 0 0]) := by kernel_rfl
theorem zr125 : tyZero Tryz.prog 125 = some (.agg #[.int .i64 0, .int .i64 0, .int .i64 0, .int .i64 0, .int .i64 0, .int .i64 0]) := by kernel_rfl
theorem zr127 : tyZero Tryz.prog 127 = some (.agg #[.int .i64 0, .int .i64 0]) := by kernel_rfl
theorem zr129 : tyZero Tryz.prog 129 = some (.agg #[]) := by kernel_rfl
theorem zr130 : tyZero Tryz.prog 130 = some (.pointer none) := by kernel_rfl
theorem zr132 : tyZero Tryz.prog 132 = some (.agg #[.int .i64 0, .int .i64 0, .int .i64 0, .int .i64 0, .int .i64 0, .int .i64 0, .int .i64 0, .int .i64 0, .int .i64 0]) := by kernel_rfl
theorem zr151 : tyZero Tryz.prog 151 = some (.agg #[.int .i64 0, .int .i64 0, .int .i64 0, .int .i64 0]) := by kernel_rfl
theorem zr23 : tyZero Tryz.prog 23 = some (.agg #[.int .i64 0, .int .i64 0]) := by kernel_rfl
theorem zr28 : tyZero Tryz.prog 28 = some (.agg #[.string ByteArray.empty, .int .i64 0, .int .i64 0, .slice none 0 0, .slice none 0 0, .slice none 0 0]) := by kernel_rfl
theorem zr3 : tyZero Tryz.prog 3 = some (.int .i64 0) := by kernel_rfl
theorem zr30 : tyZero Tryz.prog 30 = some (.agg #[.int .i64 0, .int .i64 0, .int .i64 0]) := by kernel_rfl
theorem zr33 : tyZero Tryz.prog 33 = some (.agg #[.int .i64 0, .int .i64 0, .int .i64 0, .int .i64 0, .int .i64 0, .int .i64 0, .int .i64 0, .int .i64 0, .int .i64 0, .int .i64 0, .int .i64 0, .int .i64 0]) := by kernel_rfl
theorem zr37 : tyZero Tryz.prog 37 = some (.agg #[.int .i64 0, .int .i64 0, .int .i64 0, .int .i64 0, .int .i64 0, .int .i64 0]) := by kernel_rfl
theorem zr38 : tyZero Tryz.prog 38 = some (.int .i64 0) := by kernel_rfl
theorem zr45 : tyZero Tryz.prog 45 = some (.slice none 0 0) := by kernel_rfl
theorem zr50 : tyZero Tryz.prog 50 = some (.slice none 0 0) := by kernel_rfl
theorem zr57 : tyZero Tryz.prog 57 = some (.pointer none) := by kernel_rfl
theorem zr61 : tyZero Tryz.prog 61 = some (.agg #[.int .i64 0, .int .i64 0]) := by kernel_rfl
theorem zr63 : tyZero Tryz.prog 63 = some (.agg #[.int .i64 0, .int .i64 0, .int .i64 0, .int .i64 0, .int .i64 0, .int .i64 0]) := by kernel_rfl
theorem zr65 : tyZero Tryz.prog 65 = some (.agg #[.int .i64 0, .int .i64 0, .int .i64 0, .int .i64 0, .int .i64 0, .int .i64 0, .int .i64 0, .int .i64 0, .int .i64 0, .int .i64 0, .int .i64 0, .int .i64 0]) := by kernel_rfl
theorem zr69 : tyZero Tryz.prog 69 = some (.agg #[.int .i64 0, .int .i64 0, .int .i64 0, .int .i64 0, .int .i64 0, .int .i64 0, .int .i64 0, .int .i64 0, .int .i64 0, .int .i64 0, .int .i64 0, .int .i64 0]) := by kernel_rfl
theorem zr74 : tyZero Tryz.prog 74 = some (.agg #[.int .i64 0, .int .i64 0, .int .i64 0, .int .i64 0, .int .i64 0, .int .i64 0]) := by kernel_rfl
theorem zr76 : tyZero Tryz.prog 76 = some (.agg #[.int .i64 0, .int .i64 0, .int .i64 0, .int .i64 0, .int .i64 0, .int .i64 0, .int .i64 0, .int .i64 0, .int .i64 0, .int .i64 0, .int .i64 0, .int .i64 0, .int .i64 0]) := by kernel_rfl
theorem zr84 : tyZero Tryz.prog 84 = some (.agg #[.int .i64 0, .int .i64 0, .int .i64 0, .int .i64 0]) := by kernel_rfl
theorem zr86 : tyZero Tryz.prog 86 = some (.agg #[.int .i64 0, .int .i64 0, .int .i64 0, .int .i64 0, .int .i64 0, .int .i64 0, .int .i64 0]) := by kernel_rfl
theorem zr93 : tyZero Tryz.prog 93 = some (.agg #[.string ByteArray.empty, .int .i64 0, .int .i64 0, .int .i64 0, .int .i64 0, .int .i64 0, .int .i64 0, .int .i64 0, .int .i64 0, .int .i64 0, .int .i64 0, .int .i64 0, .int .i64 0]) := by kernel_rfl
end Go.Proofs.YtbncegfgjbdheaaGreat

/- YtbncegfgjbdheaaGreat: what the small functions of packages track, wind and slices compute, and the checks of a task. -/
set_option linter.all false
namespace Go.Proofs.YtbncegfgjbdheaaGreat
open Go.Vc Go.Tk
set_option maxRecDepth 100000
theorem wout_c (n lo hi : Int) (w : World) : FnP Tryz.prog 91 [.int .i64 n, .int .i64 lo, .int .i64 hi] w (.bool (oP n lo hi)) := by
 refine fn_pure Tryz.func91 rfl (by kernel_rfl) Tryz.ntmps91 Tryz.results91 rfl ?_
 refine Vs rfl ?_
 refine La rfl rfl rfl ?_
 refine L_then (kp [0, 1, 2] rfl) ?_
 refine Vs rfl ?_
 iterate 2 refine Lm rfl rfl rfl ?_
 refine Lp rfl (p_lss rfl rfl rfl) ?_
 refine Lm rfl rfl rfl ?_
 refine L_cases (d := 10) rfl ?_ ?_
 ·intro g1; have g1' := g1; try simp only [td] at g1'
  iterate 3 refine L_no rfl rfl rfl g1 ?_
  refine Lp rfl (p_pick_t rfl rfl g1 rfl) ?_
  refine La rfl rfl rfl ?_
  refine L_then (kp [6] rfl) ?_
  refine V_ret ?_
  refine Leave.nil (.tmp rfl .nil) ?_
  simp [tup, oP, *]
 intro g1; have g1' := g1; try simp only [td] at g1'
 refine L_yes rfl rfl rfl g1 (X_p (p_move rfl rfl) ?_)
 refine L_yes rfl rfl rfl g1 (X_p (p_move rfl rfl) ?_)
 refine L_yes rfl rfl rfl g1 (X_p (p_gtr rfl rfl rfl) ?_)
 refine Lp rfl (p_pick_f rfl rfl g1 rfl) ?_
 refine La rfl rfl rfl ?_
 refine L_then (kp [6] rfl) ?_
 refine V_ret ?_
 refine Leave.nil (.tmp rfl .nil) ?_
 simp [tup, oP, *]
theorem idxInt_c (l : List Int) (v : Value) (fid : Nat) (cap : Array Value) (p : Int → Bool) (w : World) (hv : SliceR w 1 v (l.map (fun n : Int => [Value.int .i64 n]))) (hl : (l.length : Int) ≤ 9223372036854775806) (hf : ∀ x w', Ext w w' → FnP Tryz.prog fid (.int .i64 x :: cap.toList) w' (.bool (p x))) : FnP Tryz.prog 119 [v, .func (.func fid) #[] cap] w (.int .i64 (firstIdx (fun i => p (l.getD i 0)) 0 l.length)) := by
 obtain ⟨a, ca, rfl, hcap, hel⟩ := hv.ex
 simp only [List.length_map]
 refine fn_pure Tryz.func119 rfl (by kernel_rfl) Tryz.ntmps119 Tryz.results119 rfl ?_
 refine Vs rfl ?_
 refine La rfl rfl rfl ?_
 refine L_then (kp [0, 1] rfl) ?_
 refine V_seq ?_
 refine Vs rfl ?_
 refine Lm rfl rfl rfl ?_
 refine Lp rfl (p_len isl148 rfl rfl) ?_
 refine Lm rfl rfl rfl ?_
 refine L_then (kp [0, 1, 7, 8] rfl) ?_
 refine V_block ?_
 refine V_loop0 (γ := Int) (kp [0, 1, 7] rfl) (fun k => [(8, .int .i64 k)]) (fun k => 0 ≤ k ∧ k ≤ l.length ∧ ∀ j : Nat, (j : Int) < k → p (l.getD j 0) = false) (fun k => (l.length - k).toNat) (0) (.cons rfl (.nil _)) (⟨by omega, by omega, fun j hj => by omega⟩) ?_
 rintro k hi
 obtain ⟨hk0, hk1, hkp⟩ := hi
 refine Vs rfl ?_
 refine Lp rfl (p_lss rfl rfl rfl) ?_
 refine L_then (kp [0, 1, 7, 8, 9] rfl) ?_
 refine V_seq ?_
 refine V_cond rfl ?_ ?_
 ·intro c1; try simp only [td] at c1
  obtain ⟨b, rfl, hc⟩ := hel k.toNat _ (getD_cells (d := 0) (by omega))
  refine V_skip (then_n ?_)
  refine V_seq ?_
  refine V_block ?_
  refine Vs rfl ?_
  refine Lm rfl rfl rfl ?_
  refine La rfl rfl rfl ?_
  refine L_then (kp [0, 1, 5, 7, 8] rfl) ?_
  refine Vs rfl ?_
  iterate 3 refine Lm rfl rfl rfl ?_
  refine Lp rfl (p_idx es148 rfl rfl rfl (by omega) (by omega)) ?_
  refine Lr rfl (r_loadB ag3 rfl rfl (hc.zero) List.not_mem_nil) ?_
  refine Lc rfl rfl rfl rfl (fun w hg => hf _ w hg.toExt) ?_
  refine L_then (kp [0, 1, 5, 7, 8, 16] rfl) ?_
  refine V_cond rfl ?_ ?_
  ·intro c2; try simp only [td] at c2
   refine Vs rfl ?_
   refine Lm rfl rfl rfl ?_
   refine La rfl rfl rfl ?_
   refine L_then (kp [4] rfl) ?_
   refine V_ret (blk_r (then_r (then_r (blk_r (then_r ?_)))))
   refine Leave.nil (.tmp rfl .nil) ?_
   show Value.int .i64 k = _
   rw [firstIdx_hit (p := fun i => p (l.getD i 0)) (k := k.toNat) (by omega) c2 (fun j hj => hkp j (by omega))]
   congr 1; omega
  intro c2; try simp only [td] at c2
  refine V_skip (blk_n (then_n ?_))
  refine V_region rfl ?_
  first | refine Lp rfl (p_add' rfl rfl rfl (by unfold InI; omega)) ?_ | refine Lp rfl (p_add rfl rfl rfl) ?_
  refine Lm rfl rfl rfl ?_
  refine L_keep (kp [0, 1, 7, 8] rfl) (then_n ?_)
  refine ⟨k + 1, ?_, ?_, (.cons rfl (.cons rfl (.cons rfl (.cons rfl (.nil _))))), (by repeat (first | exact List.Sublist.refl _ | apply List.Sublist.cons_cons | apply List.Sublist.cons | apply List.sublist_append_of_sublist_right)), rfl⟩
  ·refine ⟨by omega, by omega, fun j hj => ?_⟩; by_cases e : (j : Int) < k
   ·exact hkp j e
   have : j = k.toNat := by omega
   rw [this]; exact c2
  omega
 intro c1; try simp only [td] at c1
 refine V_exit (then_e (then_e (blk_e rfl (then_n ?_))))
 refine Vs rfl ?_
 refine La rfl rfl rfl ?_
 refine L_then (kp [4] rfl) ?_
 refine V_ret ?_
 refine Leave.nil (.tmp rfl .nil) ?_
 show Value.int .i64 (-1) = _
 rw [firstIdx_none (p := fun i => p (l.getD i 0)) (fun j hj => hkp j (by omega))]
theorem contInt_c (l : List Int) (v : Value) (fid : Nat) (cap : Array Value) (p : Int → Bool) (w : World) (hv : SliceR w 1 v (l.map (fun n : Int => [Value.int .i64 n]))) (hl : (l.length : Int) ≤ 9223372036854775806) (hf : ∀ x w', Ext w w' → FnP Tryz.prog fid (.int .i64 x :: cap.toList) w' (.bool (p x))) : FnP Tryz.prog 117 [v, .func (.func fid) #[] cap] w (.bool (l.any p)) := by
 refine fn_pure Tryz.func117 rfl (by kernel_rfl) Tryz.ntmps117 Tryz.results117 rfl ?_
 refine Vs rfl ?_
 refine La rfl rfl rfl ?_
 refine L_then (kp [0, 1] rfl) ?_
 refine Vs rfl ?_
 iterate 2 refine Lm rfl rfl rfl ?_
 refine Lc rfl rfl rfl rfl (fun w hg => idxInt_c l _ _ _ p w (hv.good hg) hl (fun x w' he => hf x w' (hg.toExt.trans he))) ?_
 refine Lp rfl (p_geq rfl rfl rfl) ?_
 refine La rfl rfl rfl ?_
 refine L_then (kp [4] rfl) ?_
 refine V_ret ?_
 refine Leave.nil (.tmp rfl .nil) ?_
 show Value.bool _ = _
 rw [firstIdx_any, anyIdx_list]
theorem wname_c (s : ByteArray) (hs : (s.size : Int) ≤ 9223372036854775807) (w : World) : FnP Tryz.prog 86 [.string s] w (.bool (nameOk s)) := by
 refine fn_pure Tryz.func86 rfl (by kernel_rfl) Tryz.ntmps86 Tryz.results86 rfl ?_
 refine Vs rfl ?_
 refine La rfl rfl rfl ?_
 refine L_then (kp [0] rfl) ?_
 refine V_seq ?_
 refine Vs rfl ?_
 refine Lm rfl rfl rfl ?_
 refine Lw rfl (w_bytes un9 un159 un5 rfl rfl) ?_
 rintro _ _ ⟨b1, cap1, pad1, fr1, hb1, rfl, rfl⟩
 refine Lp rfl (p_len isl159 rfl rfl) ?_
 refine Lm rfl rfl rfl ?_
 refine L_then (kp [0, 6, 7, 8] rfl) ?_
 refine V_block ?_
 refine V_loop0 (γ := Int) (kp [0, 6, 7] rfl) (fun k => [(8, .int .i64 k)]) (fun k => 0 ≤ k ∧ k ≤ s.size ∧ ∀ j : Nat, (j : Int) < k → nameC s j = true) (fun k => (s.size - k).toNat) (0) (.cons rfl (.nil _)) (⟨by omega, by omega, fun j hj => by omega⟩) ?_
 rintro k hi
 obtain ⟨hk0, hk1, hkn⟩ := hi
 refine Vs rfl ?_
 refine Lp rfl (p_lss rfl rfl rfl) ?_
 refine L_then (kp [0, 6, 7, 8, 9] rfl) ?_
 refine V_seq ?_
 refine V_cond rfl ?_ ?_
 ·intro c1; try simp only [td] at c1
  refine V_skip (then_n ?_)
  refine V_seq ?_
  refine V_block ?_
  refine Vs rfl ?_
  refine Lm rfl rfl rfl ?_
  refine Lp rfl (p_idxo es159 rfl rfl rfl (by omega) (by omega)) ?_
  refine Lr rfl (r_load ag5 rfl rfl (by repeat first | exact mH | apply mT) (bytes_at (by omega))) ?_
  iterate 2 refine La rfl rfl rfl ?_
  refine L_then (kp [0, 3, 4, 6, 7, 8] rfl) ?_
  refine Vs rfl ?_
  refine Lm rfl rfl rfl ?_
  refine Lp rfl (p_geq rfl rfl rfl) ?_
  refine Lm rfl rfl rfl ?_
  refine L_cases (d := 15) rfl ?_ ?_
  ·intro g1; have g1' := g1; try simp only [td] at g1'
   refine L_yes rfl rfl rfl g1 (X_p (p_move rfl rfl) ?_)
   refine L_yes rfl rfl rfl g1 (X_p (p_leq rfl rfl rfl) ?_)
   refine Lp rfl (p_pick_t rfl rfl g1 rfl) ?_
   refine Lp rfl (p_not rfl rfl) ?_
   refine Lm rfl rfl rfl ?_
   refine L_cases (d := 20) rfl ?_ ?_
   ·intro g2; have g2' := g2; try simp only [td] at g2'
    refine L_yes rfl rfl rfl g2 (X_p (p_move rfl rfl) ?_)
    refine L_yes rfl rfl rfl g2 (X_p (p_eql rfl rfl rfl) ?_)
    refine L_yes rfl rfl rfl g2 (X_p (p_move rfl rfl) ?_)
    refine L_cases (d := 23) rfl ?_ ?_
    ·intro g3; have g3' := g3; try simp only [td] at g3'
     iterate 3 refine L_no rfl rfl rfl g3 ?_
     iterate 7 refine L_nou rfl rfl rfl ?_
     refine L_no rfl rfl rfl g3 ?_
     refine L_yes rfl rfl rfl g2 (X_p (p_pick_t rfl rfl g3 rfl) ?_)
     refine Lp rfl (p_pick_t rfl rfl g2 rfl) ?_
     refine L_then (kp [0, 6, 7, 8, 36] rfl) ?_
     refine V_cond_t rfl rfl ?_
     refine Vs rfl ?_
     refine La rfl rfl rfl ?_
     refine L_then (kp [2] rfl) ?_
     refine V_ret (blk_r (then_r (then_r (blk_r (then_r ?_)))))
     refine Leave.nil (.tmp rfl .nil) ?_
     first | (show Value.bool false = _; rw [nameOk_bad (k := k.toNat) (by omega) (by simp only [nameC, small, Bool.or_eq_true, Bool.and_eq_true, decide_eq_true_eq, decide_eq_false_iff_not, ← Bool.not_eq_true]; omega)]; done) | (show Value.bool (!(oP _ _ _)) = _; rw [nameOk_end (fun j hj => hkn j (by omega))])
    intro g3; have g3' := g3; try simp only [td] at g3'
    refine L_yes rfl rfl rfl g3 (X_p (p_move rfl rfl) ?_)
    refine L_yes rfl rfl rfl g3 (X_p (p_neq rfl rfl rfl) ?_)
    refine L_yes rfl rfl rfl g3 (X_p (p_move rfl rfl) ?_)
    refine L_cases (d := 26) rfl ?_ ?_
    ·intro g4; have g4' := g4; try simp only [td] at g4'
     refine L_yes rfl rfl rfl g4 (X_p (p_move rfl rfl) ?_)
     refine L_yes rfl rfl rfl g4 (X_p (p_geq rfl rfl rfl) ?_)
     refine L_yes rfl rfl rfl g4 (X_p (p_move rfl rfl) ?_)
     refine L_cases (d := 29) rfl ?_ ?_
     ·intro g5; have g5' := g5; try simp only [td] at g5'
      refine L_yes rfl rfl rfl g5 (X_p (p_move rfl rfl) ?_)
      refine L_yes rfl rfl rfl g5 (X_p (p_leq rfl rfl rfl) ?_)
      refine L_yes rfl rfl rfl g4 (X_p (p_pick_t rfl rfl g5 rfl) ?_)
      refine L_yes rfl rfl rfl g4 (X_p (p_not rfl rfl) ?_)
      refine L_yes rfl rfl rfl g3 (X_p (p_pick_t rfl rfl g4 rfl) ?_)
      refine L_yes rfl rfl rfl g2 (X_p (p_pick_f rfl rfl g3 rfl) ?_)
      refine Lp rfl (p_pick_t rfl rfl g2 rfl) ?_
      refine L_then (kp [0, 6, 7, 8, 36] rfl) ?_
      refine V_cond rfl ?_ ?_
      ·intro c2; try simp only [td] at c2
       refine Vs rfl ?_
       refine La rfl rfl rfl ?_
       refine L_then (kp [2] rfl) ?_
       refine V_ret (blk_r (then_r (then_r (blk_r (then_r ?_)))))
       refine Leave.nil (.tmp rfl .nil) ?_
       first | (show Value.bool false = _; rw [nameOk_bad (k := k.toNat) (by omega) (by simp only [nameC, small, Bool.or_eq_true, Bool.and_eq_true, decide_eq_true_eq, decide_eq_false_iff_not, ← Bool.not_eq_true]; omega)]; done) | (show Value.bool (!(oP _ _ _)) = _; rw [nameOk_end (fun j hj => hkn j (by omega))])
      intro c2; try simp only [td] at c2
      refine V_skip (blk_n (then_n ?_))
      refine V_region rfl ?_
      first | refine Lp rfl (p_add' rfl rfl rfl (by unfold InI; omega)) ?_ | refine Lp rfl (p_add rfl rfl rfl) ?_
      refine Lm rfl rfl rfl ?_
      refine L_keep (kp [0, 6, 7, 8] rfl) (then_n ?_)
      refine ⟨k + 1, ?_, ?_, (.cons rfl (.cons rfl (.cons rfl (.cons rfl (.nil _))))), (by repeat (first | exact List.Sublist.refl _ | apply List.Sublist.cons_cons | apply List.Sublist.cons | apply List.sublist_append_of_sublist_right)), rfl⟩
      ·refine ⟨by omega, by omega, fun j hj => ?_⟩; by_cases e : (j : Int) < k
       ·exact hkn j e
       have ej : j = k.toNat := by omega
       rw [ej]; simp only [nameC, small, Bool.or_eq_true, Bool.and_eq_true, decide_eq_true_eq, decide_eq_false_iff_not, ← Bool.not_eq_true]; omega
      omega
     intro g5; have g5' := g5; try simp only [td] at g5'
     iterate 2 refine L_no rfl rfl rfl g5 ?_
     refine L_yes rfl rfl rfl g4 (X_p (p_pick_f rfl rfl g5 rfl) ?_)
     refine L_yes rfl rfl rfl g4 (X_p (p_not rfl rfl) ?_)
     refine L_yes rfl rfl rfl g3 (X_p (p_pick_t rfl rfl g4 rfl) ?_)
     refine L_yes rfl rfl rfl g2 (X_p (p_pick_f rfl rfl g3 rfl) ?_)
     refine Lp rfl (p_pick_t rfl rfl g2 rfl) ?_
     refine L_then (kp [0, 6, 7, 8, 36] rfl) ?_
     refine V_cond_t rfl rfl ?_
     refine Vs rfl ?_
     refine La rfl rfl rfl ?_
     refine L_then (kp [2] rfl) ?_
     refine V_ret (blk_r (then_r (then_r (blk_r (then_r ?_)))))
     refine Leave.nil (.tmp rfl .nil) ?_
     first | (show Value.bool false = _; rw [nameOk_bad (k := k.toNat) (by omega) (by simp only [nameC, small, Bool.or_eq_true, Bool.and_eq_true, decide_eq_true_eq, decide_eq_false_iff_not, ← Bool.not_eq_true]; omega)]; done) | (show Value.bool (!(oP _ _ _)) = _; rw [nameOk_end (fun j hj => hkn j (by omega))])
    intro g4; have g4' := g4; try simp only [td] at g4'
    iterate 3 refine L_no rfl rfl rfl g4 ?_
    iterate 2 refine L_nou rfl rfl rfl ?_
    iterate 2 refine L_no rfl rfl rfl g4 ?_
    refine L_yes rfl rfl rfl g3 (X_p (p_pick_f rfl rfl g4 rfl) ?_)
    refine L_yes rfl rfl rfl g2 (X_p (p_pick_f rfl rfl g3 rfl) ?_)
    refine Lp rfl (p_pick_t rfl rfl g2 rfl) ?_
    refine L_then (kp [0, 6, 7, 8, 36] rfl) ?_
    refine V_cond_f rfl rfl ?_
    refine V_skip (blk_n (then_n ?_))
    refine V_region rfl ?_
    first | refine Lp rfl (p_add' rfl rfl rfl (by unfold InI; omega)) ?_ | refine Lp rfl (p_add rfl rfl rfl) ?_
    refine Lm rfl rfl rfl ?_
    refine L_keep (kp [0, 6, 7, 8] rfl) (then_n ?_)
    refine ⟨k + 1, ?_, ?_, (.cons rfl (.cons rfl (.cons rfl (.cons rfl (.nil _))))), (by repeat (first | exact List.Sublist.refl _ | apply List.Sublist.cons_cons | apply List.Sublist.cons | apply List.sublist_append_of_sublist_right)), rfl⟩
    ·refine ⟨by omega, by omega, fun j hj => ?_⟩; by_cases e : (j : Int) < k
     ·exact hkn j e
     have ej : j = k.toNat := by omega
     rw [ej]; simp only [nameC, small, Bool.or_eq_true, Bool.and_eq_true, decide_eq_true_eq, decide_eq_false_iff_not, ← Bool.not_eq_true]; omega
    omega
   intro g2; have g2' := g2; try simp only [td] at g2'
   iterate 3 refine L_no rfl rfl rfl g2 ?_
   iterate 11 refine L_nou rfl rfl rfl ?_
   refine L_no rfl rfl rfl g2 ?_
   refine Lp rfl (p_pick_f rfl rfl g2 rfl) ?_
   refine L_then (kp [0, 6, 7, 8, 36] rfl) ?_
   refine V_cond_f rfl rfl ?_
   refine V_skip (blk_n (then_n ?_))
   refine V_region rfl ?_
   first | refine Lp rfl (p_add' rfl rfl rfl (by unfold InI; omega)) ?_ | refine Lp rfl (p_add rfl rfl rfl) ?_
   refine Lm rfl rfl rfl ?_
   refine L_keep (kp [0, 6, 7, 8] rfl) (then_n ?_)
   refine ⟨k + 1, ?_, ?_, (.cons rfl (.cons rfl (.cons rfl (.cons rfl (.nil _))))), (by repeat (first | exact List.Sublist.refl _ | apply List.Sublist.cons_cons | apply List.Sublist.cons | apply List.sublist_append_of_sublist_right)), rfl⟩
   ·refine ⟨by omega, by omega, fun j hj => ?_⟩; by_cases e : (j : Int) < k
    ·exact hkn j e
    have ej : j = k.toNat := by omega
    rw [ej]; simp only [nameC, small, Bool.or_eq_true, Bool.and_eq_true, decide_eq_true_eq, decide_eq_false_iff_not, ← Bool.not_eq_true]; omega
   omega
  intro g1; have g1' := g1; try simp only [td] at g1'
  iterate 2 refine L_no rfl rfl rfl g1 ?_
  refine Lp rfl (p_pick_f rfl rfl g1 rfl) ?_
  refine Lp rfl (p_not rfl rfl) ?_
  refine Lm rfl rfl rfl ?_
  refine L_yes rfl rfl rfl rfl (X_p (p_move rfl rfl) ?_)
  refine L_yes rfl rfl rfl rfl (X_p (p_eql rfl rfl rfl) ?_)
  refine L_yes rfl rfl rfl rfl (X_p (p_move rfl rfl) ?_)
  refine L_cases (d := 23) rfl ?_ ?_
  ·intro g6; have g6' := g6; try simp only [td] at g6'
   iterate 3 refine L_no rfl rfl rfl g6 ?_
   iterate 7 refine L_nou rfl rfl rfl ?_
   refine L_no rfl rfl rfl g6 ?_
   refine L_yes rfl rfl rfl rfl (X_p (p_pick_t rfl rfl g6 rfl) ?_)
   refine Lp rfl (p_pick_t rfl rfl rfl rfl) ?_
   refine L_then (kp [0, 6, 7, 8, 36] rfl) ?_
   refine V_cond_t rfl rfl ?_
   refine Vs rfl ?_
   refine La rfl rfl rfl ?_
   refine L_then (kp [2] rfl) ?_
   refine V_ret (blk_r (then_r (then_r (blk_r (then_r ?_)))))
   refine Leave.nil (.tmp rfl .nil) ?_
   first | (show Value.bool false = _; rw [nameOk_bad (k := k.toNat) (by omega) (by simp only [nameC, small, Bool.or_eq_true, Bool.and_eq_true, decide_eq_true_eq, decide_eq_false_iff_not, ← Bool.not_eq_true]; omega)]; done) | (show Value.bool (!(oP _ _ _)) = _; rw [nameOk_end (fun j hj => hkn j (by omega))])
  intro g6; have g6' := g6; try simp only [td] at g6'
  refine L_yes rfl rfl rfl g6 (X_p (p_move rfl rfl) ?_)
  refine L_yes rfl rfl rfl g6 (X_p (p_neq rfl rfl rfl) ?_)
  refine L_yes rfl rfl rfl g6 (X_p (p_move rfl rfl) ?_)
  refine L_cases (d := 26) rfl ?_ ?_
  ·intro g7; have g7' := g7; try simp only [td] at g7'
   refine L_yes rfl rfl rfl g7 (X_p (p_move rfl rfl) ?_)
   refine L_yes rfl rfl rfl g7 (X_p (p_geq rfl rfl rfl) ?_)
   refine L_yes rfl rfl rfl g7 (X_p (p_move rfl rfl) ?_)
   refine L_cases (d := 29) rfl ?_ ?_
   ·intro g8; have g8' := g8; try simp only [td] at g8'
    refine L_yes rfl rfl rfl g8 (X_p (p_move rfl rfl) ?_)
    refine L_yes rfl rfl rfl g8 (X_p (p_leq rfl rfl rfl) ?_)
    refine L_yes rfl rfl rfl g7 (X_p (p_pick_t rfl rfl g8 rfl) ?_)
    refine L_yes rfl rfl rfl g7 (X_p (p_not rfl rfl) ?_)
    refine L_yes rfl rfl rfl g6 (X_p (p_pick_t rfl rfl g7 rfl) ?_)
    refine L_yes rfl rfl rfl rfl (X_p (p_pick_f rfl rfl g6 rfl) ?_)
    refine Lp rfl (p_pick_t rfl rfl rfl rfl) ?_
    refine L_then (kp [0, 6, 7, 8, 36] rfl) ?_
    refine V_cond rfl ?_ ?_
    ·intro c3; try simp only [td] at c3
     refine Vs rfl ?_
     refine La rfl rfl rfl ?_
     refine L_then (kp [2] rfl) ?_
     refine V_ret (blk_r (then_r (then_r (blk_r (then_r ?_)))))
     refine Leave.nil (.tmp rfl .nil) ?_
     first | (show Value.bool false = _; rw [nameOk_bad (k := k.toNat) (by omega) (by simp only [nameC, small, Bool.or_eq_true, Bool.and_eq_true, decide_eq_true_eq, decide_eq_false_iff_not, ← Bool.not_eq_true]; omega)]; done) | (show Value.bool (!(oP _ _ _)) = _; rw [nameOk_end (fun j hj => hkn j (by omega))])
    intro c3; try simp only [td] at c3
    refine V_skip (blk_n (then_n ?_))
    refine V_region rfl ?_
    first | refine Lp rfl (p_add' rfl rfl rfl (by unfold InI; omega)) ?_ | refine Lp rfl (p_add rfl rfl rfl) ?_
    refine Lm rfl rfl rfl ?_
    refine L_keep (kp [0, 6, 7, 8] rfl) (then_n ?_)
    refine ⟨k + 1, ?_, ?_, (.cons rfl (.cons rfl (.cons rfl (.cons rfl (.nil _))))), (by repeat (first | exact List.Sublist.refl _ | apply List.Sublist.cons_cons | apply List.Sublist.cons | apply List.sublist_append_of_sublist_right)), rfl⟩
    ·refine ⟨by omega, by omega, fun j hj => ?_⟩; by_cases e : (j : Int) < k
     ·exact hkn j e
     have ej : j = k.toNat := by omega
     rw [ej]; simp only [nameC, small, Bool.or_eq_true, Bool.and_eq_true, decide_eq_true_eq, decide_eq_false_iff_not, ← Bool.not_eq_true]; omega
    omega
   intro g8; have g8' := g8; try simp only [td] at g8'
   iterate 2 refine L_no rfl rfl rfl g8 ?_
   refine L_yes rfl rfl rfl g7 (X_p (p_pick_f rfl rfl g8 rfl) ?_)
   refine L_yes rfl rfl rfl g7 (X_p (p_not rfl rfl) ?_)
   refine L_yes rfl rfl rfl g6 (X_p (p_pick_t rfl rfl g7 rfl) ?_)
   refine L_yes rfl rfl rfl rfl (X_p (p_pick_f rfl rfl g6 rfl) ?_)
   refine Lp rfl (p_pick_t rfl rfl rfl rfl) ?_
   refine L_then (kp [0, 6, 7, 8, 36] rfl) ?_
   refine V_cond_t rfl rfl ?_
   refine Vs rfl ?_
   refine La rfl rfl rfl ?_
   refine L_then (kp [2] rfl) ?_
   refine V_ret (blk_r (then_r (then_r (blk_r (then_r ?_)))))
   refine Leave.nil (.tmp rfl .nil) ?_
   first | (show Value.bool false = _; rw [nameOk_bad (k := k.toNat) (by omega) (by simp only [nameC, small, Bool.or_eq_true, Bool.and_eq_true, decide_eq_true_eq, decide_eq_false_iff_not, ← Bool.not_eq_true]; omega)]; done) | (show Value.bool (!(oP _ _ _)) = _; rw [nameOk_end (fun j hj => hkn j (by omega))])
  intro g7; have g7' := g7; try simp only [td] at g7'
  iterate 3 refine L_no rfl rfl rfl g7 ?_
  iterate 2 refine L_nou rfl rfl rfl ?_
  iterate 2 refine L_no rfl rfl rfl g7 ?_
  refine L_yes rfl rfl rfl g6 (X_p (p_pick_f rfl rfl g7 rfl) ?_)
  refine L_yes rfl rfl rfl rfl (X_p (p_pick_f rfl rfl g6 rfl) ?_)
  refine Lp rfl (p_pick_t rfl rfl rfl rfl) ?_
  refine L_then (kp [0, 6, 7, 8, 36] rfl) ?_
  refine V_cond_f rfl rfl ?_
  refine V_skip (blk_n (then_n ?_))
  refine V_region rfl ?_
  first | refine Lp rfl (p_add' rfl rfl rfl (by unfold InI; omega)) ?_ | refine Lp rfl (p_add rfl rfl rfl) ?_
  refine Lm rfl rfl rfl ?_
  refine L_keep (kp [0, 6, 7, 8] rfl) (then_n ?_)
  refine ⟨k + 1, ?_, ?_, (.cons rfl (.cons rfl (.cons rfl (.cons rfl (.nil _))))), (by repeat (first | exact List.Sublist.refl _ | apply List.Sublist.cons_cons | apply List.Sublist.cons | apply List.sublist_append_of_sublist_right)), rfl⟩
  ·refine ⟨by omega, by omega, fun j hj => ?_⟩; by_cases e : (j : Int) < k
   ·exact hkn j e
   have ej : j = k.toNat := by omega
   rw [ej]; simp only [nameC, small, Bool.or_eq_true, Bool.and_eq_true, decide_eq_true_eq, decide_eq_false_iff_not, ← Bool.not_eq_true]; omega
  omega
 intro c1; try simp only [td] at c1
 refine V_exit (then_e (then_e (blk_e rfl (then_n ?_))))
 refine Vs rfl ?_
 refine Lm rfl rfl rfl ?_
 refine Lp rfl (p_lens ist9 rfl rfl) ?_
 refine Lc rfl rfl rfl rfl (fun w hg => wout_c _ _ _ w) ?_
 refine Lp rfl (p_not rfl rfl) ?_
 refine La rfl rfl rfl ?_
 refine L_then (kp [2] rfl) ?_
 refine V_ret ?_
 refine Leave.nil (.tmp rfl .nil) ?_
 first | (show Value.bool false = _; rw [nameOk_bad (k := k.toNat) (by omega) (by simp only [nameC, small, Bool.or_eq_true, Bool.and_eq_true, decide_eq_true_eq, decide_eq_false_iff_not, ← Bool.not_eq_true]; omega)]; done) | (show Value.bool (!(oP _ _ _)) = _; rw [nameOk_end (fun j hj => hkn j (by omega))])
theorem rname_c (s : ByteArray) (hs : (s.size : Int) ≤ 9223372036854775807) (w : World) : FnP Tryz.prog 100 [.string s] w (.bool (nameOk s)) := by
 refine fn_pure Tryz.func100 rfl (by kernel_rfl) Tryz.ntmps100 Tryz.results100 rfl ?_
 refine Vs rfl ?_
 refine La rfl rfl rfl ?_
 refine L_then (kp [0] rfl) ?_
 refine V_seq ?_
 refine Vs rfl ?_
 refine Lm rfl rfl rfl ?_
 refine Lp rfl (p_lens ist9 rfl rfl) ?_
 refine Lp rfl (p_lss rfl rfl rfl) ?_
 refine Lm rfl rfl rfl ?_
 refine L_cases (d := 9) rfl ?_ ?_
 ·intro g1; have g1' := g1; try simp only [td] at g1'
  iterate 3 refine L_no rfl rfl rfl g1 ?_
  refine Lp rfl (p_pick_t rfl rfl g1 rfl) ?_
  refine L_then (kp [0, 13] rfl) ?_
  refine V_cond_t rfl rfl ?_
  refine Vs rfl ?_
  refine La rfl rfl rfl ?_
  refine L_then (kp [2] rfl) ?_
  refine V_ret (then_r ?_)
  refine Leave.nil (.tmp rfl .nil) ?_
  first | (show Value.bool false = _; rw [nameOk_bad (k := k.toNat) (by omega) (by simp only [nameC, small, Bool.or_eq_true, Bool.and_eq_true, decide_eq_true_eq, decide_eq_false_iff_not, ← Bool.not_eq_true]; omega)]; done) | (show Value.bool false = _; rw [nameOk_len (by omega)]; done) | (show Value.bool true = _; rw [nameOk_all (by omega) (by omega) (fun j hj => hkn j (by omega))])
 intro g1; have g1' := g1; try simp only [td] at g1'
 refine L_yes rfl rfl rfl g1 (X_p (p_move rfl rfl) ?_)
 refine L_yes rfl rfl rfl g1 (X_p (p_lens ist9 rfl rfl) ?_)
 refine L_yes rfl rfl rfl g1 (X_p (p_gtr rfl rfl rfl) ?_)
 refine Lp rfl (p_pick_f rfl rfl g1 rfl) ?_
 refine L_then (kp [0, 13] rfl) ?_
 refine V_cond rfl ?_ ?_
 ·intro c1; try simp only [td] at c1
  refine Vs rfl ?_
  refine La rfl rfl rfl ?_
  refine L_then (kp [2] rfl) ?_
  refine V_ret (then_r ?_)
  refine Leave.nil (.tmp rfl .nil) ?_
  first | (show Value.bool false = _; rw [nameOk_bad (k := k.toNat) (by omega) (by simp only [nameC, small, Bool.or_eq_true, Bool.and_eq_true, decide_eq_true_eq, decide_eq_false_iff_not, ← Bool.not_eq_true]; omega)]; done) | (show Value.bool false = _; rw [nameOk_len (by omega)]; done) | (show Value.bool true = _; rw [nameOk_all (by omega) (by omega) (fun j hj => hkn j (by omega))])
 intro c1; try simp only [td] at c1
 refine V_skip (then_n ?_)
 refine V_seq ?_
 refine Vs rfl ?_
 refine La rfl rfl rfl ?_
 refine L_then (kp [0, 3] rfl) ?_
 refine V_block ?_
 refine V_loop0 (γ := Int) (kp [0] rfl) (fun k => [(3, .int .i64 k)]) (fun k => 0 ≤ k ∧ k ≤ s.size ∧ ∀ j : Nat, (j : Int) < k → nameC s j = true) (fun k => (s.size - k).toNat) (0) (.cons rfl (.nil _)) (⟨by omega, by omega, fun j hj => by omega⟩) ?_
 rintro k hi
 obtain ⟨hk0, hk1, hkn⟩ := hi
 refine V_seq ?_
 refine Vs rfl ?_
 iterate 2 refine Lm rfl rfl rfl ?_
 refine Lp rfl (p_lens ist9 rfl rfl) ?_
 refine Lp rfl (p_lss rfl rfl rfl) ?_
 refine L_then (kp [0, 3, 17] rfl) ?_
 refine V_cond rfl ?_ ?_
 ·intro c2; try simp only [td] at c2
  refine V_skip (then_n ?_)
  refine V_seq ?_
  refine V_block ?_
  refine Vs rfl ?_
  iterate 2 refine Lm rfl rfl rfl ?_
  refine Lp rfl (p_chr un9 rfl rfl rfl (by omega) (by omega)) ?_
  refine La rfl rfl rfl ?_
  refine L_then (kp [0, 3, 4] rfl) ?_
  refine Vs rfl ?_
  refine Lm rfl rfl rfl ?_
  refine Lp rfl (p_geq rfl rfl rfl) ?_
  refine Lm rfl rfl rfl ?_
  refine L_cases (d := 25) rfl ?_ ?_
  ·intro g2; have g2' := g2; try simp only [td] at g2'
   refine L_yes rfl rfl rfl g2 (X_p (p_move rfl rfl) ?_)
   refine L_yes rfl rfl rfl g2 (X_p (p_leq rfl rfl rfl) ?_)
   refine Lp rfl (p_pick_t rfl rfl g2 rfl) ?_
   refine La rfl rfl rfl ?_
   refine L_then (kp [0, 3, 4, 5] rfl) ?_
   refine Vs rfl ?_
   refine Lm rfl rfl rfl ?_
   refine Lp rfl (p_not rfl rfl) ?_
   refine Lm rfl rfl rfl ?_
   refine L_cases (d := 31) rfl ?_ ?_
   ·intro g3; have g3' := g3; try simp only [td] at g3'
    refine L_yes rfl rfl rfl g3 (X_p (p_move rfl rfl) ?_)
    refine L_yes rfl rfl rfl g3 (X_p (p_eql rfl rfl rfl) ?_)
    refine L_yes rfl rfl rfl g3 (X_p (p_move rfl rfl) ?_)
    refine L_cases (d := 34) rfl ?_ ?_
    ·intro g4; have g4' := g4; try simp only [td] at g4'
     iterate 3 refine L_no rfl rfl rfl g4 ?_
     iterate 2 refine L_nou rfl rfl rfl ?_
     iterate 2 refine L_no rfl rfl rfl g4 ?_
     iterate 2 refine L_nou rfl rfl rfl ?_
     iterate 2 refine L_no rfl rfl rfl g4 ?_
     refine L_yes rfl rfl rfl g3 (X_p (p_pick_t rfl rfl g4 rfl) ?_)
     refine Lp rfl (p_pick_t rfl rfl g3 rfl) ?_
     refine L_then (kp [0, 3, 47] rfl) ?_
     refine V_cond_t rfl rfl ?_
     refine Vs rfl ?_
     refine La rfl rfl rfl ?_
     refine L_then (kp [2] rfl) ?_
     refine V_ret (blk_r (then_r (then_r (blk_r (then_r ?_)))))
     refine Leave.nil (.tmp rfl .nil) ?_
     first | (show Value.bool false = _; rw [nameOk_bad (k := k.toNat) (by omega) (by simp only [nameC, small, Bool.or_eq_true, Bool.and_eq_true, decide_eq_true_eq, decide_eq_false_iff_not, ← Bool.not_eq_true]; omega)]; done) | (show Value.bool false = _; rw [nameOk_len (by omega)]; done) | (show Value.bool true = _; rw [nameOk_all (by omega) (by omega) (fun j hj => hkn j (by omega))])
    intro g4; have g4' := g4; try simp only [td] at g4'
    refine L_yes rfl rfl rfl g4 (X_p (p_move rfl rfl) ?_)
    refine L_yes rfl rfl rfl g4 (X_p (p_geq rfl rfl rfl) ?_)
    refine L_yes rfl rfl rfl g4 (X_p (p_move rfl rfl) ?_)
    refine L_cases (d := 37) rfl ?_ ?_
    ·intro g5; have g5' := g5; try simp only [td] at g5'
     refine L_yes rfl rfl rfl g5 (X_p (p_move rfl rfl) ?_)
     refine L_yes rfl rfl rfl g5 (X_p (p_leq rfl rfl rfl) ?_)
     refine L_yes rfl rfl rfl g4 (X_p (p_pick_t rfl rfl g5 rfl) ?_)
     refine L_yes rfl rfl rfl g4 (X_p (p_move rfl rfl) ?_)
     refine L_cases (d := 41) rfl ?_ ?_
     ·intro g6; have g6' := g6; try simp only [td] at g6'
      iterate 2 refine L_no rfl rfl rfl g6 ?_
      refine L_yes rfl rfl rfl g4 (X_p (p_pick_t rfl rfl g6 rfl) ?_)
      refine L_yes rfl rfl rfl g4 (X_p (p_not rfl rfl) ?_)
      refine L_yes rfl rfl rfl g3 (X_p (p_pick_f rfl rfl g4 rfl) ?_)
      refine Lp rfl (p_pick_t rfl rfl g3 rfl) ?_
      refine L_then (kp [0, 3, 47] rfl) ?_
      refine V_cond_f rfl rfl ?_
      refine V_skip (blk_n (then_n ?_))
      refine V_region rfl ?_
      refine Lm rfl rfl rfl ?_
      first | refine Lp rfl (p_add' rfl rfl rfl (by unfold InI; omega)) ?_ | refine Lp rfl (p_add rfl rfl rfl) ?_
      refine La rfl rfl rfl ?_
      refine L_keep (kp [0, 3] rfl) (then_n ?_)
      refine ⟨k + 1, ?_, ?_, (.cons rfl (.cons rfl (.nil _))), (by repeat (first | exact List.Sublist.refl _ | apply List.Sublist.cons_cons | apply List.Sublist.cons | apply List.sublist_append_of_sublist_right)), rfl⟩
      ·refine ⟨by omega, by omega, fun j hj => ?_⟩; by_cases e : (j : Int) < k
       ·exact hkn j e
       have ej : j = k.toNat := by omega
       rw [ej]; simp only [nameC, small, Bool.or_eq_true, Bool.and_eq_true, decide_eq_true_eq, decide_eq_false_iff_not, ← Bool.not_eq_true]; omega
      omega
     intro g6; have g6' := g6; try simp only [td] at g6'
     refine L_yes rfl rfl rfl g6 (X_p (p_move rfl rfl) ?_)
     refine L_yes rfl rfl rfl g6 (X_p (p_eql rfl rfl rfl) ?_)
     refine L_yes rfl rfl rfl g4 (X_p (p_pick_f rfl rfl g6 rfl) ?_)
     refine L_yes rfl rfl rfl g4 (X_p (p_not rfl rfl) ?_)
     refine L_yes rfl rfl rfl g3 (X_p (p_pick_f rfl rfl g4 rfl) ?_)
     refine Lp rfl (p_pick_t rfl rfl g3 rfl) ?_
     refine L_then (kp [0, 3, 47] rfl) ?_
     refine V_cond rfl ?_ ?_
     ·intro c3; try simp only [td] at c3
      refine Vs rfl ?_
      refine La rfl rfl rfl ?_
      refine L_then (kp [2] rfl) ?_
      refine V_ret (blk_r (then_r (then_r (blk_r (then_r ?_)))))
      refine Leave.nil (.tmp rfl .nil) ?_
      first | (show Value.bool false = _; rw [nameOk_bad (k := k.toNat) (by omega) (by simp only [nameC, small, Bool.or_eq_true, Bool.and_eq_true, decide_eq_true_eq, decide_eq_false_iff_not, ← Bool.not_eq_true]; omega)]; done) | (show Value.bool false = _; rw [nameOk_len (by omega)]; done) | (show Value.bool true = _; rw [nameOk_all (by omega) (by omega) (fun j hj => hkn j (by omega))])
     intro c3; try simp only [td] at c3
     refine V_skip (blk_n (then_n ?_))
     refine V_region rfl ?_
     refine Lm rfl rfl rfl ?_
     first | refine Lp rfl (p_add' rfl rfl rfl (by unfold InI; omega)) ?_ | refine Lp rfl (p_add rfl rfl rfl) ?_
     refine La rfl rfl rfl ?_
     refine L_keep (kp [0, 3] rfl) (then_n ?_)
     refine ⟨k + 1, ?_, ?_, (.cons rfl (.cons rfl (.nil _))), (by repeat (first | exact List.Sublist.refl _ | apply List.Sublist.cons_cons | apply List.Sublist.cons | apply List.sublist_append_of_sublist_right)), rfl⟩
     ·refine ⟨by omega, by omega, fun j hj => ?_⟩; by_cases e : (j : Int) < k
      ·exact hkn j e
      have ej : j = k.toNat := by omega
      rw [ej]; simp only [nameC, small, Bool.or_eq_true, Bool.and_eq_true, decide_eq_true_eq, decide_eq_false_iff_not, ← Bool.not_eq_true]; omega
     omega
    intro g5; have g5' := g5; try simp only [td] at g5'
    iterate 2 refine L_no rfl rfl rfl g5 ?_
    refine L_yes rfl rfl rfl g4 (X_p (p_pick_f rfl rfl g5 rfl) ?_)
    refine L_yes rfl rfl rfl g4 (X_p (p_move rfl rfl) ?_)
    refine L_yes rfl rfl rfl rfl (X_p (p_move rfl rfl) ?_)
    refine L_yes rfl rfl rfl rfl (X_p (p_eql rfl rfl rfl) ?_)
    refine L_yes rfl rfl rfl g4 (X_p (p_pick_f rfl rfl rfl rfl) ?_)
    refine L_yes rfl rfl rfl g4 (X_p (p_not rfl rfl) ?_)
    refine L_yes rfl rfl rfl g3 (X_p (p_pick_f rfl rfl g4 rfl) ?_)
    refine Lp rfl (p_pick_t rfl rfl g3 rfl) ?_
    refine L_then (kp [0, 3, 47] rfl) ?_
    refine V_cond rfl ?_ ?_
    ·intro c4; try simp only [td] at c4
     refine Vs rfl ?_
     refine La rfl rfl rfl ?_
     refine L_then (kp [2] rfl) ?_
     refine V_ret (blk_r (then_r (then_r (blk_r (then_r ?_)))))
     refine Leave.nil (.tmp rfl .nil) ?_
     first | (show Value.bool false = _; rw [nameOk_bad (k := k.toNat) (by omega) (by simp only [nameC, small, Bool.or_eq_true, Bool.and_eq_true, decide_eq_true_eq, decide_eq_false_iff_not, ← Bool.not_eq_true]; omega)]; done) | (show Value.bool false = _; rw [nameOk_len (by omega)]; done) | (show Value.bool true = _; rw [nameOk_all (by omega) (by omega) (fun j hj => hkn j (by omega))])
    intro c4; try simp only [td] at c4
    refine V_skip (blk_n (then_n ?_))
    refine V_region rfl ?_
    refine Lm rfl rfl rfl ?_
    first | refine Lp rfl (p_add' rfl rfl rfl (by unfold InI; omega)) ?_ | refine Lp rfl (p_add rfl rfl rfl) ?_
    refine La rfl rfl rfl ?_
    refine L_keep (kp [0, 3] rfl) (then_n ?_)
    refine ⟨k + 1, ?_, ?_, (.cons rfl (.cons rfl (.nil _))), (by repeat (first | exact List.Sublist.refl _ | apply List.Sublist.cons_cons | apply List.Sublist.cons | apply List.sublist_append_of_sublist_right)), rfl⟩
    ·refine ⟨by omega, by omega, fun j hj => ?_⟩; by_cases e : (j : Int) < k
     ·exact hkn j e
     have ej : j = k.toNat := by omega
     rw [ej]; simp only [nameC, small, Bool.or_eq_true, Bool.and_eq_true, decide_eq_true_eq, decide_eq_false_iff_not, ← Bool.not_eq_true]; omega
    omega
   intro g3; have g3' := g3; try simp only [td] at g3'
   iterate 3 refine L_no rfl rfl rfl g3 ?_
   iterate 11 refine L_nou rfl rfl rfl ?_
   refine L_no rfl rfl rfl g3 ?_
   refine Lp rfl (p_pick_f rfl rfl g3 rfl) ?_
   refine L_then (kp [0, 3, 47] rfl) ?_
   refine V_cond_f rfl rfl ?_
   refine V_skip (blk_n (then_n ?_))
   refine V_region rfl ?_
   refine Lm rfl rfl rfl ?_
   first | refine Lp rfl (p_add' rfl rfl rfl (by unfold InI; omega)) ?_ | refine Lp rfl (p_add rfl rfl rfl) ?_
   refine La rfl rfl rfl ?_
   refine L_keep (kp [0, 3] rfl) (then_n ?_)
   refine ⟨k + 1, ?_, ?_, (.cons rfl (.cons rfl (.nil _))), (by repeat (first | exact List.Sublist.refl _ | apply List.Sublist.cons_cons | apply List.Sublist.cons | apply List.sublist_append_of_sublist_right)), rfl⟩
   ·refine ⟨by omega, by omega, fun j hj => ?_⟩; by_cases e : (j : Int) < k
    ·exact hkn j e
    have ej : j = k.toNat := by omega
    rw [ej]; simp only [nameC, small, Bool.or_eq_true, Bool.and_eq_true, decide_eq_true_eq, decide_eq_false_iff_not, ← Bool.not_eq_true]; omega
   omega
  intro g2; have g2' := g2; try simp only [td] at g2'
  iterate 2 refine L_no rfl rfl rfl g2 ?_
  refine Lp rfl (p_pick_f rfl rfl g2 rfl) ?_
  refine La rfl rfl rfl ?_
  refine L_then (kp [0, 3, 4, 5] rfl) ?_
  refine Vs rfl ?_
  refine Lm rfl rfl rfl ?_
  refine Lp rfl (p_not rfl rfl) ?_
  refine Lm rfl rfl rfl ?_
  refine L_yes rfl rfl rfl rfl (X_p (p_move rfl rfl) ?_)
  refine L_yes rfl rfl rfl rfl (X_p (p_eql rfl rfl rfl) ?_)
  refine L_yes rfl rfl rfl rfl (X_p (p_move rfl rfl) ?_)
  refine L_cases (d := 34) rfl ?_ ?_
  ·intro g7; have g7' := g7; try simp only [td] at g7'
   iterate 3 refine L_no rfl rfl rfl g7 ?_
   iterate 2 refine L_nou rfl rfl rfl ?_
   iterate 2 refine L_no rfl rfl rfl g7 ?_
   iterate 2 refine L_nou rfl rfl rfl ?_
   iterate 2 refine L_no rfl rfl rfl g7 ?_
   refine L_yes rfl rfl rfl rfl (X_p (p_pick_t rfl rfl g7 rfl) ?_)
   refine Lp rfl (p_pick_t rfl rfl rfl rfl) ?_
   refine L_then (kp [0, 3, 47] rfl) ?_
   refine V_cond_t rfl rfl ?_
   refine Vs rfl ?_
   refine La rfl rfl rfl ?_
   refine L_then (kp [2] rfl) ?_
   refine V_ret (blk_r (then_r (then_r (blk_r (then_r ?_)))))
   refine Leave.nil (.tmp rfl .nil) ?_
   first | (show Value.bool false = _; rw [nameOk_bad (k := k.toNat) (by omega) (by simp only [nameC, small, Bool.or_eq_true, Bool.and_eq_true, decide_eq_true_eq, decide_eq_false_iff_not, ← Bool.not_eq_true]; omega)]; done) | (show Value.bool false = _; rw [nameOk_len (by omega)]; done) | (show Value.bool true = _; rw [nameOk_all (by omega) (by omega) (fun j hj => hkn j (by omega))])
  intro g7; have g7' := g7; try simp only [td] at g7'
  refine L_yes rfl rfl rfl g7 (X_p (p_move rfl rfl) ?_)
  refine L_yes rfl rfl rfl g7 (X_p (p_geq rfl rfl rfl) ?_)
  refine L_yes rfl rfl rfl g7 (X_p (p_move rfl rfl) ?_)
  refine L_cases (d := 37) rfl ?_ ?_
  ·intro g8; have g8' := g8; try simp only [td] at g8'
   refine L_yes rfl rfl rfl g8 (X_p (p_move rfl rfl) ?_)
   refine L_yes rfl rfl rfl g8 (X_p (p_leq rfl rfl rfl) ?_)
   refine L_yes rfl rfl rfl g7 (X_p (p_pick_t rfl rfl g8 rfl) ?_)
   refine L_yes rfl rfl rfl g7 (X_p (p_move rfl rfl) ?_)
   refine L_cases (d := 41) rfl ?_ ?_
   ·intro g9; have g9' := g9; try simp only [td] at g9'
    iterate 2 refine L_no rfl rfl rfl g9 ?_
    refine L_yes rfl rfl rfl g7 (X_p (p_pick_t rfl rfl g9 rfl) ?_)
    refine L_yes rfl rfl rfl g7 (X_p (p_not rfl rfl) ?_)
    refine L_yes rfl rfl rfl rfl (X_p (p_pick_f rfl rfl g7 rfl) ?_)
    refine Lp rfl (p_pick_t rfl rfl rfl rfl) ?_
    refine L_then (kp [0, 3, 47] rfl) ?_
    refine V_cond_f rfl rfl ?_
    refine V_skip (blk_n (then_n ?_))
    refine V_region rfl ?_
    refine Lm rfl rfl rfl ?_
    first | refine Lp rfl (p_add' rfl rfl rfl (by unfold InI; omega)) ?_ | refine Lp rfl (p_add rfl rfl rfl) ?_
    refine La rfl rfl rfl ?_
    refine L_keep (kp [0, 3] rfl) (then_n ?_)
    refine ⟨k + 1, ?_, ?_, (.cons rfl (.cons rfl (.nil _))), (by repeat (first | exact List.Sublist.refl _ | apply List.Sublist.cons_cons | apply List.Sublist.cons | apply List.sublist_append_of_sublist_right)), rfl⟩
    ·refine ⟨by omega, by omega, fun j hj => ?_⟩; by_cases e : (j : Int) < k
     ·exact hkn j e
     have ej : j = k.toNat := by omega
     rw [ej]; simp only [nameC, small, Bool.or_eq_true, Bool.and_eq_true, decide_eq_true_eq, decide_eq_false_iff_not, ← Bool.not_eq_true]; omega
    omega
   intro g9; have g9' := g9; try simp only [td] at g9'
   refine L_yes rfl rfl rfl g9 (X_p (p_move rfl rfl) ?_)
   refine L_yes rfl rfl rfl g9 (X_p (p_eql rfl rfl rfl) ?_)
   refine L_yes rfl rfl rfl g7 (X_p (p_pick_f rfl rfl g9 rfl) ?_)
   refine L_yes rfl rfl rfl g7 (X_p (p_not rfl rfl) ?_)
   refine L_yes rfl rfl rfl rfl (X_p (p_pick_f rfl rfl g7 rfl) ?_)
   refine Lp rfl (p_pick_t rfl rfl rfl rfl) ?_
   refine L_then (kp [0, 3, 47] rfl) ?_
   refine V_cond rfl ?_ ?_
   ·intro c5; try simp only [td] at c5
    refine Vs rfl ?_
    refine La rfl rfl rfl ?_
    refine L_then (kp [2] rfl) ?_
    refine V_ret (blk_r (then_r (then_r (blk_r (then_r ?_)))))
    refine Leave.nil (.tmp rfl .nil) ?_
    first | (show Value.bool false = _; rw [nameOk_bad (k := k.toNat) (by omega) (by simp only [nameC, small, Bool.or_eq_true, Bool.and_eq_true, decide_eq_true_eq, decide_eq_false_iff_not, ← Bool.not_eq_true]; omega)]; done) | (show Value.bool false = _; rw [nameOk_len (by omega)]; done) | (show Value.bool true = _; rw [nameOk_all (by omega) (by omega) (fun j hj => hkn j (by omega))])
   intro c5; try simp only [td] at c5
   refine V_skip (blk_n (then_n ?_))
   refine V_region rfl ?_
   refine Lm rfl rfl rfl ?_
   first | refine Lp rfl (p_add' rfl rfl rfl (by unfold InI; omega)) ?_ | refine Lp rfl (p_add rfl rfl rfl) ?_
   refine La rfl rfl rfl ?_
   refine L_keep (kp [0, 3] rfl) (then_n ?_)
   refine ⟨k + 1, ?_, ?_, (.cons rfl (.cons rfl (.nil _))), (by repeat (first | exact List.Sublist.refl _ | apply List.Sublist.cons_cons | apply List.Sublist.cons | apply List.sublist_append_of_sublist_right)), rfl⟩
   ·refine ⟨by omega, by omega, fun j hj => ?_⟩; by_cases e : (j : Int) < k
    ·exact hkn j e
    have ej : j = k.toNat := by omega
    rw [ej]; simp only [nameC, small, Bool.or_eq_true, Bool.and_eq_true, decide_eq_true_eq, decide_eq_false_iff_not, ← Bool.not_eq_true]; omega
   omega
  intro g8; have g8' := g8; try simp only [td] at g8'
  iterate 2 refine L_no rfl rfl rfl g8 ?_
  refine L_yes rfl rfl rfl g7 (X_p (p_pick_f rfl rfl g8 rfl) ?_)
  refine L_yes rfl rfl rfl g7 (X_p (p_move rfl rfl) ?_)
  refine L_yes rfl rfl rfl rfl (X_p (p_move rfl rfl) ?_)
  refine L_yes rfl rfl rfl rfl (X_p (p_eql rfl rfl rfl) ?_)
  refine L_yes rfl rfl rfl g7 (X_p (p_pick_f rfl rfl rfl rfl) ?_)
  refine L_yes rfl rfl rfl g7 (X_p (p_not rfl rfl) ?_)
  refine L_yes rfl rfl rfl rfl (X_p (p_pick_f rfl rfl g7 rfl) ?_)
  refine Lp rfl (p_pick_t rfl rfl rfl rfl) ?_
  refine L_then (kp [0, 3, 47] rfl) ?_
  refine V_cond rfl ?_ ?_
  ·intro c6; try simp only [td] at c6
   refine Vs rfl ?_
   refine La rfl rfl rfl ?_
   refine L_then (kp [2] rfl) ?_
   refine V_ret (blk_r (then_r (then_r (blk_r (then_r ?_)))))
   refine Leave.nil (.tmp rfl .nil) ?_
   first | (show Value.bool false = _; rw [nameOk_bad (k := k.toNat) (by omega) (by simp only [nameC, small, Bool.or_eq_true, Bool.and_eq_true, decide_eq_true_eq, decide_eq_false_iff_not, ← Bool.not_eq_true]; omega)]; done) | (show Value.bool false = _; rw [nameOk_len (by omega)]; done) | (show Value.bool true = _; rw [nameOk_all (by omega) (by omega) (fun j hj => hkn j (by omega))])
  intro c6; try simp only [td] at c6
  refine V_skip (blk_n (then_n ?_))
  refine V_region rfl ?_
  refine Lm rfl rfl rfl ?_
  first | refine Lp rfl (p_add' rfl rfl rfl (by unfold InI; omega)) ?_ | refine Lp rfl (p_add rfl rfl rfl) ?_
  refine La rfl rfl rfl ?_
  refine L_keep (kp [0, 3] rfl) (then_n ?_)
  refine ⟨k + 1, ?_, ?_, (.cons rfl (.cons rfl (.nil _))), (by repeat (first | exact List.Sublist.refl _ | apply List.Sublist.cons_cons | apply List.Sublist.cons | apply List.sublist_append_of_sublist_right)), rfl⟩
  ·refine ⟨by omega, by omega, fun j hj => ?_⟩; by_cases e : (j : Int) < k
   ·exact hkn j e
   have ej : j = k.toNat := by omega
   rw [ej]; simp only [nameC, small, Bool.or_eq_true, Bool.and_eq_true, decide_eq_true_eq, decide_eq_false_iff_not, ← Bool.not_eq_true]; omega
  omega
 intro c2; try simp only [td] at c2
 refine V_exit (then_e (then_e (blk_e rfl (then_n ?_))))
 refine Vs rfl ?_
 refine La rfl rfl rfl ?_
 refine L_then (kp [2] rfl) ?_
 refine V_ret ?_
 refine Leave.nil (.tmp rfl .nil) ?_
 first | (show Value.bool false = _; rw [nameOk_bad (k := k.toNat) (by omega) (by simp only [nameC, small, Bool.or_eq_true, Bool.and_eq_true, decide_eq_true_eq, decide_eq_false_iff_not, ← Bool.not_eq_true]; omega)]; done) | (show Value.bool false = _; rw [nameOk_len (by omega)]; done) | (show Value.bool true = _; rw [nameOk_all (by omega) (by omega) (fun j hj => hkn j (by omega))])

end Go.Proofs.YtbncegfgjbdheaaGreat
