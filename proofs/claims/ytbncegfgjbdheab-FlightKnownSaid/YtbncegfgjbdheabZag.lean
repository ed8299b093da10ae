/- Joined texts. -/
import Derived.Test.YtbncegfgjbdheabZad
import Derived.Test.YtbncegfgjbdheabProg
import Derived.Test.YtbncegfgjbdheabZac
/- What the tables say of the types in hand. -/
set_option linter.all false
namespace Go.Proofs.Ytbncegfgjbdheab
open Go.Vc
theorem mixed : Try.prog.follows .mixedOrders = true := by kernel_rfl
theorem ag101 : tyAgg Try.prog 101 = some true := by kernel_rfl
theorem ag103 : tyAgg Try.prog 103 = some true := by kernel_rfl
theorem ag106 : tyAgg Try.prog 106 = some true := by kernel_rfl
theorem ag129 : tyAgg Try.prog 129 = some false := by kernel_rfl
theorem ag133 : tyAgg Try.prog 133 = some true := by kernel_rfl
theorem ag23 : tyAgg Try.prog 23 = some true := by kernel_rfl
theorem ag24 : tyAgg Try.prog 24 = some false := by kernel_rfl
theorem ag25 : tyAgg Try.prog 25 = some false := by kernel_rfl
theorem ag26 : tyAgg Try.prog 26 = some false := by kernel_rfl
theorem ag28 : tyAgg Try.prog 28 = some true := by kernel_rfl
theorem ag3 : tyAgg Try.prog 3 = some false := by kernel_rfl
theorem ag30 : tyAgg Try.prog 30 = some true := by kernel_rfl
theorem ag31 : tyAgg Try.prog 31 = some false := by kernel_rfl
theorem ag35 : tyAgg Try.prog 35 = some false := by kernel_rfl
theorem ag39 : tyAgg Try.prog 39 = some false := by kernel_rfl
theorem ag44 : tyAgg Try.prog 44 = some true := by kernel_rfl
theorem ag46 : tyAgg Try.prog 46 = some true := by kernel_rfl
theorem ag47 : tyAgg Try.prog 47 = some false := by kernel_rfl
theorem ag5 : tyAgg Try.prog 5 = some false := by kernel_rfl
theorem ag52 : tyAgg Try.prog 52 = some true := by kernel_rfl
theorem ag54 : tyAgg Try.prog 54 = some true := by kernel_rfl
theorem ag60 : tyAgg Try.prog 60 = some true := by kernel_rfl
theorem ag69 : tyAgg Try.prog 69 = some false := by kernel_rfl
theorem ag73 : tyAgg Try.prog 73 = some true := by kernel_rfl
theorem ag75 : tyAgg Try.prog 75 = some true := by kernel_rfl
theorem ag78 : tyAgg Try.prog 78 = some true := by kernel_rfl
theorem ag79 : tyAgg Try.prog 79 = some false := by kernel_rfl
theorem ag81 : tyAgg Try.prog 81 = some true := by kernel_rfl
theorem ag9 : tyAgg Try.prog 9 = some false := by kernel_rfl
theorem ag99 : tyAgg Try.prog 99 = some true := by kernel_rfl
theorem ap137 : appOf Try.prog 137 = some (3, 1, 8) := by kernel_rfl
theorem ap138 : appOf Try.prog 138 = some (75, 6, 48) := by kernel_rfl
theorem ap39 : appOf Try.prog 39 = some (44, 12, 96) := by kernel_rfl
theorem ap47 : appOf Try.prog 47 = some (54, 7, 56) := by kernel_rfl
theorem ar144 : arrOf Try.prog 144 = some (4, 1) := by kernel_rfl
theorem ar75 : arrOf Try.prog 75 = some (3, 2) := by kernel_rfl
theorem eg23 : Try.prog.eqGuardType Try.prog.depth 23 = false := by kernel_rfl
theorem eg44 : Try.prog.eqGuardType Try.prog.depth 44 = false := by kernel_rfl
theorem eg46 : Try.prog.eqGuardType Try.prog.depth 46 = false := by kernel_rfl
theorem eg52 : Try.prog.eqGuardType Try.prog.depth 52 = false := by kernel_rfl
theorem eg54 : Try.prog.eqGuardType Try.prog.depth 54 = false := by kernel_rfl
theorem eg60 : Try.prog.eqGuardType Try.prog.depth 60 = false := by kernel_rfl
theorem es137 : elemSz Try.prog 137 = some 1 := by kernel_rfl
theorem es138 : elemSz Try.prog 138 = some 6 := by kernel_rfl
theorem es150 : elemSz Try.prog 150 = some 2 := by kernel_rfl
theorem es153 : elemSz Try.prog 153 = some 1 := by kernel_rfl
theorem es24 : elemSz Try.prog 24 = some 2 := by kernel_rfl
theorem es25 : elemSz Try.prog 25 = some 13 := by kernel_rfl
theorem es26 : elemSz Try.prog 26 = some 13 := by kernel_rfl
theorem es31 : elemSz Try.prog 31 = some 6 := by kernel_rfl
theorem es34 : elemSz Try.prog 34 = some 6 := by kernel_rfl
theorem es39 : elemSz Try.prog 39 = some 12 := by kernel_rfl
theorem es47 : elemSz Try.prog 47 = some 7 := by kernel_rfl
theorem fo101_0 : fieldOff Try.prog 101 0 = some 0 := by kernel_rfl
theorem fo101_1 : fieldOff Try.prog 101 1 = some 1 := by kernel_rfl
theorem fo101_2 : fieldOff Try.prog 101 2 = some 3 := by kernel_rfl
theorem fo101_3 : fieldOff Try.prog 101 3 = some 5 := by kernel_rfl
theorem fo101_4 : fieldOff Try.prog 101 4 = some 7 := by kernel_rfl
theorem fo103_0 : fieldOff Try.prog 103 0 = some 0 := by kernel_rfl
theorem fo103_1 : fieldOff Try.prog 103 1 = some 1 := by kernel_rfl
theorem fo103_2 : fieldOff Try.prog 103 2 = some 2 := by kernel_rfl
theorem fo103_3 : fieldOff Try.prog 103 3 = some 4 := by kernel_rfl
theorem fo106_0 : fieldOff Try.prog 106 0 = some 0 := by kernel_rfl
theorem fo106_1 : fieldOff Try.prog 106 1 = some 1 := by kernel_rfl
theorem fo114_0 : fieldOff Try.prog 114 0 = some 0 := by kernel_rfl
theorem fo114_1 : fieldOff Try.prog 114 1 = some 6 := by kernel_rfl
theorem fo114_2 : fieldOff Try.prog 114 2 = some 12 := by kernel_rfl
theorem fo131_0 : fieldOff Try.prog 131 0 = some 0 := by kernel_rfl
theorem fo131_1 : fieldOff Try.prog 131 1 = some 7 := by kernel_rfl
theorem fo131_2 : fieldOff Try.prog 131 2 = some 8 := by kernel_rfl
theorem fo133_0 : fieldOff Try.prog 133 0 = some 0 := by kernel_rfl
theorem fo133_1 : fieldOff Try.prog 133 1 = some 1 := by kernel_rfl
theorem fo133_2 : fieldOff Try.prog 133 2 = some 2 := by kernel_rfl
theorem fo133_3 : fieldOff Try.prog 133 3 = some 4 := by kernel_rfl
theorem fo133_4 : fieldOff Try.prog 133 4 = some 6 := by kernel_rfl
theorem fo133_5 : fieldOff Try.prog 133 5 = some 12 := by kernel_rfl
theorem fo23_0 : fieldOff Try.prog 23 0 = some 0 := by kernel_rfl
theorem fo23_1 : fieldOff Try.prog 23 1 = some 1 := by kernel_rfl
theorem fo28_0 : fieldOff Try.prog 28 0 = some 0 := by kernel_rfl
theorem fo28_1 : fieldOff Try.prog 28 1 = some 1 := by kernel_rfl
theorem fo28_2 : fieldOff Try.prog 28 2 = some 3 := by kernel_rfl
theorem fo28_3 : fieldOff Try.prog 28 3 = some 4 := by kernel_rfl
theorem fo28_4 : fieldOff Try.prog 28 4 = some 5 := by kernel_rfl
theorem fo30_0 : fieldOff Try.prog 30 0 = some 0 := by kernel_rfl
theorem fo30_1 : fieldOff Try.prog 30 1 = some 1 := by kernel_rfl
theorem fo30_2 : fieldOff Try.prog 30 2 = some 2 := by kernel_rfl
theorem fo44_0 : fieldOff Try.prog 44 0 = some 0 := by kernel_rfl
theorem fo44_1 : fieldOff Try.prog 44 1 = some 2 := by kernel_rfl
theorem fo44_2 : fieldOff Try.prog 44 2 = some 4 := by kernel_rfl
theorem fo44_3 : fieldOff Try.prog 44 3 = some 6 := by kernel_rfl
theorem fo44_4 : fieldOff Try.prog 44 4 = some 8 := by kernel_rfl
theorem fo44_5 : fieldOff Try.prog 44 5 = some 10 := by kernel_rfl
theorem fo46_0 : fieldOff Try.prog 46 0 = some 0 := by kernel_rfl
theorem fo46_1 : fieldOff Try.prog 46 1 = some 1 := by kernel_rfl
theorem fo46_2 : fieldOff Try.prog 46 2 = some 2 := by kernel_rfl
theorem fo46_3 : fieldOff Try.prog 46 3 = some 3 := by kernel_rfl
theorem fo46_4 : fieldOff Try.prog 46 4 = some 4 := by kernel_rfl
theorem fo46_5 : fieldOff Try.prog 46 5 = some 5 := by kernel_rfl
theorem fo52_0 : fieldOff Try.prog 52 0 = some 0 := by kernel_rfl
theorem fo52_1 : fieldOff Try.prog 52 1 = some 2 := by kernel_rfl
theorem fo54_1 : fieldOff Try.prog 54 1 = some 1 := by kernel_rfl
theorem fo54_2 : fieldOff Try.prog 54 2 = some 5 := by kernel_rfl
theorem fo73_0 : fieldOff Try.prog 73 0 = some 0 := by kernel_rfl
theorem fo73_1 : fieldOff Try.prog 73 1 = some 1 := by kernel_rfl
theorem fo78_0 : fieldOff Try.prog 78 0 = some 0 := by kernel_rfl
theorem fo78_1 : fieldOff Try.prog 78 1 = some 2 := by kernel_rfl
theorem fo78_2 : fieldOff Try.prog 78 2 = some 4 := by kernel_rfl
theorem fo78_3 : fieldOff Try.prog 78 3 = some 6 := by kernel_rfl
theorem fo81_0 : fieldOff Try.prog 81 0 = some 0 := by kernel_rfl
theorem fo81_1 : fieldOff Try.prog 81 1 = some 6 := by kernel_rfl
theorem fo99_0 : fieldOff Try.prog 99 0 = some 0 := by kernel_rfl
theorem fo99_1 : fieldOff Try.prog 99 1 = some 2 := by kernel_rfl
theorem fo99_2 : fieldOff Try.prog 99 2 = some 4 := by kernel_rfl
theorem isl137 : (Try.prog.underlying 137).any (fun d => match d with | .slice _ => true | _ => false) = true := by kernel_rfl
theorem isl138 : (Try.prog.underlying 138).any (fun d => match d with | .slice _ => true | _ => false) = true := by kernel_rfl
theorem isl150 : (Try.prog.underlying 150).any (fun d => match d with | .slice _ => true | _ => false) = true := by kernel_rfl
theorem isl153 : (Try.prog.underlying 153).any (fun d => match d with | .slice _ => true | _ => false) = true := by kernel_rfl
theorem isl24 : (Try.prog.underlying 24).any (fun d => match d with | .slice _ => true | _ => false) = true := by kernel_rfl
theorem isl25 : (Try.prog.underlying 25).any (fun d => match d with | .slice _ => true | _ => false) = true := by kernel_rfl
theorem isl26 : (Try.prog.underlying 26).any (fun d => match d with | .slice _ => true | _ => false) = true := by kernel_rfl
theorem isl31 : (Try.prog.underlying 31).any (fun d => match d with | .slice _ => true | _ => false) = true := by kernel_rfl
theorem isl34 : (Try.prog.underlying 34).any (fun d => match d with | .slice _ => true | _ => false) = true := by kernel_rfl
theorem isl39 : (Try.prog.underlying 39).any (fun d => match d with | .slice _ => true | _ => false) = true := by kernel_rfl
theorem isl47 : (Try.prog.underlying 47).any (fun d => match d with | .slice _ => true | _ => false) = true := by kernel_rfl
theorem ist9 : (Try.prog.underlying 9).any (fun d => match d with | .string => true | _ => false) = true := by kernel_rfl
theorem lv23 : leaves Try.prog 10 23 = some [.int .i64, .int .i64] := by kernel_rfl
theorem lv44 : leaves Try.prog 10 44 = some [.int .i64, .int .i64, .int .i64, .int .i64, .int .i64, .int .i64, .int .i64, .int .i64, .int .i64, .int .i64, .int .i64, .int .i64] := by kernel_rfl
theorem lv46 : leaves Try.prog 10 46 = some [.int .i64, .int .i64, .int .i64, .int .i64, .int .i64, .int .i64] := by kernel_rfl
theorem lv52 : leaves Try.prog 10 52 = some [.int .i64, .int .i64, .int .i64, .int .i64] := by kernel_rfl
theorem lv54 : leaves Try.prog 10 54 = some [.int .i64, .int .i64, .int .i64, .int .i64, .int .i64, .int .i64, .int .i64] := by kernel_rfl
theorem lv60 : leaves Try.prog 10 60 = some [.int .i64, .int .i64, .int .i64, .int .i64, .int .i64, .int .i64] := by kernel_rfl
theorem pl101 : placesOf Try.prog 101 = some [(0, 1), (1, 2), (3, 2), (5, 2), (7, 6)] := by kernel_rfl
theorem pl103 : placesOf Try.prog 103 = some [(0, 1), (1, 1), (2, 2), (4, 2)] := by kernel_rfl
theorem pl106 : placesOf Try.prog 106 = some [(0, 1), (1, 1)] := by kernel_rfl
theorem pl114 : placesOf Try.prog 114 = some [(0, 6), (6, 6), (12, 1)] := by kernel_rfl
theorem pl125 : placesOf Try.prog 125 = some [] := by kernel_rfl
theorem pl131 : placesOf Try.prog 131 = some [(0, 7), (7, 1), (8, 1)] := by kernel_rfl
theorem pl23 : placesOf Try.prog 23 = some [(0, 1), (1, 1)] := by kernel_rfl
theorem pl28 : placesOf Try.prog 28 = some [(0, 1), (1, 2), (3, 1), (4, 1), (5, 1)] := by kernel_rfl
theorem pl30 : placesOf Try.prog 30 = some [(0, 1), (1, 1), (2, 1)] := by kernel_rfl
theorem pl44 : placesOf Try.prog 44 = some [(0, 2), (2, 2), (4, 2), (6, 2), (8, 2), (10, 2)] := by kernel_rfl
theorem pl46 : placesOf Try.prog 46 = some [(0, 1), (1, 1), (2, 1), (3, 1), (4, 1), (5, 1)] := by kernel_rfl
theorem pl52 : placesOf Try.prog 52 = some [(0, 2), (2, 2)] := by kernel_rfl
theorem pl54 : placesOf Try.prog 54 = some [(0, 1), (1, 4), (5, 2)] := by kernel_rfl
theorem pl60 : placesOf Try.prog 60 = some [(0, 2), (2, 2), (4, 2)] := by kernel_rfl
theorem pl73 : placesOf Try.prog 73 = some [(0, 1), (1, 1)] := by kernel_rfl
theorem pl78 : placesOf Try.prog 78 = some [(0, 2), (2, 2), (4, 2), (6, 6)] := by kernel_rfl
theorem pl81 : placesOf Try.prog 81 = some [(0, 6), (6, 6)] := by kernel_rfl
theorem pl99 : placesOf Try.prog 99 = some [(0, 2), (2, 2), (4, 2)] := by kernel_rfl
theorem sz101 : tySize Try.prog 101 = some 13 := by kernel_rfl
theorem sz103 : tySize Try.prog 103 = some 6 := by kernel_rfl
theorem sz106 : tySize Try.prog 106 = some 2 := by kernel_rfl
theorem sz125 : tySize Try.prog 125 = some 0 := by kernel_rfl
theorem sz129 : tySize Try.prog 129 = some 1 := by kernel_rfl
theorem sz133 : tySize Try.prog 133 = some 13 := by kernel_rfl
theorem sz144 : tySize Try.prog 144 = some 4 := by kernel_rfl
theorem sz23 : tySize Try.prog 23 = some 2 := by kernel_rfl
theorem sz24 : tySize Try.prog 24 = some 1 := by kernel_rfl
theorem sz28 : tySize Try.prog 28 = some 6 := by kernel_rfl
theorem sz3 : tySize Try.prog 3 = some 1 := by kernel_rfl
theorem sz30 : tySize Try.prog 30 = some 3 := by kernel_rfl
theorem sz35 : tySize Try.prog 35 = some 1 := by kernel_rfl
theorem sz39 : tySize Try.prog 39 = some 1 := by kernel_rfl
theorem sz44 : tySize Try.prog 44 = some 12 := by kernel_rfl
theorem sz46 : tySize Try.prog 46 = some 6 := by kernel_rfl
theorem sz47 : tySize Try.prog 47 = some 1 := by kernel_rfl
theorem sz52 : tySize Try.prog 52 = some 4 := by kernel_rfl
theorem sz54 : tySize Try.prog 54 = some 7 := by kernel_rfl
theorem sz60 : tySize Try.prog 60 = some 6 := by kernel_rfl
theorem sz69 : tySize Try.prog 69 = some 1 := by kernel_rfl
theorem sz73 : tySize Try.prog 73 = some 2 := by kernel_rfl
theorem sz75 : tySize Try.prog 75 = some 6 := by kernel_rfl
theorem sz78 : tySize Try.prog 78 = some 12 := by kernel_rfl
theorem sz81 : tySize Try.prog 81 = some 12 := by kernel_rfl
theorem sz99 : tySize Try.prog 99 = some 6 := by kernel_rfl
theorem un125 : Try.prog.underlying 125 = some (.struct #[]) := by kernel_rfl
theorem un137 : Try.prog.underlying 137 = some (.slice 3) := by kernel_rfl
theorem un138 : Try.prog.underlying 138 = some (.slice 75) := by kernel_rfl
theorem un153 : Try.prog.underlying 153 = some (.slice 5) := by kernel_rfl
theorem un24 : Try.prog.underlying 24 = some (.slice 106) := by kernel_rfl
theorem un25 : Try.prog.underlying 25 = some (.slice 101) := by kernel_rfl
theorem un31 : Try.prog.underlying 31 = some (.slice 103) := by kernel_rfl
theorem un34 : Try.prog.underlying 34 = some (.slice 46) := by kernel_rfl
theorem un39 : Try.prog.underlying 39 = some (.slice 44) := by kernel_rfl
theorem un47 : Try.prog.underlying 47 = some (.slice 54) := by kernel_rfl
theorem un5 : Try.prog.underlying 5 = some (.int .u8) := by kernel_rfl
theorem un75 : Try.prog.underlying 75 = some (.array 3 73) := by kernel_rfl
theorem un9 : Try.prog.underlying 9 = some (.string) := by kernel_rfl
theorem zr101 : tyZero Try.prog 101 = some (.agg #[.int .i64 0, .int .i64 0, .int .i64 0, .int .i64 0, .int .i64 0, .int .i64 0, .int .i64 0, .int .i64 0, .int .i64 0, .int .i64 0, .int .i64 0, .int .i64 0, .int .i64 0]) := by kernel_rfl
theorem zr103 : tyZero Try.prog 103 = some (.agg #[.int .i64 0, .int .i64 0, .int .i64 0, .int .i64 0, .int .i64 0, .int .i64 0]) := by kernel_rfl
theorem zr106 : tyZero Try.prog 106 = some (.agg #[.int .i64 0, .int .i64 0]) := by kernel_rfl
theorem zr114 : tyZero Try.prog 114 = some (.agg #[.string ByteArray.empty, .int .i64 0, .int .i64 0, .slice none 0 0, .slice none 0 0, .slice none 0 0, .int .i64 0, .int .i64 0, .int .i64 0, .int .i64 0, .int .i64 0, .int .i64 0, .slice none 0 0]) := by kernel_rfl
theorem zr125 : tyZero Try.prog 125 = some (.agg #[]) := by kernel_rfl
theorem zr129 : tyZero Try.prog 129 = some (.pointer none) := by kernel_rfl
theorem zr131 : tyZero Try.prog 131 = some (.agg #[.int .i64 0, .int .i64 0, .int .i64 0, .int .i64 0, .int .i64 0, .int .i64 0, .int .i64 0, .int .i64 0, .int .i64 0]) := by kernel_rfl
theorem zr133 : tyZero Try.prog 133 = some (.agg #[.string ByteArray.empty, .int .i64 0, .int .i64 0, .int .i64 0, .int .i64 0, .int .i64 0, .int .i64 0, .int .i64 0, .int .i64 0, .int .i64 0, .int .i64 0, .int .i64 0, .int .i64 0]) := by kernel_rfl
theorem zr144 : tyZero Try.prog 144 = some (.agg #[.int .i64 0, .int .i64 0, .int .i64 0, .int .i64 0]) := by kernel_rfl
theorem zr23 : tyZero Try.prog 23 = some (.agg #[.int .i64 0, .int .i64 0]) := by kernel_rfl
theorem zr28 : tyZero Try.prog 28 = some (.agg #[.string ByteArray.empty, .int .i64 0, .int .i64 0, .slice none 0 0, .slice none 0 0, .slice none 0 0]) := by kernel_rfl
theorem zr3 : tyZero Try.prog 3 = some (.int .i64 0) := by kernel_rfl
theorem zr30 : tyZero Try.prog 30 = some (.agg #[.int .i64 0, .int .i64 0, .int .i64 0]) := by kernel_rfl
theorem zr35 : tyZero Try.prog 35 = some (.int .i64 0) := by kernel_rfl
theorem zr39 : tyZero Try.prog 39 = some (.slice none 0 0) := by kernel_rfl
theorem zr44 : tyZero Try.prog 44 = some (.agg #[.int .i64 0, .int .i64 0, .int .i64 0, .int .i64 0, .int .i64 0, .int .i64 0, .int .i64 0, .int .i64 0, .int .i64 0, .int .i64 0, .int .i64 0, .int .i64 0]) := by kernel_rfl
theorem zr46 : tyZero Try.prog 46 = some (.agg #[.int .i64 0, .int .i64 0, .int .i64 0, .int .i64 0, .int .i64 0, .int .i64 0]) := by kernel_rfl
theorem zr47 : tyZero Try.prog 47 = some (.slice none 0 0) := by kernel_rfl
theorem zr52 : tyZero Try.prog 52 = some (.agg #[.int .i64 0, .int .i64 0, .int .i64 0, .int .i64 0]) := by kernel_rfl
theorem zr54 : tyZero Try.prog 54 = some (.agg #[.int .i64 0, .int .i64 0, .int .i64 0, .int .i64 0, .int .i64 0, .int .i64 0, .int .i64 0]) := by kernel_rfl
theorem zr60 : tyZero Try.prog 60 = some (.agg #[.int .i64 0, .int .i64 0, .int .i64 0, .int .i64 0, .int .i64 0, .int .i64 0]) := by kernel_rfl
theorem zr69 : tyZero Try.prog 69 = some (.pointer none) := by kernel_rfl
theorem zr73 : tyZero Try.prog 73 = some (.agg #[.int .i64 0, .int .i64 0]) := by kernel_rfl
theorem zr75 : tyZero Try.prog 75 = some (.agg #[.int .i64 0, .int .i64 0, .int .i64 0, .int .i64 0, .int .i64 0, .int .i64 0]) := by kernel_rfl
theorem zr78 : tyZero Try.prog 78 = some (.agg #[.int .i64 0, .int .i64 0, .int .i64 0, .int .i64 0, .int .i64 0, .int .i64 0, .int .i64 0, .int .i64 0, .int .i64 0, .int .i64 0, .int .i64 0, .int .i64 0]) := by kernel_rfl
theorem zr81 : tyZero Try.prog 81 = some (.agg #[.int .i64 0, .int .i64 0, .int .i64 0, .int .i64 0, .int .i64 0, .int .i64 0, .int .i64 0, .int .i64 0, .int .i64 0, .int .i64 0, .int .i64 0, .int .i64 0]) := by kernel_rfl
theorem zr99 : tyZero Try.prog 99 = some (.agg #[.int .i64 0, .int .i64 0, .int .i64 0, .int .i64 0, .int .i64 0, .int .i64 0]) := by kernel_rfl
end Go.Proofs.Ytbncegfgjbdheab

/- Ytbncegfgjbdheab: what the small functions of packages track, wind and slices compute, and the checks of a task. -/
set_option linter.all false
namespace Go.Proofs.Ytbncegfgjbdheab
open Go.Vc Go.Tk
set_option maxRecDepth 100000
theorem wout_c (n lo hi : Int) (w : World) : FnP Try.prog 65 [.int .i64 n, .int .i64 lo, .int .i64 hi] w (.bool (oP n lo hi)) := by
 refine fn_pure Try.func65 rfl (by kernel_rfl) Try.ntmps65 Try.results65 rfl ?_
 refine Vs rfl ?_
 refine La rfl rfl rfl ?_
 refine L_then (kp [0, 1, 2] rfl) ?_
 refine Vs rfl ?_
 iterate 2 refine Lm rfl rfl rfl ?_
 refine Lp rfl (p_lss rfl rfl rfl) ?_
 refine Lm rfl rfl rfl ?_
 refine L_cases (d := 10) rfl ?_ ?_
 ·intro g1; have g1' := g1; try simp only [td] at g1'
  iterate 3 refine L_no rfl rfl rfl g1 ?_
  refine Lp rfl (p_pick_t rfl rfl g1 rfl) ?_
  refine La rfl rfl rfl ?_
  refine L_then (kp [6] rfl) ?_
  refine V_ret ?_
  refine Leave.nil (.tmp rfl .nil) ?_
  simp [tup, oP, *]
 intro g1; have g1' := g1; try simp only [td] at g1'
 refine L_yes rfl rfl rfl g1 (X_p (p_move rfl rfl) ?_)
 refine L_yes rfl rfl rfl g1 (X_p (p_move rfl rfl) ?_)
 refine L_yes rfl rfl rfl g1 (X_p (p_gtr rfl rfl rfl) ?_)
 refine Lp rfl (p_pick_f rfl rfl g1 rfl) ?_
 refine La rfl rfl rfl ?_
 refine L_then (kp [6] rfl) ?_
 refine V_ret ?_
 refine Leave.nil (.tmp rfl .nil) ?_
 simp [tup, oP, *]
theorem idxInt_c (l : List Int) (v : Value) (fid : Nat) (cap : Array Value) (p : Int → Bool) (w : World) (hv : SliceR w 1 v (l.map (fun n : Int => [Value.int .i64 n]))) (hl : (l.length : Int) ≤ 9223372036854775806) (hf : ∀ x w', Ext w w' → FnP Try.prog fid (.int .i64 x :: cap.toList) w' (.bool (p x))) : FnP Try.prog 86 [v, .func (.func fid) #[] cap] w (.int .i64 (firstIdx (fun i => p (l.getD i 0)) 0 l.length)) := by
 obtain ⟨a, ca, rfl, hcap, hel⟩ := hv.ex
 simp only [List.length_map]
 refine fn_pure Try.func86 rfl (by kernel_rfl) Try.ntmps86 Try.results86 rfl ?_
 refine Vs rfl ?_
 refine La rfl rfl rfl ?_
 refine L_then (kp [0, 1] rfl) ?_
 refine V_seq ?_
 refine Vs rfl ?_
 refine Lm rfl rfl rfl ?_
 refine Lp rfl (p_len isl137 rfl rfl) ?_
 refine Lm rfl rfl rfl ?_
 refine L_then (kp [0, 1, 7, 8] rfl) ?_
 refine V_block ?_
 refine V_loop0 (γ := Int) (kp [0, 1, 7] rfl) (fun k => [(8, .int .i64 k)]) (fun k => 0 ≤ k ∧ k ≤ l.length ∧ ∀ j : Nat, (j : Int) < k → p (l.getD j 0) = false) (fun k => (l.length - k).toNat) (0) (.cons rfl (.nil _)) (⟨by omega, by omega, fun j hj => by omega⟩) ?_
 rintro k hi
 obtain ⟨hk0, hk1, hkp⟩ := hi
 refine Vs rfl ?_
 refine Lp rfl (p_lss rfl rfl rfl) ?_
 refine L_then (kp [0, 1, 7, 8, 9] rfl) ?_
 refine V_seq ?_
 refine V_cond rfl ?_ ?_
 ·intro c1; try simp only [td] at c1
  obtain ⟨b, rfl, hc⟩ := hel k.toNat _ (getD_cells (d := 0) (by omega))
  refine V_skip (then_n ?_)
  refine V_seq ?_
  refine V_block ?_
  refine Vs rfl ?_
  refine Lm rfl rfl rfl ?_
  refine La rfl rfl rfl ?_
  refine L_then (kp [0, 1, 5, 7, 8] rfl) ?_
  refine Vs rfl ?_
  iterate 3 refine Lm rfl rfl rfl ?_
  refine Lp rfl (p_idx es137 rfl rfl rfl (by omega) (by omega)) ?_
  refine Lr rfl (r_loadB ag3 rfl rfl (hc.zero) List.not_mem_nil) ?_
  refine Lc rfl rfl rfl rfl (fun w hg => hf _ w hg.toExt) ?_
  refine L_then (kp [0, 1, 5, 7, 8, 16] rfl) ?_
  refine V_cond rfl ?_ ?_
  ·intro c2; try simp only [td] at c2
   refine Vs rfl ?_
   refine Lm rfl rfl rfl ?_
   refine La rfl rfl rfl ?_
   refine L_then (kp [4] rfl) ?_
   refine V_ret (blk_r (then_r (then_r (blk_r (then_r ?_)))))
   refine Leave.nil (.tmp rfl .nil) ?_
   show Value.int .i64 k = _
   rw [firstIdx_hit (p := fun i => p (l.getD i 0)) (k := k.toNat) (by omega) c2 (fun j hj => hkp j (by omega))]
   congr 1; omega
  intro c2; try simp only [td] at c2
  refine V_skip (blk_n (then_n ?_))
  refine V_region rfl ?_
  first | refine Lp rfl (p_add' rfl rfl rfl (by unfold InI; omega)) ?_ | refine Lp rfl (p_add rfl rfl rfl) ?_
  refine Lm rfl rfl rfl ?_
  refine L_keep (kp [0, 1, 7, 8] rfl) (then_n ?_)
  refine ⟨k + 1, ?_, ?_, (.cons rfl (.cons rfl (.cons rfl (.cons rfl (.nil _))))), (by repeat (first | exact List.Sublist.refl _ | apply List.Sublist.cons_cons | apply List.Sublist.cons | apply List.sublist_append_of_sublist_right)), rfl⟩
  ·refine ⟨by omega, by omega, fun j hj => ?_⟩; by_cases e : (j : Int) < k
   ·exact hkp j e
   have : j = k.toNat := by omega
   rw [this]; exact c2
  omega
 intro c1; try simp only [td] at c1
 refine V_exit (then_e (then_e (blk_e rfl (then_n ?_))))
 refine Vs rfl ?_
 refine La rfl rfl rfl ?_
 refine L_then (kp [4] rfl) ?_
 refine V_ret ?_
 refine Leave.nil (.tmp rfl .nil) ?_
 show Value.int .i64 (-1) = _
 rw [firstIdx_none (p := fun i => p (l.getD i 0)) (fun j hj => hkp j (by omega))]
theorem contInt_c (l : List Int) (v : Value) (fid : Nat) (cap : Array Value) (p : Int → Bool) (w : World) (hv : SliceR w 1 v (l.map (fun n : Int => [Value.int .i64 n]))) (hl : (l.length : Int) ≤ 9223372036854775806) (hf : ∀ x w', Ext w w' → FnP Try.prog fid (.int .i64 x :: cap.toList) w' (.bool (p x))) : FnP Try.prog 84 [v, .func (.func fid) #[] cap] w (.bool (l.any p)) := by
 refine fn_pure Try.func84 rfl (by kernel_rfl) Try.ntmps84 Try.results84 rfl ?_
 refine Vs rfl ?_
 refine La rfl rfl rfl ?_
 refine L_then (kp [0, 1] rfl) ?_
 refine Vs rfl ?_
 iterate 2 refine Lm rfl rfl rfl ?_
 refine Lc rfl rfl rfl rfl (fun w hg => idxInt_c l _ _ _ p w (hv.good hg) hl (fun x w' he => hf x w' (hg.toExt.trans he))) ?_
 refine Lp rfl (p_geq rfl rfl rfl) ?_
 refine La rfl rfl rfl ?_
 refine L_then (kp [4] rfl) ?_
 refine V_ret ?_
 refine Leave.nil (.tmp rfl .nil) ?_
 show Value.bool _ = _
 rw [firstIdx_any, anyIdx_list]
theorem wname_c (s : ByteArray) (hs : (s.size : Int) ≤ 9223372036854775807) (w : World) : FnP Try.prog 68 [.string s] w (.bool (nameOk s)) := by
 refine fn_pure Try.func68 rfl (by kernel_rfl) Try.ntmps68 Try.results68 rfl ?_
 refine Vs rfl ?_
 refine La rfl rfl rfl ?_
 refine L_then (kp [0] rfl) ?_
 refine V_seq ?_
 refine Vs rfl ?_
 refine Lm rfl rfl rfl ?_
 refine Lw rfl (w_bytes un9 un153 un5 rfl rfl) ?_
 rintro _ _ ⟨b1, cap1, pad1, fr1, hb1, rfl, rfl⟩
 refine Lp rfl (p_len isl153 rfl rfl) ?_
 refine Lm rfl rfl rfl ?_
 refine L_then (kp [0, 6, 7, 8] rfl) ?_
 refine V_block ?_
 refine V_loop0 (γ := Int) (kp [0, 6, 7] rfl) (fun k => [(8, .int .i64 k)]) (fun k => 0 ≤ k ∧ k ≤ s.size ∧ ∀ j : Nat, (j : Int) < k → nameC s j = true) (fun k => (s.size - k).toNat) (0) (.cons rfl (.nil _)) (⟨by omega, by omega, fun j hj => by omega⟩) ?_
 rintro k hi
 obtain ⟨hk0, hk1, hkn⟩ := hi
 refine Vs rfl ?_
 refine Lp rfl (p_lss rfl rfl rfl) ?_
 refine L_then (kp [0, 6, 7, 8, 9] rfl) ?_
 refine V_seq ?_
 refine V_cond rfl ?_ ?_
 ·intro c1; try simp only [td] at c1
  refine V_skip (then_n ?_)
  refine V_seq ?_
  refine V_block ?_
  refine Vs rfl ?_
  refine Lm rfl rfl rfl ?_
  refine Lp rfl (p_idxo es153 rfl rfl rfl (by omega) (by omega)) ?_
  refine Lr rfl (r_load ag5 rfl rfl (by repeat first | exact mH | apply mT) (bytes_at (by omega))) ?_
  iterate 2 refine La rfl rfl rfl ?_
  refine L_then (kp [0, 3, 4, 6, 7, 8] rfl) ?_
  refine Vs rfl ?_
  refine Lm rfl rfl rfl ?_
  refine Lp rfl (p_geq rfl rfl rfl) ?_
  refine Lm rfl rfl rfl ?_
  refine L_cases (d := 15) rfl ?_ ?_
  ·intro g1; have g1' := g1; try simp only [td] at g1'
   refine L_yes rfl rfl rfl g1 (X_p (p_move rfl rfl) ?_)
   refine L_yes rfl rfl rfl g1 (X_p (p_leq rfl rfl rfl) ?_)
   refine Lp rfl (p_pick_t rfl rfl g1 rfl) ?_
   refine Lp rfl (p_not rfl rfl) ?_
   refine Lm rfl rfl rfl ?_
   refine L_cases (d := 20) rfl ?_ ?_
   ·intro g2; have g2' := g2; try simp only [td] at g2'
    refine L_yes rfl rfl rfl g2 (X_p (p_move rfl rfl) ?_)
    refine L_yes rfl rfl rfl g2 (X_p (p_eql rfl rfl rfl) ?_)
    refine L_yes rfl rfl rfl g2 (X_p (p_move rfl rfl) ?_)
    refine L_cases (d := 23) rfl ?_ ?_
    ·intro g3; have g3' := g3; try simp only [td] at g3'
     iterate 3 refine L_no rfl rfl rfl g3 ?_
     iterate 7 refine L_nou rfl rfl rfl ?_
     refine L_no rfl rfl rfl g3 ?_
     refine L_yes rfl rfl rfl g2 (X_p (p_pick_t rfl rfl g3 rfl) ?_)
     refine Lp rfl (p_pick_t rfl rfl g2 rfl) ?_
     refine L_then (kp [0, 6, 7, 8, 36] rfl) ?_
     refine V_cond_t rfl rfl ?_
     refine Vs rfl ?_
     refine La rfl rfl rfl ?_
     refine L_then (kp [2] rfl) ?_
     refine V_ret (blk_r (then_r (then_r (blk_r (then_r ?_)))))
     refine Leave.nil (.tmp rfl .nil) ?_
     first | (show Value.bool false = _; rw [nameOk_bad (k := k.toNat) (by omega) (by simp only [nameC, small, Bool.or_eq_true, Bool.and_eq_true, decide_eq_true_eq, decide_eq_false_iff_not, ← Bool.not_eq_true]; omega)]; done) | (show Value.bool (!(oP _ _ _)) = _; rw [nameOk_end (fun j hj => hkn j (by omega))])
    intro g3; have g3' := g3; try simp only [td] at g3'
    refine L_yes rfl rfl rfl g3 (X_p (p_move rfl rfl) ?_)
    refine L_yes rfl rfl rfl g3 (X_p (p_neq rfl rfl rfl) ?_)
    refine L_yes rfl rfl rfl g3 (X_p (p_move rfl rfl) ?_)
    refine L_cases (d := 26) rfl ?_ ?_
    ·intro g4; have g4' := g4; try simp only [td] at g4'
     refine L_yes rfl rfl rfl g4 (X_p (p_move rfl rfl) ?_)
     refine L_yes rfl rfl rfl g4 (X_p (p_geq rfl rfl rfl) ?_)
     refine L_yes rfl rfl rfl g4 (X_p (p_move rfl rfl) ?_)
     refine L_cases (d := 29) rfl ?_ ?_
     ·intro g5; have g5' := g5; try simp only [td] at g5'
      refine L_yes rfl rfl rfl g5 (X_p (p_move rfl rfl) ?_)
      refine L_yes rfl rfl rfl g5 (X_p (p_leq rfl rfl rfl) ?_)
      refine L_yes rfl rfl rfl g4 (X_p (p_pick_t rfl rfl g5 rfl) ?_)
      refine L_yes rfl rfl rfl g4 (X_p (p_not rfl rfl) ?_)
      refine L_yes rfl rfl rfl g3 (X_p (p_pick_t rfl rfl g4 rfl) ?_)
      refine L_yes rfl rfl rfl g2 (X_p (p_pick_f rfl rfl g3 rfl) ?_)
      refine Lp rfl (p_pick_t rfl rfl g2 rfl) ?_
      refine L_then (kp [0, 6, 7, 8, 36] rfl) ?_
      refine V_cond rfl ?_ ?_
      ·intro c2; try simp only [td] at c2
       refine Vs rfl ?_
       refine La rfl rfl rfl ?_
       refine L_then (kp [2] rfl) ?_
       refine V_ret (blk_r (then_r (then_r (blk_r (then_r ?_)))))
       refine Leave.nil (.tmp rfl .nil) ?_
       first | (show Value.bool false = _; rw [nameOk_bad (k := k.toNat) (by omega) (by simp only [nameC, small, Bool.or_eq_true, Bool.and_eq_true, decide_eq_true_eq, decide_eq_false_iff_not, ← Bool.not_eq_true]; omega)]; done) | (show Value.bool (!(oP _ _ _)) = _; rw [nameOk_end (fun j hj => hkn j (by omega))])
      intro c2; try simp only [td] at c2
      refine V_skip (blk_n (then_n ?_))
      refine V_region rfl ?_
      first | refine Lp rfl (p_add' rfl rfl rfl (by unfold InI; omega)) ?_ | refine Lp rfl (p_add rfl rfl rfl) ?_
      refine Lm rfl rfl rfl ?_
      refine L_keep (kp [0, 6, 7, 8] rfl) (then_n ?_)
      refine ⟨k + 1, ?_, ?_, (.cons rfl (.cons rfl (.cons rfl (.cons rfl (.nil _))))), (by repeat (first | exact List.Sublist.refl _ | apply List.Sublist.cons_cons | apply List.Sublist.cons | apply List.sublist_append_of_sublist_right)), rfl⟩
      ·refine ⟨by omega, by omega, fun j hj => ?_⟩; by_cases e : (j : Int) < k
       ·exact hkn j e
       have ej : j = k.toNat := by omega
       rw [ej]; simp only [nameC, small, Bool.or_eq_true, Bool.and_eq_true, decide_eq_true_eq, decide_eq_false_iff_not, ← Bool.not_eq_true]; omega
      omega
     intro g5; have g5' := g5; try simp only [td] at g5'
     iterate 2 refine L_no rfl rfl rfl g5 ?_
     refine L_yes rfl rfl rfl g4 (X_p (p_pick_f rfl rfl g5 rfl) ?_)
     refine L_yes rfl rfl rfl g4 (X_p (p_not rfl rfl) ?_)
     refine L_yes rfl rfl rfl g3 (X_p (p_pick_t rfl rfl g4 rfl) ?_)
     refine L_yes rfl rfl rfl g2 (X_p (p_pick_f rfl rfl g3 rfl) ?_)
     refine Lp rfl (p_pick_t rfl rfl g2 rfl) ?_
     refine L_then (kp [0, 6, 7, 8, 36] rfl) ?_
     refine V_cond_t rfl rfl ?_
     refine Vs rfl ?_
     refine La rfl rfl rfl ?_
     refine L_then (kp [2] rfl) ?_
     refine V_ret (blk_r (then_r (then_r (blk_r (then_r ?_)))))
     refine Leave.nil (.tmp rfl .nil) ?_
     first | (show Value.bool false = _; rw [nameOk_bad (k := k.toNat) (by omega) (by simp only [nameC, small, Bool.or_eq_true, Bool.and_eq_true, decide_eq_true_eq, decide_eq_false_iff_not, ← Bool.not_eq_true]; omega)]; done) | (show Value.bool (!(oP _ _ _)) = _; rw [nameOk_end (fun j hj => hkn j (by omega))])
    intro g4; have g4' := g4; try simp only [td] at g4'
    iterate 3 refine L_no rfl rfl rfl g4 ?_
    iterate 2 refine L_nou rfl rfl rfl ?_
    iterate 2 refine L_no rfl rfl rfl g4 ?_
    refine L_yes rfl rfl rfl g3 (X_p (p_pick_f rfl rfl g4 rfl) ?_)
    refine L_yes rfl rfl rfl g2 (X_p (p_pick_f rfl rfl g3 rfl) ?_)
    refine Lp rfl (p_pick_t rfl rfl g2 rfl) ?_
    refine L_then (kp [0, 6, 7, 8, 36] rfl) ?_
    refine V_cond_f rfl rfl ?_
    refine V_skip (blk_n (then_n ?_))
    refine V_region rfl ?_
    first | refine Lp rfl (p_add' rfl rfl rfl (by unfold InI; omega)) ?_ | refine Lp rfl (p_add rfl rfl rfl) ?_
    refine Lm rfl rfl rfl ?_
    refine L_keep (kp [0, 6, 7, 8] rfl) (then_n ?_)
    refine ⟨k + 1, ?_, ?_, (.cons rfl (.cons rfl (.cons rfl (.cons rfl (.nil _))))), (by repeat (first | exact List.Sublist.refl _ | apply List.Sublist.cons_cons | apply List.Sublist.cons | apply List.sublist_append_of_sublist_right)), rfl⟩
    ·refine ⟨by omega, by omega, fun j hj => ?_⟩; by_cases e : (j : Int) < k
     ·exact hkn j e
     have ej : j = k.toNat := by omega
     rw [ej]; simp only [nameC, small, Bool.or_eq_true, Bool.and_eq_true, decide_eq_true_eq, decide_eq_false_iff_not, ← Bool.not_eq_true]; omega
    omega
   intro g2; have g2' := g2; try simp only [td] at g2'
   iterate 3 refine L_no rfl rfl rfl g2 ?_
   iterate 11 refine L_nou rfl rfl rfl ?_
   refine L_no rfl rfl rfl g2 ?_
   refine Lp rfl (p_pick_f rfl rfl g2 rfl) ?_
   refine L_then (kp [0, 6, 7, 8, 36] rfl) ?_
   refine V_cond_f rfl rfl ?_
   refine V_skip (blk_n (then_n ?_))
   refine V_region rfl ?_
   first | refine Lp rfl (p_add' rfl rfl rfl (by unfold InI; omega)) ?_ | refine Lp rfl (p_add rfl rfl rfl) ?_
   refine Lm rfl rfl rfl ?_
   refine L_keep (kp [0, 6, 7, 8] rfl) (then_n ?_)
   refine ⟨k + 1, ?_, ?_, (.cons rfl (.cons rfl (.cons rfl (.cons rfl (.nil _))))), (by repeat (first | exact List.Sublist.refl _ | apply List.Sublist.cons_cons | apply List.Sublist.cons | apply List.sublist_append_of_sublist_right)), rfl⟩
   ·refine ⟨by omega, by omega, fun j hj => ?_⟩; by_cases e : (j : Int) < k
    ·exact hkn j e
    have ej : j = k.toNat := by omega
    rw [ej]; simp only [nameC, small, Bool.or_eq_true, Bool.and_eq_true, decide_eq_true_eq, decide_eq_false_iff_not, ← Bool.not_eq_true]; omega
   omega
  intro g1; have g1' := g1; try simp only [td] at g1'
  iterate 2 refine L_no rfl rfl rfl g1 ?_
  refine Lp rfl (p_pick_f rfl rfl g1 rfl) ?_
  refine Lp rfl (p_not rfl rfl) ?_
  refine Lm rfl rfl rfl ?_
  refine L_yes rfl rfl rfl rfl (X_p (p_move rfl rfl) ?_)
  refine L_yes rfl rfl rfl rfl (X_p (p_eql rfl rfl rfl) ?_)
  refine L_yes rfl rfl rfl rfl (X_p (p_move rfl rfl) ?_)
  refine L_cases (d := 23) rfl ?_ ?_
  ·intro g6; have g6' := g6; try simp only [td] at g6'
   iterate 3 refine L_no rfl rfl rfl g6 ?_
   iterate 7 refine L_nou rfl rfl rfl ?_
   refine L_no rfl rfl rfl g6 ?_
   refine L_yes rfl rfl rfl rfl (X_p (p_pick_t rfl rfl g6 rfl) ?_)
   refine Lp rfl (p_pick_t rfl rfl rfl rfl) ?_
   refine L_then (kp [0, 6, 7, 8, 36] rfl) ?_
   refine V_cond_t rfl rfl ?_
   refine Vs rfl ?_
   refine La rfl rfl rfl ?_
   refine L_then (kp [2] rfl) ?_
   refine V_ret (blk_r (then_r (then_r (blk_r (then_r ?_)))))
   refine Leave.nil (.tmp rfl .nil) ?_
   first | (show Value.bool false = _; rw [nameOk_bad (k := k.toNat) (by omega) (by simp only [nameC, small, Bool.or_eq_true, Bool.and_eq_true, decide_eq_true_eq, decide_eq_false_iff_not, ← Bool.not_eq_true]; omega)]; done) | (show Value.bool (!(oP _ _ _)) = _; rw [nameOk_end (fun j hj => hkn j (by omega))])
  intro g6; have g6' := g6; try simp only [td] at g6'
  refine L_yes rfl rfl rfl g6 (X_p (p_move rfl rfl) ?_)
  refine L_yes rfl rfl rfl g6 (X_p (p_neq rfl rfl rfl) ?_)
  refine L_yes rfl rfl rfl g6 (X_p (p_move rfl rfl) ?_)
  refine L_cases (d := 26) rfl ?_ ?_
  ·intro g7; have g7' := g7; try simp only [td] at g7'
   refine L_yes rfl rfl rfl g7 (X_p (p_move rfl rfl) ?_)
   refine L_yes rfl rfl rfl g7 (X_p (p_geq rfl rfl rfl) ?_)
   refine L_yes rfl rfl rfl g7 (X_p (p_move rfl rfl) ?_)
   refine L_cases (d := 29) rfl ?_ ?_
   ·intro g8; have g8' := g8; try simp only [td] at g8'
    refine L_yes rfl rfl rfl g8 (X_p (p_move rfl rfl) ?_)
    refine L_yes rfl rfl rfl g8 (X_p (p_leq rfl rfl rfl) ?_)
    refine L_yes rfl rfl rfl g7 (X_p (p_pick_t rfl rfl g8 rfl) ?_)
    refine L_yes rfl rfl rfl g7 (X_p (p_not rfl rfl) ?_)
    refine L_yes rfl rfl rfl g6 (X_p (p_pick_t rfl rfl g7 rfl) ?_)
    refine L_yes rfl rfl rfl rfl (X_p (p_pick_f rfl rfl g6 rfl) ?_)
    refine Lp rfl (p_pick_t rfl rfl rfl rfl) ?_
    refine L_then (kp [0, 6, 7, 8, 36] rfl) ?_
    refine V_cond rfl ?_ ?_
    ·intro c3; try simp only [td] at c3
     refine Vs rfl ?_
     refine La rfl rfl rfl ?_
     refine L_then (kp [2] rfl) ?_
     refine V_ret (blk_r (then_r (then_r (blk_r (then_r ?_)))))
     refine Leave.nil (.tmp rfl .nil) ?_
     first | (show Value.bool false = _; rw [nameOk_bad (k := k.toNat) (by omega) (by simp only [nameC, small, Bool.or_eq_true, Bool.and_eq_true, decide_eq_true_eq, decide_eq_false_iff_not, ← Bool.not_eq_true]; omega)]; done) | (show Value.bool (!(oP _ _ _)) = _; rw [nameOk_end (fun j hj => hkn j (by omega))])
    intro c3; try simp only [td] at c3
    refine V_skip (blk_n (then_n ?_))
    refine V_region rfl ?_
    first | refine Lp rfl (p_add' rfl rfl rfl (by unfold InI; omega)) ?_ | refine Lp rfl (p_add rfl rfl rfl) ?_
    refine Lm rfl rfl rfl ?_
    refine L_keep (kp [0, 6, 7, 8] rfl) (then_n ?_)
    refine ⟨k + 1, ?_, ?_, (.cons rfl (.cons rfl (.cons rfl (.cons rfl (.nil _))))), (by repeat (first | exact List.Sublist.refl _ | apply List.Sublist.cons_cons | apply List.Sublist.cons | apply List.sublist_append_of_sublist_right)), rfl⟩
    ·refine ⟨by omega, by omega, fun j hj => ?_⟩; by_cases e : (j : Int) < k
     ·exact hkn j e
     have ej : j = k.toNat := by omega
     rw [ej]; simp only [nameC, small, Bool.or_eq_true, Bool.and_eq_true, decide_eq_true_eq, decide_eq_false_iff_not, ← Bool.not_eq_true]; omega
    omega
   intro g8; have g8' := g8; try simp only [td] at g8'
   iterate 2 refine L_no rfl rfl rfl g8 ?_
   refine L_yes rfl rfl rfl g7 (X_p (p_pick_f rfl rfl g8 rfl) ?_)
   refine L_yes rfl rfl rfl g7 (X_p (p_not rfl rfl) ?_)
   refine L_yes rfl rfl rfl g6 (X_p (p_pick_t rfl rfl g7 rfl) ?_)
   refine L_yes rfl rfl rfl rfl (X_p (p_pick_f rfl rfl g6 rfl) ?_)
   refine Lp rfl (p_pick_t rfl rfl rfl rfl) ?_
   refine L_then (kp [0, 6, 7, 8, 36] rfl) ?_
   refine V_cond_t rfl rfl ?_
   refine Vs rfl ?_
   refine La rfl rfl rfl ?_
   refine L_then (kp [2] rfl) ?_
   refine V_ret (blk_r (then_r (then_r (blk_r (then_r ?_)))))
   refine Leave.nil (.tmp rfl .nil) ?_
   first | (show Value.bool false = _; rw [nameOk_bad (k := k.toNat) (by omega) (by simp only [nameC, small, Bool.or_eq_true, Bool.and_eq_true, decide_eq_true_eq, decide_eq_false_iff_not, ← Bool.not_eq_true]; omega)]; done) | (show Value.bool (!(oP _ _ _)) = _; rw [nameOk_end (fun j hj => hkn j (by omega))])
  intro g7; have g7' := g7; try simp only [td] at g7'
  iterate 3 refine L_no rfl rfl rfl g7 ?_
  iterate 2 refine L_nou rfl rfl rfl ?_
  iterate 2 refine L_no rfl rfl rfl g7 ?_
  refine L_yes rfl rfl rfl g6 (X_p (p_pick_f rfl rfl g7 rfl) ?_)
  refine L_yes rfl rfl rfl rfl (X_p (p_pick_f rfl rfl g6 rfl) ?_)
  refine Lp rfl (p_pick_t rfl rfl rfl rfl) ?_
  refine L_then (kp [0, 6, 7, 8, 36] rfl) ?_
  refine V_cond_f rfl rfl ?_
  refine V_skip (blk_n (then_n ?_))
  refine V_region rfl ?_
  first | refine Lp rfl (p_add' rfl rfl rfl (by unfold InI; omega)) ?_ | refine Lp rfl (p_add rfl rfl rfl) ?_
  refine Lm rfl rfl rfl ?_
  refine L_keep (kp [0, 6, 7, 8] rfl) (then_n ?_)
  refine ⟨k + 1, ?_, ?_, (.cons rfl (.cons rfl (.cons rfl (.cons rfl (.nil _))))), (by repeat (first | exact List.Sublist.refl _ | apply List.Sublist.cons_cons | apply List.Sublist.cons | apply List.sublist_append_of_sublist_right)), rfl⟩
  ·refine ⟨by omega, by omega, fun j hj => ?_⟩; by_cases e : (j : Int) < k
   ·exact hkn j e
   have ej : j = k.toNat := by omega
   rw [ej]; simp only [nameC, small, Bool.or_eq_true, Bool.and_eq_true, decide_eq_true_eq, decide_eq_false_iff_not, ← Bool.not_eq_true]; omega
  omega
 intro c1; try simp only [td] at c1
 refine V_exit (then_e (then_e (blk_e rfl (then_n ?_))))
 refine Vs rfl ?_
 refine Lm rfl rfl rfl ?_
 refine Lp rfl (p_lens ist9 rfl rfl) ?_
 refine Lc rfl rfl rfl rfl (fun w hg => wout_c _ _ _ w) ?_
 refine Lp rfl (p_not rfl rfl) ?_
 refine La rfl rfl rfl ?_
 refine L_then (kp [2] rfl) ?_
 refine V_ret ?_
 refine Leave.nil (.tmp rfl .nil) ?_
 first | (show Value.bool false = _; rw [nameOk_bad (k := k.toNat) (by omega) (by simp only [nameC, small, Bool.or_eq_true, Bool.and_eq_true, decide_eq_true_eq, decide_eq_false_iff_not, ← Bool.not_eq_true]; omega)]; done) | (show Value.bool (!(oP _ _ _)) = _; rw [nameOk_end (fun j hj => hkn j (by omega))])

end Go.Proofs.Ytbncegfgjbdheab
