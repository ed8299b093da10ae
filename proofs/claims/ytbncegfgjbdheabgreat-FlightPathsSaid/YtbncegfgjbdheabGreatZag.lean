/- Joined texts. -/
import Derived.Test.YtbncegfgjbdheabGreatZad
import Derived.Test.YtbncegfgjbdheabGreatProg
import Derived.Test.YtbncegfgjbdheabGreatZac

set_option linter.all false
namespace Go.Proofs.YtbncegfgjbdheabGreat
open Go.Vc
theorem mixed : Tryz.prog.follows .mixedOrders = true := by kernel_rfl
theorem ag115 : tyAgg Tryz.prog 115 = some true := by kernel_rfl
theorem ag118 : tyAgg Tryz.prog 118 = some true := by kernel_rfl
theorem ag127 : tyAgg Tryz.prog 127 = some true := by kernel_rfl
theorem ag150 : tyAgg Tryz.prog 150 = some false := by kernel_rfl
theorem ag23 : tyAgg Tryz.prog 23 = some true := by kernel_rfl
theorem ag24 : tyAgg Tryz.prog 24 = some false := by kernel_rfl
theorem ag25 : tyAgg Tryz.prog 25 = some false := by kernel_rfl
theorem ag26 : tyAgg Tryz.prog 26 = some false := by kernel_rfl
theorem ag28 : tyAgg Tryz.prog 28 = some true := by kernel_rfl
theorem ag3 : tyAgg Tryz.prog 3 = some false := by kernel_rfl
theorem ag30 : tyAgg Tryz.prog 30 = some true := by kernel_rfl
theorem ag31 : tyAgg Tryz.prog 31 = some false := by kernel_rfl
theorem ag35 : tyAgg Tryz.prog 35 = some false := by kernel_rfl
theorem ag39 : tyAgg Tryz.prog 39 = some true := by kernel_rfl
theorem ag44 : tyAgg Tryz.prog 44 = some false := by kernel_rfl
theorem ag49 : tyAgg Tryz.prog 49 = some true := by kernel_rfl
theorem ag5 : tyAgg Tryz.prog 5 = some false := by kernel_rfl
theorem ag50 : tyAgg Tryz.prog 50 = some true := by kernel_rfl
theorem ag52 : tyAgg Tryz.prog 52 = some true := by kernel_rfl
theorem ag55 : tyAgg Tryz.prog 55 = some true := by kernel_rfl
theorem ag56 : tyAgg Tryz.prog 56 = some false := by kernel_rfl
theorem ag58 : tyAgg Tryz.prog 58 = some true := by kernel_rfl
theorem ag64 : tyAgg Tryz.prog 64 = some true := by kernel_rfl
theorem ag66 : tyAgg Tryz.prog 66 = some true := by kernel_rfl
theorem ag71 : tyAgg Tryz.prog 71 = some false := by kernel_rfl
theorem ag77 : tyAgg Tryz.prog 77 = some true := by kernel_rfl
theorem ag82 : tyAgg Tryz.prog 82 = some true := by kernel_rfl
theorem ag84 : tyAgg Tryz.prog 84 = some false := by kernel_rfl
theorem ag88 : tyAgg Tryz.prog 88 = some true := by kernel_rfl
theorem ag9 : tyAgg Tryz.prog 9 = some false := by kernel_rfl
theorem ag90 : tyAgg Tryz.prog 90 = some true := by kernel_rfl
theorem ap131 : appOf Tryz.prog 131 = some (3, 1, 8) := by kernel_rfl
theorem ap132 : appOf Tryz.prog 132 = some (52, 6, 48) := by kernel_rfl
theorem ap71 : appOf Tryz.prog 71 = some (90, 7, 56) := by kernel_rfl
theorem ap84 : appOf Tryz.prog 84 = some (82, 12, 96) := by kernel_rfl
theorem ar134 : arrOf Tryz.prog 134 = some (4, 1) := by kernel_rfl
theorem ar52 : arrOf Tryz.prog 52 = some (3, 2) := by kernel_rfl
theorem eg39 : Tryz.prog.eqGuardType Tryz.prog.depth 39 = false := by kernel_rfl
theorem eg49 : Tryz.prog.eqGuardType Tryz.prog.depth 49 = false := by kernel_rfl
theorem eg77 : Tryz.prog.eqGuardType Tryz.prog.depth 77 = false := by kernel_rfl
theorem eg90 : Tryz.prog.eqGuardType Tryz.prog.depth 90 = false := by kernel_rfl
theorem es131 : elemSz Tryz.prog 131 = some 1 := by kernel_rfl
theorem es132 : elemSz Tryz.prog 132 = some 6 := by kernel_rfl
theorem es157 : elemSz Tryz.prog 157 = some 1 := by kernel_rfl
theorem es159 : elemSz Tryz.prog 159 = some 2 := by kernel_rfl
theorem es24 : elemSz Tryz.prog 24 = some 2 := by kernel_rfl
theorem es25 : elemSz Tryz.prog 25 = some 13 := by kernel_rfl
theorem es26 : elemSz Tryz.prog 26 = some 13 := by kernel_rfl
theorem es31 : elemSz Tryz.prog 31 = some 6 := by kernel_rfl
theorem es34 : elemSz Tryz.prog 34 = some 6 := by kernel_rfl
theorem es71 : elemSz Tryz.prog 71 = some 7 := by kernel_rfl
theorem fo115_0 : fieldOff Tryz.prog 115 0 = some 0 := by kernel_rfl
theorem fo115_1 : fieldOff Tryz.prog 115 1 = some 1 := by kernel_rfl
theorem fo115_2 : fieldOff Tryz.prog 115 2 = some 2 := by kernel_rfl
theorem fo115_3 : fieldOff Tryz.prog 115 3 = some 4 := by kernel_rfl
theorem fo118_0 : fieldOff Tryz.prog 118 0 = some 0 := by kernel_rfl
theorem fo118_1 : fieldOff Tryz.prog 118 1 = some 1 := by kernel_rfl
theorem fo127_0 : fieldOff Tryz.prog 127 0 = some 0 := by kernel_rfl
theorem fo127_1 : fieldOff Tryz.prog 127 1 = some 1 := by kernel_rfl
theorem fo127_2 : fieldOff Tryz.prog 127 2 = some 2 := by kernel_rfl
theorem fo127_3 : fieldOff Tryz.prog 127 3 = some 4 := by kernel_rfl
theorem fo127_4 : fieldOff Tryz.prog 127 4 = some 6 := by kernel_rfl
theorem fo127_5 : fieldOff Tryz.prog 127 5 = some 12 := by kernel_rfl
theorem fo152_0 : fieldOff Tryz.prog 152 0 = some 0 := by kernel_rfl
theorem fo152_1 : fieldOff Tryz.prog 152 1 = some 7 := by kernel_rfl
theorem fo152_2 : fieldOff Tryz.prog 152 2 = some 8 := by kernel_rfl
theorem fo23_0 : fieldOff Tryz.prog 23 0 = some 0 := by kernel_rfl
theorem fo23_1 : fieldOff Tryz.prog 23 1 = some 1 := by kernel_rfl
theorem fo28_0 : fieldOff Tryz.prog 28 0 = some 0 := by kernel_rfl
theorem fo28_1 : fieldOff Tryz.prog 28 1 = some 1 := by kernel_rfl
theorem fo28_2 : fieldOff Tryz.prog 28 2 = some 3 := by kernel_rfl
theorem fo28_3 : fieldOff Tryz.prog 28 3 = some 4 := by kernel_rfl
theorem fo28_4 : fieldOff Tryz.prog 28 4 = some 5 := by kernel_rfl
theorem fo30_0 : fieldOff Tryz.prog 30 0 = some 0 := by kernel_rfl
theorem fo30_1 : fieldOff Tryz.prog 30 1 = some 1 := by kernel_rfl
theorem fo30_2 : fieldOff Tryz.prog 30 2 = some 2 := by kernel_rfl
theorem fo33_0 : fieldOff Tryz.prog 33 0 = some 0 := by kernel_rfl
theorem fo33_1 : fieldOff Tryz.prog 33 1 = some 3 := by kernel_rfl
theorem fo33_2 : fieldOff Tryz.prog 33 2 = some 4 := by kernel_rfl
theorem fo49_0 : fieldOff Tryz.prog 49 0 = some 0 := by kernel_rfl
theorem fo49_1 : fieldOff Tryz.prog 49 1 = some 1 := by kernel_rfl
theorem fo49_2 : fieldOff Tryz.prog 49 2 = some 2 := by kernel_rfl
theorem fo49_3 : fieldOff Tryz.prog 49 3 = some 3 := by kernel_rfl
theorem fo49_4 : fieldOff Tryz.prog 49 4 = some 4 := by kernel_rfl
theorem fo49_5 : fieldOff Tryz.prog 49 5 = some 5 := by kernel_rfl
theorem fo50_0 : fieldOff Tryz.prog 50 0 = some 0 := by kernel_rfl
theorem fo50_1 : fieldOff Tryz.prog 50 1 = some 1 := by kernel_rfl
theorem fo55_0 : fieldOff Tryz.prog 55 0 = some 0 := by kernel_rfl
theorem fo55_1 : fieldOff Tryz.prog 55 1 = some 2 := by kernel_rfl
theorem fo55_2 : fieldOff Tryz.prog 55 2 = some 4 := by kernel_rfl
theorem fo55_3 : fieldOff Tryz.prog 55 3 = some 6 := by kernel_rfl
theorem fo58_0 : fieldOff Tryz.prog 58 0 = some 0 := by kernel_rfl
theorem fo58_1 : fieldOff Tryz.prog 58 1 = some 6 := by kernel_rfl
theorem fo64_0 : fieldOff Tryz.prog 64 0 = some 0 := by kernel_rfl
theorem fo64_1 : fieldOff Tryz.prog 64 1 = some 2 := by kernel_rfl
theorem fo64_2 : fieldOff Tryz.prog 64 2 = some 4 := by kernel_rfl
theorem fo66_0 : fieldOff Tryz.prog 66 0 = some 0 := by kernel_rfl
theorem fo66_1 : fieldOff Tryz.prog 66 1 = some 1 := by kernel_rfl
theorem fo66_2 : fieldOff Tryz.prog 66 2 = some 3 := by kernel_rfl
theorem fo66_3 : fieldOff Tryz.prog 66 3 = some 5 := by kernel_rfl
theorem fo66_4 : fieldOff Tryz.prog 66 4 = some 7 := by kernel_rfl
theorem fo77_0 : fieldOff Tryz.prog 77 0 = some 0 := by kernel_rfl
theorem fo77_1 : fieldOff Tryz.prog 77 1 = some 2 := by kernel_rfl
theorem fo77_2 : fieldOff Tryz.prog 77 2 = some 4 := by kernel_rfl
theorem fo82_0 : fieldOff Tryz.prog 82 0 = some 0 := by kernel_rfl
theorem fo82_1 : fieldOff Tryz.prog 82 1 = some 2 := by kernel_rfl
theorem fo82_2 : fieldOff Tryz.prog 82 2 = some 4 := by kernel_rfl
theorem fo82_3 : fieldOff Tryz.prog 82 3 = some 6 := by kernel_rfl
theorem fo82_4 : fieldOff Tryz.prog 82 4 = some 8 := by kernel_rfl
theorem fo82_5 : fieldOff Tryz.prog 82 5 = some 10 := by kernel_rfl
theorem fo88_0 : fieldOff Tryz.prog 88 0 = some 0 := by kernel_rfl
theorem fo88_1 : fieldOff Tryz.prog 88 1 = some 2 := by kernel_rfl
theorem fo90_1 : fieldOff Tryz.prog 90 1 = some 1 := by kernel_rfl
theorem fo90_2 : fieldOff Tryz.prog 90 2 = some 5 := by kernel_rfl
theorem fo96_0 : fieldOff Tryz.prog 96 0 = some 0 := by kernel_rfl
theorem fo96_1 : fieldOff Tryz.prog 96 1 = some 6 := by kernel_rfl
theorem fo96_2 : fieldOff Tryz.prog 96 2 = some 12 := by kernel_rfl
theorem isl131 : (Tryz.prog.underlying 131).any (fun d => match d with | .slice _ => true | _ => false) = true := by kernel_rfl
theorem isl132 : (Tryz.prog.underlying 132).any (fun d => match d with | .slice _ => true | _ => false) = true := by kernel_rfl
theorem isl157 : (Tryz.prog.underlying 157).any (fun d => match d with | .slice _ => true | _ => false) = true := by kernel_rfl
theorem isl159 : (Tryz.prog.underlying 159).any (fun d => match d with | .slice _ => true | _ => false) = true := by kernel_rfl
theorem isl24 : (Tryz.prog.underlying 24).any (fun d => match d with | .slice _ => true | _ => false) = true := by kernel_rfl
theorem isl25 : (Tryz.prog.underlying 25).any (fun d => match d with | .slice _ => true | _ => false) = true := by kernel_rfl
theorem isl26 : (Tryz.prog.underlying 26).any (fun d => match d with | .slice _ => true | _ => false) = true := by kernel_rfl
theorem isl31 : (Tryz.prog.underlying 31).any (fun d => match d with | .slice _ => true | _ => false) = true := by kernel_rfl
theorem isl34 : (Tryz.prog.underlying 34).any (fun d => match d with | .slice _ => true | _ => false) = true := by kernel_rfl
theorem isl71 : (Tryz.prog.underlying 71).any (fun d => match d with | .slice _ => true | _ => false) = true := by kernel_rfl
theorem ist9 : (Tryz.prog.underlying 9).any (fun d => match d with | .string => true | _ => false) = true := by kernel_rfl
theorem lv39 : leaves Tryz.prog 10 39 = some [.int .i64, .int .i64] := by kernel_rfl
theorem lv49 : leaves Tryz.prog 10 49 = some [.int .i64, .int .i64, .int .i64, .int .i64, .int .i64, .int .i64] := by kernel_rfl
theorem lv77 : leaves Tryz.prog 10 77 = some [.int .i64, .int .i64, .int .i64, .int .i64, .int .i64, .int .i64] := by kernel_rfl
theorem lv90 : leaves Tryz.prog 10 90 = some [.int .i64, .int .i64, .int .i64, .int .i64, .int .i64, .int .i64, .int .i64] := by kernel_rfl
theorem pl115 : placesOf Tryz.prog 115 = some [(0, 1), (1, 1), (2, 2), (4, 2)] := by kernel_rfl
theorem pl118 : placesOf Tryz.prog 118 = some [(0, 1), (1, 1)] := by kernel_rfl
theorem pl149 : placesOf Tryz.prog 149 = some [] := by kernel_rfl
theorem pl152 : placesOf Tryz.prog 152 = some [(0, 7), (7, 1), (8, 1)] := by kernel_rfl
theorem pl23 : placesOf Tryz.prog 23 = some [(0, 1), (1, 1)] := by kernel_rfl
theorem pl28 : placesOf Tryz.prog 28 = some [(0, 1), (1, 2), (3, 1), (4, 1), (5, 1)] := by kernel_rfl
theorem pl30 : placesOf Tryz.prog 30 = some [(0, 1), (1, 1), (2, 1)] := by kernel_rfl
theorem pl39 : placesOf Tryz.prog 39 = some [(0, 1), (1, 1)] := by kernel_rfl
theorem pl49 : placesOf Tryz.prog 49 = some [(0, 1), (1, 1), (2, 1), (3, 1), (4, 1), (5, 1)] := by kernel_rfl
theorem pl50 : placesOf Tryz.prog 50 = some [(0, 1), (1, 1)] := by kernel_rfl
theorem pl55 : placesOf Tryz.prog 55 = some [(0, 2), (2, 2), (4, 2), (6, 6)] := by kernel_rfl
theorem pl58 : placesOf Tryz.prog 58 = some [(0, 6), (6, 6)] := by kernel_rfl
theorem pl64 : placesOf Tryz.prog 64 = some [(0, 2), (2, 2), (4, 2)] := by kernel_rfl
theorem pl66 : placesOf Tryz.prog 66 = some [(0, 1), (1, 2), (3, 2), (5, 2), (7, 6)] := by kernel_rfl
theorem pl77 : placesOf Tryz.prog 77 = some [(0, 2), (2, 2), (4, 2)] := by kernel_rfl
theorem pl82 : placesOf Tryz.prog 82 = some [(0, 2), (2, 2), (4, 2), (6, 2), (8, 2), (10, 2)] := by kernel_rfl
theorem pl88 : placesOf Tryz.prog 88 = some [(0, 2), (2, 2)] := by kernel_rfl
theorem pl90 : placesOf Tryz.prog 90 = some [(0, 1), (1, 4), (5, 2)] := by kernel_rfl
theorem pl96 : placesOf Tryz.prog 96 = some [(0, 6), (6, 6), (12, 1)] := by kernel_rfl
theorem sz115 : tySize Tryz.prog 115 = some 6 := by kernel_rfl
theorem sz118 : tySize Tryz.prog 118 = some 2 := by kernel_rfl
theorem sz127 : tySize Tryz.prog 127 = some 13 := by kernel_rfl
theorem sz134 : tySize Tryz.prog 134 = some 4 := by kernel_rfl
theorem sz149 : tySize Tryz.prog 149 = some 0 := by kernel_rfl
theorem sz150 : tySize Tryz.prog 150 = some 1 := by kernel_rfl
theorem sz23 : tySize Tryz.prog 23 = some 2 := by kernel_rfl
theorem sz24 : tySize Tryz.prog 24 = some 1 := by kernel_rfl
theorem sz28 : tySize Tryz.prog 28 = some 6 := by kernel_rfl
theorem sz3 : tySize Tryz.prog 3 = some 1 := by kernel_rfl
theorem sz30 : tySize Tryz.prog 30 = some 3 := by kernel_rfl
theorem sz35 : tySize Tryz.prog 35 = some 1 := by kernel_rfl
theorem sz39 : tySize Tryz.prog 39 = some 2 := by kernel_rfl
theorem sz44 : tySize Tryz.prog 44 = some 1 := by kernel_rfl
theorem sz49 : tySize Tryz.prog 49 = some 6 := by kernel_rfl
theorem sz50 : tySize Tryz.prog 50 = some 2 := by kernel_rfl
theorem sz52 : tySize Tryz.prog 52 = some 6 := by kernel_rfl
theorem sz55 : tySize Tryz.prog 55 = some 12 := by kernel_rfl
theorem sz58 : tySize Tryz.prog 58 = some 12 := by kernel_rfl
theorem sz64 : tySize Tryz.prog 64 = some 6 := by kernel_rfl
theorem sz66 : tySize Tryz.prog 66 = some 13 := by kernel_rfl
theorem sz71 : tySize Tryz.prog 71 = some 1 := by kernel_rfl
theorem sz77 : tySize Tryz.prog 77 = some 6 := by kernel_rfl
theorem sz82 : tySize Tryz.prog 82 = some 12 := by kernel_rfl
theorem sz84 : tySize Tryz.prog 84 = some 1 := by kernel_rfl
theorem sz88 : tySize Tryz.prog 88 = some 4 := by kernel_rfl
theorem sz90 : tySize Tryz.prog 90 = some 7 := by kernel_rfl
theorem un131 : Tryz.prog.underlying 131 = some (.slice 3) := by kernel_rfl
theorem un132 : Tryz.prog.underlying 132 = some (.slice 52) := by kernel_rfl
theorem un149 : Tryz.prog.underlying 149 = some (.struct #[]) := by kernel_rfl
theorem un157 : Tryz.prog.underlying 157 = some (.slice 5) := by kernel_rfl
theorem un24 : Tryz.prog.underlying 24 = some (.slice 118) := by kernel_rfl
theorem un25 : Tryz.prog.underlying 25 = some (.slice 66) := by kernel_rfl
theorem un31 : Tryz.prog.underlying 31 = some (.slice 115) := by kernel_rfl
theorem un5 : Tryz.prog.underlying 5 = some (.int .u8) := by kernel_rfl
theorem un52 : Tryz.prog.underlying 52 = some (.array 3 50) := by kernel_rfl
theorem un71 : Tryz.prog.underlying 71 = some (.slice 90) := by kernel_rfl
theorem un84 : Tryz.prog.underlying 84 = some (.slice 82) := by kernel_rfl
theorem un9 : Tryz.prog.underlying 9 = some (.string) := by kernel_rfl
theorem zr115 : tyZero Tryz.prog 115 = some (.agg #[.int .i64 0, .int .i64 0, .int .i64 0, .int .i64 0, .int .i64 0, .int .i64 0]) := by kernel_rfl
theorem zr118 : tyZero Tryz.prog 118 = some (.agg #[.int .i64 0, .int .i64 0]) := by kernel_rfl
theorem zr127 : tyZero Tryz.prog 127 = some (.agg #[.string ByteArray.empty, .int .i64 0, .int .i64 0, .int .i64 0, .int .i64 0, .int .i64 0, .int .i64 0, .int .i64 0, .int .i64 0, .int .i64 0, .int .i64 0, .int .i64 0, .int .i64 0]) := by kernel_rfl
theorem zr134 : tyZero Tryz.prog 134 = some (.agg #[.int .i64 0, .int .i64 0, .int .i64 0, .int .i64 0]) := by kernel_rfl
theorem zr149 : tyZero Tryz.prog 149 = some (.agg #[]) := by kernel_rfl
theorem zr150 : tyZero Tryz.prog 150 = some (.pointer none) := by kernel_rfl
theorem zr152 : tyZero Tryz.prog 152 = some (.agg #[.int .i64 0, .int .i64 0, .int .i64 0, .int .i64 0, .int .i64 0, .int .i64 0, .int .i64 0, .int .i64 0, .int .i64 0]) := by kernel_rfl
theorem zr23 : tyZero Tryz.prog 23 = some (.agg #[.int .i64 0, .int .i64 0]) := by kernel_rfl
theorem zr28 : tyZero Tryz.prog 28 = some (.agg #[.string ByteArray.empty, .int .i64 0, .int .i64 0, .slice none 0 0, .slice none 0 0, .slice none 0 0]) := by kernel_rfl
theorem zr3 : tyZero Tryz.prog 3 = some (.int .i64 0) := by kernel_rfl
theorem zr30 : tyZero Tryz.prog 30 = some (.agg #[.int .i64 0, .int .i64 0, .int .i64 0]) := by kernel_rfl
theorem zr35 : tyZero Tryz.prog 35 = some (.int .i64 0) := by kernel_rfl
theorem zr39 : tyZero Tryz.prog 39 = some (.agg #[.int .i64 0, .int .i64 0]) := by kernel_rfl
theorem zr44 : tyZero Tryz.prog 44 = some (.pointer none) := by kernel_rfl
theorem zr49 : tyZero Tryz.prog 49 = some (.agg #[.int .i64 0, .int .i64 0, .int .i64 0, .int .i64 0, .int .i64 0, .int .i64 0]) := by kernel_rfl
theorem zr50 : tyZero Tryz.prog 50 = some (.agg #[.int .i64 0, .int .i64 0]) := by kernel_rfl
theorem zr52 : tyZero Tryz.prog 52 = some (.agg #[.int .i64 0, .int .i64 0, .int .i64 0, .int .i64 0, .int .i64 0, .int .i64 0]) := by kernel_rfl
theorem zr55 : tyZero Tryz.prog 55 = some (.agg #[.int .i64 0, .int .i64 0, .int .i64 0, .int .i64 0, .int .i64 0, .int .i64 0, .int .i64 0, .int .i64 0, .int .i64 0, .int .i64 0, .int .i64 0, .int .i64 0]) := by kernel_rfl
theorem zr58 : tyZero Tryz.prog 58 = some (.agg #[.int .i64 0, .int .i64 0, .int .i64 0, .int .i64 0, .int .i64 0, .int .i64 0, .int .i64 0, .int .i64 0, .int .i64 0, .int .i64 0, .int .i64 0, .int .i64 0]) := by kernel_rfl
theorem zr64 : tyZero Tryz.prog 64 = some (.agg #[.int .i64 0, .int .i64 0, .int .i64 0, .int .i64 0, .int .i64 0, .int .i64 0]) := by kernel_rfl
theorem zr66 : tyZero Tryz.prog 66 = some (.agg #[.int .i64 0, .int .i64 0, .int .i64 0, .int .i64 0, .int .i64 0, .int .i64 0, .int .i64 0, .int .i64 0, .int .i64 0, .int .i64 0, .int .i64 0, .int .i64 0, .int .i64 0]) := by kernel_rfl
theorem zr71 : tyZero Tryz.prog 71 = some (.slice none 0 0) := by kernel_rfl
theorem zr77 : tyZero Tryz.prog 77 = some (.agg #[.int .i64 0, .int .i64 0, .int .i64 0, .int .i64 0, .int .i64 0, .int .i64 0]) := by kernel_rfl
theorem zr82 : tyZero Tryz.prog 82 = some (.agg #[.int .i64 0, .int .i64 0, .int .i64 0, .int .i64 0, .int .i64 0, .int .i64 0, .int .i64 0, .int .i64 0, .int .i64 0, .int .i64 0, .int .i64 0, .int .i64 0]) := by kernel_rfl
theorem zr84 : tyZero Tryz.prog 84 = some (.slice none 0 0) := by kernel_rfl
theorem zr88 : tyZero Tryz.prog 88 = some (.agg #[.int .i64 0, .int .i64 0, .int .i64 0, .int .i64 0]) := by kernel_rfl
theorem zr90 : tyZero Tryz.prog 90 = some (.agg #[.int .i64 0, .int .i64 0, .int .i64 0, .int .i64 0, .int .i64 0, .int .i64 0, .int .i64 0]) := by kernel_rfl
theorem zr96 : tyZero Tryz.prog 96 = some (.agg #[.string ByteArray.empty, .int .i64 0, .int .i64 0, .slice none 0 0, .slice none 0 0, .slice none 0 0, .int .i64 0, .int .i64 0, .int .i64 0, .int .i64 0, .int .i64 0, .int .i64 0, .slice none 0 0]) := by kernel_rfl
end Go.Proofs.YtbncegfgjbdheabGreat


set_option linter.all false
namespace Go.Proofs.YtbncegfgjbdheabGreat
open Go.Vc Go.Tk
set_option maxRecDepth 100000
theorem wout_c (n lo hi : Int) (w : World) : FnP Tryz.prog 70 [.int .i64 n, .int .i64 lo, .int .i64 hi] w (.bool (oP n lo hi)) := by
 refine fn_pure Tryz.func70 rfl (by kernel_rfl) Tryz.ntmps70 Tryz.results70 rfl ?_
 refine Vs rfl ?_
 refine La rfl rfl rfl ?_
 refine L_then (kp [0, 1, 2] rfl) ?_
 refine Vs rfl ?_
 iterate 2 refine Lm rfl rfl rfl ?_
 refine Lp rfl (p_lss rfl rfl rfl) ?_
 refine Lm rfl rfl rfl ?_
 refine L_cases (d := 10) rfl ?_ ?_
 ·intro g1; have g1' := g1; try simp only [td] at g1'
  iterate 3 refine L_no rfl rfl rfl g1 ?_
  refine Lp rfl (p_pick_t rfl rfl g1 rfl) ?_
  refine La rfl rfl rfl ?_
  refine L_then (kp [6] rfl) ?_
  refine V_ret ?_
  refine Leave.nil (.tmp rfl .nil) ?_
  simp [tup, oP, *]
 intro g1; have g1' := g1; try simp only [td] at g1'
 refine L_yes rfl rfl rfl g1 (X_p (p_move rfl rfl) ?_)
 refine L_yes rfl rfl rfl g1 (X_p (p_move rfl rfl) ?_)
 refine L_yes rfl rfl rfl g1 (X_p (p_gtr rfl rfl rfl) ?_)
 refine Lp rfl (p_pick_f rfl rfl g1 rfl) ?_
 refine La rfl rfl rfl ?_
 refine L_then (kp [6] rfl) ?_
 refine V_ret ?_
 refine Leave.nil (.tmp rfl .nil) ?_
 simp [tup, oP, *]
theorem idxInt_c (l : List Int) (v : Value) (fid : Nat) (cap : Array Value) (p : Int → Bool) (w : World) (hv : SliceR w 1 v (l.map (fun n : Int => [Value.int .i64 n]))) (hl : (l.length : Int) ≤ 9223372036854775806) (hf : ∀ x w', Ext w w' → FnP Tryz.prog fid (.int .i64 x :: cap.toList) w' (.bool (p x))) : FnP Tryz.prog 117 [v, .func (.func fid) #[] cap] w (.int .i64 (firstIdx (fun i => p (l.getD i 0)) 0 l.length)) := by
 obtain ⟨a, ca, rfl, hcap, hel⟩ := hv.ex
 simp only [List.length_map]
 refine fn_pure Tryz.func117 rfl (by kernel_rfl) Tryz.ntmps117 Tryz.results117 rfl ?_
 refine Vs rfl ?_
 refine La rfl rfl rfl ?_
 refine L_then (kp [0, 1] rfl) ?_
 refine V_seq ?_
 refine Vs rfl ?_
 refine Lm rfl rfl rfl ?_
 refine Lp rfl (p_len isl131 rfl rfl) ?_
 refine Lm rfl rfl rfl ?_
 refine L_then (kp [0, 1, 7, 8] rfl) ?_
 refine V_block ?_
 refine V_loop0 (γ := Int) (kp [0, 1, 7] rfl) (fun k => [(8, .int .i64 k)]) (fun k => 0 ≤ k ∧ k ≤ l.length ∧ ∀ j : Nat, (j : Int) < k → p (l.getD j 0) = false) (fun k => (l.length - k).toNat) (0) (.cons rfl (.nil _)) (⟨by omega, by omega, fun j hj => by omega⟩) ?_
 rintro k hi
 obtain ⟨hk0, hk1, hkp⟩ := hi
 refine Vs rfl ?_
 refine Lp rfl (p_lss rfl rfl rfl) ?_
 refine L_then (kp [0, 1, 7, 8, 9] rfl) ?_
 refine V_seq ?_
 refine V_cond rfl ?_ ?_
 ·intro c1; try simp only [td] at c1
  obtain ⟨b, rfl, hc⟩ := hel k.toNat _ (getD_cells (d := 0) (by omega))
  refine V_skip (then_n ?_)
  refine V_seq ?_
  refine V_block ?_
  refine Vs rfl ?_
  refine Lm rfl rfl rfl ?_
  refine La rfl rfl rfl ?_
  refine L_then (kp [0, 1, 5, 7, 8] rfl) ?_
  refine Vs rfl ?_
  iterate 3 refine Lm rfl rfl rfl ?_
  refine Lp rfl (p_idx es131 rfl rfl rfl (by omega) (by omega)) ?_
  refine Lr rfl (r_loadB ag3 rfl rfl (hc.zero) List.not_mem_nil) ?_
  refine Lc rfl rfl rfl rfl (fun w hg => hf _ w hg.toExt) ?_
  refine L_then (kp [0, 1, 5, 7, 8, 16] rfl) ?_
  refine V_cond rfl ?_ ?_
  ·intro c2; try simp only [td] at c2
   refine Vs rfl ?_
   refine Lm rfl rfl rfl ?_
   refine La rfl rfl rfl ?_
   refine L_then (kp [4] rfl) ?_
   refine V_ret (blk_r (then_r (then_r (blk_r (then_r ?_)))))
   refine Leave.nil (.tmp rfl .nil) ?_
   show Value.int .i64 k = _
   rw [firstIdx_hit (p := fun i => p (l.getD i 0)) (k := k.toNat) (by omega) c2 (fun j hj => hkp j (by omega))]
   congr 1; omega
  intro c2; try simp only [td] at c2
  refine V_skip (blk_n (then_n ?_))
  refine V_region rfl ?_
  first | refine Lp rfl (p_add' rfl rfl rfl (by unfold InI; omega)) ?_ | refine Lp rfl (p_add rfl rfl rfl) ?_
  refine Lm rfl rfl rfl ?_
  refine L_keep (kp [0, 1, 7, 8] rfl) (then_n ?_)
  refine ⟨k + 1, ?_, ?_, (.cons rfl (.cons rfl (.cons rfl (.cons rfl (.nil _))))), (by repeat (first | exact List.Sublist.refl _ | apply List.Sublist.cons_cons | apply List.Sublist.cons | apply List.sublist_append_of_sublist_right)), rfl⟩
  ·refine ⟨by omega, by omega, fun j hj => ?_⟩; by_cases e : (j : Int) < k
   ·exact hkp j e
   have : j = k.toNat := by omega
   rw [this]; exact c2
  omega
 intro c1; try simp only [td] at c1
 refine V_exit (then_e (then_e (blk_e rfl (then_n ?_))))
 refine Vs rfl ?_
 refine La rfl rfl rfl ?_
 refine L_then (kp [4] rfl) ?_
 refine V_ret ?_
 refine Leave.nil (.tmp rfl .nil) ?_
 show Value.int .i64 (-1) = _
 rw [firstIdx_none (p := fun i => p (l.getD i 0)) (fun j hj => hkp j (by omega))]
theorem contInt_c (l : List Int) (v : Value) (fid : Nat) (cap : Array Value) (p : Int → Bool) (w : World) (hv : SliceR w 1 v (l.map (fun n : Int => [Value.int .i64 n]))) (hl : (l.length : Int) ≤ 9223372036854775806) (hf : ∀ x w', Ext w w' → FnP Tryz.prog fid (.int .i64 x :: cap.toList) w' (.bool (p x))) : FnP Tryz.prog 114 [v, .func (.func fid) #[] cap] w (.bool (l.any p)) := by
 refine fn_pure Tryz.func114 rfl (by kernel_rfl) Tryz.ntmps114 Tryz.results114 rfl ?_
 refine Vs rfl ?_
 refine La rfl rfl rfl ?_
 refine L_then (kp [0, 1] rfl) ?_
 refine Vs rfl ?_
 iterate 2 refine Lm rfl rfl rfl ?_
 refine Lc rfl rfl rfl rfl (fun w hg => idxInt_c l _ _ _ p w (hv.good hg) hl (fun x w' he => hf x w' (hg.toExt.trans he))) ?_
 refine Lp rfl (p_geq rfl rfl rfl) ?_
 refine La rfl rfl rfl ?_
 refine L_then (kp [4] rfl) ?_
 refine V_ret ?_
 refine Leave.nil (.tmp rfl .nil) ?_
 show Value.bool _ = _
 rw [firstIdx_any, anyIdx_list]
theorem wname_c (s : ByteArray) (hs : (s.size : Int) ≤ 9223372036854775807) (w : World) : FnP Tryz.prog 64 [.string s] w (.bool (nameOk s)) := by
 refine fn_pure Tryz.func64 rfl (by kernel_rfl) Tryz.ntmps64 Tryz.results64 rfl ?_
 refine Vs rfl ?_
 refine La rfl rfl rfl ?_
 refine L_then (kp [0] rfl) ?_
 refine V_seq ?_
 refine Vs rfl ?_
 refine Lm rfl rfl rfl ?_
 refine Lw rfl (w_bytes un9 un157 un5 rfl rfl) ?_
 rintro _ _ ⟨b1, cap1, pad1, fr1, hb1, rfl, rfl⟩
 refine Lp rfl (p_len isl157 rfl rfl) ?_
 refine Lm rfl rfl rfl ?_
 refine L_then (kp [0, 6, 7, 8] rfl) ?_
 refine V_block ?_
 refine V_loop0 (γ := Int) (kp [0, 6, 7] rfl) (fun k => [(8, .int .i64 k)]) (fun k => 0 ≤ k ∧ k ≤ s.size ∧ ∀ j : Nat, (j : Int) < k → nameC s j = true) (fun k => (s.size - k).toNat) (0) (.cons rfl (.nil _)) (⟨by omega, by omega, fun j hj => by omega⟩) ?_
 rintro k hi
 obtain ⟨hk0, hk1, hkn⟩ := hi
 refine Vs rfl ?_
 refine Lp rfl (p_lss rfl rfl rfl) ?_
 refine L_then (kp [0, 6, 7, 8, 9] rfl) ?_
 refine V_seq ?_
 refine V_cond rfl ?_ ?_
 ·intro c1; try simp only [td] at c1
  refine V_skip (then_n ?_)
  refine V_seq ?_
  refine V_block ?_
  refine Vs rfl ?_
  refine Lm rfl rfl rfl ?_
  refine Lp rfl (p_idxo es157 rfl rfl rfl (by omega) (by omega)) ?_
  refine Lr rfl (r_load ag5 rfl rfl (by repeat first | exact mH | apply mT) (bytes_at (by omega))) ?_
  iterate 2 refine La rfl rfl rfl ?_
  refine L_then (kp [0, 3, 4, 6, 7, 8] rfl) ?_
  refine Vs rfl ?_
  refine Lm rfl rfl rfl ?_
  refine Lp rfl (p_geq rfl rfl rfl) ?_
  refine Lm rfl rfl rfl ?_
  refine L_cases (d := 15) rfl ?_ ?_
  ·intro g1; have g1' := g1; try simp only [td] at g1'
   refine L_yes rfl rfl rfl g1 (X_p (p_move rfl rfl) ?_)
   refine L_yes rfl rfl rfl g1 (X_p (p_leq rfl rfl rfl) ?_)
   refine Lp rfl (p_pick_t rfl rfl g1 rfl) ?_
   refine Lp rfl (p_not rfl rfl) ?_
   refine Lm rfl rfl rfl ?_
   refine L_cases (d := 20) rfl ?_ ?_
   ·intro g2; have g2' := g2; try simp only [td] at g2'
    refine L_yes rfl rfl rfl g2 (X_p (p_move rfl rfl) ?_)
    refine L_yes rfl rfl rfl g2 (X_p (p_eql rfl rfl rfl) ?_)
    refine L_yes rfl rfl rfl g2 (X_p (p_move rfl rfl) ?_)
    refine L_cases (d := 23) rfl ?_ ?_
    ·intro g3; have g3' := g3; try simp only [td] at g3'
     iterate 3 refine L_no rfl rfl rfl g3 ?_
     iterate 7 refine L_nou rfl rfl rfl ?_
     refine L_no rfl rfl rfl g3 ?_
     refine L_yes rfl rfl rfl g2 (X_p (p_pick_t rfl rfl g3 rfl) ?_)
     refine Lp rfl (p_pick_t rfl rfl g2 rfl) ?_
     refine L_then (kp [0, 6, 7, 8, 36] rfl) ?_
     refine V_cond_t rfl rfl ?_
     refine Vs rfl ?_
     refine La rfl rfl rfl ?_
     refine L_then (kp [2] rfl) ?_
     refine V_ret (blk_r (then_r (then_r (blk_r (then_r ?_)))))
     refine Leave.nil (.tmp rfl .nil) ?_
     first | (show Value.bool false = _; rw [nameOk_bad (k := k.toNat) (by omega) (by simp only [nameC, small, Bool.or_eq_true, Bool.and_eq_true, decide_eq_true_eq, decide_eq_false_iff_not, ← Bool.not_eq_true]; omega)]; done) | (show Value.bool (!(oP _ _ _)) = _; rw [nameOk_end (fun j hj => hkn j (by omega))])
    intro g3; have g3' := g3; try simp only [td] at g3'
    refine L_yes rfl rfl rfl g3 (X_p (p_move rfl rfl) ?_)
    refine L_yes rfl rfl rfl g3 (X_p (p_neq rfl rfl rfl) ?_)
    refine L_yes rfl rfl rfl g3 (X_p (p_move rfl rfl) ?_)
    refine L_cases (d := 26) rfl ?_ ?_
    ·intro g4; have g4' := g4; try simp only [td] at g4'
     refine L_yes rfl rfl rfl g4 (X_p (p_move rfl rfl) ?_)
     refine L_yes rfl rfl rfl g4 (X_p (p_geq rfl rfl rfl) ?_)
     refine L_yes rfl rfl rfl g4 (X_p (p_move rfl rfl) ?_)
     refine L_cases (d := 29) rfl ?_ ?_
     ·intro g5; have g5' := g5; try simp only [td] at g5'
      refine L_yes rfl rfl rfl g5 (X_p (p_move rfl rfl) ?_)
      refine L_yes rfl rfl rfl g5 (X_p (p_leq rfl rfl rfl) ?_)
      refine L_yes rfl rfl rfl g4 (X_p (p_pick_t rfl rfl g5 rfl) ?_)
      refine L_yes rfl rfl rfl g4 (X_p (p_not rfl rfl) ?_)
      refine L_yes rfl rfl rfl g3 (X_p (p_pick_t rfl rfl g4 rfl) ?_)
      refine L_yes rfl rfl rfl g2 (X_p (p_pick_f rfl rfl g3 rfl) ?_)
      refine Lp rfl (p_pick_t rfl rfl g2 rfl) ?_
      refine L_then (kp [0, 6, 7, 8, 36] rfl) ?_
      refine V_cond rfl ?_ ?_
      ·intro c2; try simp only [td] at c2
       refine Vs rfl ?_
       refine La rfl rfl rfl ?_
       refine L_then (kp [2] rfl) ?_
       refine V_ret (blk_r (then_r (then_r (blk_r (then_r ?_)))))
       refine Leave.nil (.tmp rfl .nil) ?_
       first | (show Value.bool false = _; rw [nameOk_bad (k := k.toNat) (by omega) (by simp only [nameC, small, Bool.or_eq_true, Bool.and_eq_true, decide_eq_true_eq, decide_eq_false_iff_not, ← Bool.not_eq_true]; omega)]; done) | (show Value.bool (!(oP _ _ _)) = _; rw [nameOk_end (fun j hj => hkn j (by omega))])
      intro c2; try simp only [td] at c2
      refine V_skip (blk_n (then_n ?_))
      refine V_region rfl ?_
      first | refine Lp rfl (p_add' rfl rfl rfl (by unfold InI; omega)) ?_ | refine Lp rfl (p_add rfl rfl rfl) ?_
      refine Lm rfl rfl rfl ?_
      refine L_keep (kp [0, 6, 7, 8] rfl) (then_n ?_)
      refine ⟨k + 1, ?_, ?_, (.cons rfl (.cons rfl (.cons rfl (.cons rfl (.nil _))))), (by repeat (first | exact List.Sublist.refl _ | apply List.Sublist.cons_cons | apply List.Sublist.cons | apply List.sublist_append_of_sublist_right)), rfl⟩
      ·refine ⟨by omega, by omega, fun j hj => ?_⟩; by_cases e : (j : Int) < k
       ·exact hkn j e
       have ej : j = k.toNat := by omega
       rw [ej]; simp only [nameC, small, Bool.or_eq_true, Bool.and_eq_true, decide_eq_true_eq, decide_eq_false_iff_not, ← Bool.not_eq_true]; omega
      omega
     intro g5; have g5' := g5; try simp only [td] at g5'
     iterate 2 refine L_no rfl rfl rfl g5 ?_
     refine L_yes rfl rfl rfl g4 (X_p (p_pick_f rfl rfl g5 rfl) ?_)
     refine L_yes rfl rfl rfl g4 (X_p (p_not rfl rfl) ?_)
     refine L_yes rfl rfl rfl g3 (X_p (p_pick_t rfl rfl g4 rfl) ?_)
     refine L_yes rfl rfl rfl g2 (X_p (p_pick_f rfl rfl g3 rfl) ?_)
     refine Lp rfl (p_pick_t rfl rfl g2 rfl) ?_
     refine L_then (kp [0, 6, 7, 8, 36] rfl) ?_
     refine V_cond_t rfl rfl ?_
     refine Vs rfl ?_
     refine La rfl rfl rfl ?_
     refine L_then (kp [2] rfl) ?_
     refine V_ret (blk_r (then_r (then_r (blk_r (then_r ?_)))))
     refine Leave.nil (.tmp rfl .nil) ?_
     first | (show Value.bool false = _; rw [nameOk_bad (k := k.toNat) (by omega) (by simp only [nameC, small, Bool.or_eq_true, Bool.and_eq_true, decide_eq_true_eq, decide_eq_false_iff_not, ← Bool.not_eq_true]; omega)]; done) | (show Value.bool (!(oP _ _ _)) = _; rw [nameOk_end (fun j hj => hkn j (by omega))])
    intro g4; have g4' := g4; try simp only [td] at g4'
    iterate 3 refine L_no rfl rfl rfl g4 ?_
    iterate 2 refine L_nou rfl rfl rfl ?_
    iterate 2 refine L_no rfl rfl rfl g4 ?_
    refine L_yes rfl rfl rfl g3 (X_p (p_pick_f rfl rfl g4 rfl) ?_)
    refine L_yes rfl rfl rfl g2 (X_p (p_pick_f rfl rfl g3 rfl) ?_)
    refine Lp rfl (p_pick_t rfl rfl g2 rfl) ?_
    refine L_then (kp [0, 6, 7, 8, 36] rfl) ?_
    refine V_cond_f rfl rfl ?_
    refine V_skip (blk_n (then_n ?_))
    refine V_region rfl ?_
    first | refine Lp rfl (p_add' rfl rfl rfl (by unfold InI; omega)) ?_ | refine Lp rfl (p_add rfl rfl rfl) ?_
    refine Lm rfl rfl rfl ?_
    refine L_keep (kp [0, 6, 7, 8] rfl) (then_n ?_)
    refine ⟨k + 1, ?_, ?_, (.cons rfl (.cons rfl (.cons rfl (.cons rfl (.nil _))))), (by repeat (first | exact List.Sublist.refl _ | apply List.Sublist.cons_cons | apply List.Sublist.cons | apply List.sublist_append_of_sublist_right)), rfl⟩
    ·refine ⟨by omega, by omega, fun j hj => ?_⟩; by_cases e : (j : Int) < k
     ·exact hkn j e
     have ej : j = k.toNat := by omega
     rw [ej]; simp only [nameC, small, Bool.or_eq_true, Bool.and_eq_true, decide_eq_true_eq, decide_eq_false_iff_not, ← Bool.not_eq_true]; omega
    omega
   intro g2; have g2' := g2; try simp only [td] at g2'
   iterate 3 refine L_no rfl rfl rfl g2 ?_
   iterate 11 refine L_nou rfl rfl rfl ?_
   refine L_no rfl rfl rfl g2 ?_
   refine Lp rfl (p_pick_f rfl rfl g2 rfl) ?_
   refine L_then (kp [0, 6, 7, 8, 36] rfl) ?_
   refine V_cond_f rfl rfl ?_
   refine V_skip (blk_n (then_n ?_))
   refine V_region rfl ?_
   first | refine Lp rfl (p_add' rfl rfl rfl (by unfold InI; omega)) ?_ | refine Lp rfl (p_add rfl rfl rfl) ?_
   refine Lm rfl rfl rfl ?_
   refine L_keep (kp [0, 6, 7, 8] rfl) (then_n ?_)
   refine ⟨k + 1, ?_, ?_, (.cons rfl (.cons rfl (.cons rfl (.cons rfl (.nil _))))), (by repeat (first | exact List.Sublist.refl _ | apply List.Sublist.cons_cons | apply List.Sublist.cons | apply List.sublist_append_of_sublist_right)), rfl⟩
   ·refine ⟨by omega, by omega, fun j hj => ?_⟩; by_cases e : (j : Int) < k
    ·exact hkn j e
    have ej : j = k.toNat := by omega
    rw [ej]; simp only [nameC, small, Bool.or_eq_true, Bool.and_eq_true, decide_eq_true_eq, decide_eq_false_iff_not, ← Bool.not_eq_true]; omega
   omega
  intro g1; have g1' := g1; try simp only [td] at g1'
  iterate 2 refine L_no rfl rfl rfl g1 ?_
  refine Lp rfl (p_pick_f rfl rfl g1 rfl) ?_
  refine Lp rfl (p_not rfl rfl) ?_
  refine Lm rfl rfl rfl ?_
  refine L_yes rfl rfl rfl rfl (X_p (p_move rfl rfl) ?_)
  refine L_yes rfl rfl rfl rfl (X_p (p_eql rfl rfl rfl) ?_)
  refine L_yes rfl rfl rfl rfl (X_p (p_move rfl rfl) ?_)
  refine L_cases (d := 23) rfl ?_ ?_
  ·intro g6; have g6' := g6; try simp only [td] at g6'
   iterate 3 refine L_no rfl rfl rfl g6 ?_
   iterate 7 refine L_nou rfl rfl rfl ?_
   refine L_no rfl rfl rfl g6 ?_
   refine L_yes rfl rfl rfl rfl (X_p (p_pick_t rfl rfl g6 rfl) ?_)
   refine Lp rfl (p_pick_t rfl rfl rfl rfl) ?_
   refine L_then (kp [0, 6, 7, 8, 36] rfl) ?_
   refine V_cond_t rfl rfl ?_
   refine Vs rfl ?_
   refine La rfl rfl rfl ?_
   refine L_then (kp [2] rfl) ?_
   refine V_ret (blk_r (then_r (then_r (blk_r (then_r ?_)))))
   refine Leave.nil (.tmp rfl .nil) ?_
   first | (show Value.bool false = _; rw [nameOk_bad (k := k.toNat) (by omega) (by simp only [nameC, small, Bool.or_eq_true, Bool.and_eq_true, decide_eq_true_eq, decide_eq_false_iff_not, ← Bool.not_eq_true]; omega)]; done) | (show Value.bool (!(oP _ _ _)) = _; rw [nameOk_end (fun j hj => hkn j (by omega))])
  intro g6; have g6' := g6; try simp only [td] at g6'
  refine L_yes rfl rfl rfl g6 (X_p (p_move rfl rfl) ?_)
  refine L_yes rfl rfl rfl g6 (X_p (p_neq rfl rfl rfl) ?_)
  refine L_yes rfl rfl rfl g6 (X_p (p_move rfl rfl) ?_)
  refine L_cases (d := 26) rfl ?_ ?_
  ·intro g7; have g7' := g7; try simp only [td] at g7'
   refine L_yes rfl rfl rfl g7 (X_p (p_move rfl rfl) ?_)
   refine L_yes rfl rfl rfl g7 (X_p (p_geq rfl rfl rfl) ?_)
   refine L_yes rfl rfl rfl g7 (X_p (p_move rfl rfl) ?_)
   refine L_cases (d := 29) rfl ?_ ?_
   ·intro g8; have g8' := g8; try simp only [td] at g8'
    refine L_yes rfl rfl rfl g8 (X_p (p_move rfl rfl) ?_)
    refine L_yes rfl rfl rfl g8 (X_p (p_leq rfl rfl rfl) ?_)
    refine L_yes rfl rfl rfl g7 (X_p (p_pick_t rfl rfl g8 rfl) ?_)
    refine L_yes rfl rfl rfl g7 (X_p (p_not rfl rfl) ?_)
    refine L_yes rfl rfl rfl g6 (X_p (p_pick_t rfl rfl g7 rfl) ?_)
    refine L_yes rfl rfl rfl rfl (X_p (p_pick_f rfl rfl g6 rfl) ?_)
    refine Lp rfl (p_pick_t rfl rfl rfl rfl) ?_
    refine L_then (kp [0, 6, 7, 8, 36] rfl) ?_
    refine V_cond rfl ?_ ?_
    ·intro c3; try simp only [td] at c3
     refine Vs rfl ?_
     refine La rfl rfl rfl ?_
     refine L_then (kp [2] rfl) ?_
     refine V_ret (blk_r (then_r (then_r (blk_r (then_r ?_)))))
     refine Leave.nil (.tmp rfl .nil) ?_
     first | (show Value.bool false = _; rw [nameOk_bad (k := k.toNat) (by omega) (by simp only [nameC, small, Bool.or_eq_true, Bool.and_eq_true, decide_eq_true_eq, decide_eq_false_iff_not, ← Bool.not_eq_true]; omega)]; done) | (show Value.bool (!(oP _ _ _)) = _; rw [nameOk_end (fun j hj => hkn j (by omega))])
    intro c3; try simp only [td] at c3
    refine V_skip (blk_n (then_n ?_))
    refine V_region rfl ?_
    first | refine Lp rfl (p_add' rfl rfl rfl (by unfold InI; omega)) ?_ | refine Lp rfl (p_add rfl rfl rfl) ?_
    refine Lm rfl rfl rfl ?_
    refine L_keep (kp [0, 6, 7, 8] rfl) (then_n ?_)
    refine ⟨k + 1, ?_, ?_, (.cons rfl (.cons rfl (.cons rfl (.cons rfl (.nil _))))), (by repeat (first | exact List.Sublist.refl _ | apply List.Sublist.cons_cons | apply List.Sublist.cons | apply List.sublist_append_of_sublist_right)), rfl⟩
    ·refine ⟨by omega, by omega, fun j hj => ?_⟩; by_cases e : (j : Int) < k
     ·exact hkn j e
     have ej : j = k.toNat := by omega
     rw [ej]; simp only [nameC, small, Bool.or_eq_true, Bool.and_eq_true, decide_eq_true_eq, decide_eq_false_iff_not, ← Bool.not_eq_true]; omega
    omega
   intro g8; have g8' := g8; try simp only [td] at g8'
   iterate 2 refine L_no rfl rfl rfl g8 ?_
   refine L_yes rfl rfl rfl g7 (X_p (p_pick_f rfl rfl g8 rfl) ?_)
   refine L_yes rfl rfl rfl g7 (X_p (p_not rfl rfl) ?_)
   refine L_yes rfl rfl rfl g6 (X_p (p_pick_t rfl rfl g7 rfl) ?_)
   refine L_yes rfl rfl rfl rfl (X_p (p_pick_f rfl rfl g6 rfl) ?_)
   refine Lp rfl (p_pick_t rfl rfl rfl rfl) ?_
   refine L_then (kp [0, 6, 7, 8, 36] rfl) ?_
   refine V_cond_t rfl rfl ?_
   refine Vs rfl ?_
   refine La rfl rfl rfl ?_
   refine L_then (kp [2] rfl) ?_
   refine V_ret (blk_r (then_r (then_r (blk_r (then_r ?_)))))
   refine Leave.nil (.tmp rfl .nil) ?_
   first | (show Value.bool false = _; rw [nameOk_bad (k := k.toNat) (by omega) (by simp only [nameC, small, Bool.or_eq_true, Bool.and_eq_true, decide_eq_true_eq, decide_eq_false_iff_not, ← Bool.not_eq_true]; omega)]; done) | (show Value.bool (!(oP _ _ _)) = _; rw [nameOk_end (fun j hj => hkn j (by omega))])
  intro g7; have g7' := g7; try simp only [td] at g7'
  iterate 3 refine L_no rfl rfl rfl g7 ?_
  iterate 2 refine L_nou rfl rfl rfl ?_
  iterate 2 refine L_no rfl rfl rfl g7 ?_
  refine L_yes rfl rfl rfl g6 (X_p (p_pick_f rfl rfl g7 rfl) ?_)
  refine L_yes rfl rfl rfl rfl (X_p (p_pick_f rfl rfl g6 rfl) ?_)
  refine Lp rfl (p_pick_t rfl rfl rfl rfl) ?_
  refine L_then (kp [0, 6, 7, 8, 36] rfl) ?_
  refine V_cond_f rfl rfl ?_
  refine V_skip (blk_n (then_n ?_))
  refine V_region rfl ?_
  first | refine Lp rfl (p_add' rfl rfl rfl (by unfold InI; omega)) ?_ | refine Lp rfl (p_add rfl rfl rfl) ?_
  refine Lm rfl rfl rfl ?_
  refine L_keep (kp [0, 6, 7, 8] rfl) (then_n ?_)
  refine ⟨k + 1, ?_, ?_, (.cons rfl (.cons rfl (.cons rfl (.cons rfl (.nil _))))), (by repeat (first | exact List.Sublist.refl _ | apply List.Sublist.cons_cons | apply List.Sublist.cons | apply List.sublist_append_of_sublist_right)), rfl⟩
  ·refine ⟨by omega, by omega, fun j hj => ?_⟩; by_cases e : (j : Int) < k
   ·exact hkn j e
   have ej : j = k.toNat := by omega
   rw [ej]; simp only [nameC, small, Bool.or_eq_true, Bool.and_eq_true, decide_eq_true_eq, decide_eq_false_iff_not, ← Bool.not_eq_true]; omega
  omega
 intro c1; try simp only [td] at c1
 refine V_exit (then_e (then_e (blk_e rfl (then_n ?_))))
 refine Vs rfl ?_
 refine Lm rfl rfl rfl ?_
 refine Lp rfl (p_lens ist9 rfl rfl) ?_
 refine Lc rfl rfl rfl rfl (fun w hg => wout_c _ _ _ w) ?_
 refine Lp rfl (p_not rfl rfl) ?_
 refine La rfl rfl rfl ?_
 refine L_then (kp [2] rfl) ?_
 refine V_ret ?_
 refine Leave.nil (.tmp rfl .nil) ?_
 first | (show Value.bool false = _; rw [nameOk_bad (k := k.toNat) (by omega) (by simp only [nameC, small, Bool.or_eq_true, Bool.and_eq_true, decide_eq_true_eq, decide_eq_false_iff_not, ← Bool.not_eq_true]; omega)]; done) | (show Value.bool (!(oP _ _ _)) = _; rw [nameOk_end (fun j hj => hkn j (by omega))])
theorem rname_c (s : ByteArray) (hs : (s.size : Int) ≤ 9223372036854775807) (w : World) : FnP Tryz.prog 77 [.string s] w (.bool (nameOk s)) := by
 refine fn_pure Tryz.func77 rfl (by kernel_rfl) Tryz.ntmps77 Tryz.results77 rfl ?_
 refine Vs rfl ?_
 refine La rfl rfl rfl ?_
 refine L_then (kp [0] rfl) ?_
 refine V_seq ?_
 refine Vs rfl ?_
 refine Lm rfl rfl rfl ?_
 refine Lp rfl (p_lens ist9 rfl rfl) ?_
 refine Lp rfl (p_lss rfl rfl rfl) ?_
 refine Lm rfl rfl rfl ?_
 refine L_cases (d := 9) rfl ?_ ?_
 ·intro g1; have g1' := g1; try simp only [td] at g1'
  iterate 3 refine L_no rfl rfl rfl g1 ?_
  refine Lp rfl (p_pick_t rfl rfl g1 rfl) ?_
  refine L_then (kp [0, 13] rfl) ?_
  refine V_cond_t rfl rfl ?_
  refine Vs rfl ?_
  refine La rfl rfl rfl ?_
  refine L_then (kp [2] rfl) ?_
  refine V_ret (then_r ?_)
  refine Leave.nil (.tmp rfl .nil) ?_
  first | (show Value.bool false = _; rw [nameOk_bad (k := k.toNat) (by omega) (by simp only [nameC, small, Bool.or_eq_true, Bool.and_eq_true, decide_eq_true_eq, decide_eq_false_iff_not, ← Bool.not_eq_true]; omega)]; done) | (show Value.bool false = _; rw [nameOk_len (by omega)]; done) | (show Value.bool true = _; rw [nameOk_all (by omega) (by omega) (fun j hj => hkn j (by omega))])
 intro g1; have g1' := g1; try simp only [td] at g1'
 refine L_yes rfl rfl rfl g1 (X_p (p_move rfl rfl) ?_)
 refine L_yes rfl rfl rfl g1 (X_p (p_lens ist9 rfl rfl) ?_)
 refine L_yes rfl rfl rfl g1 (X_p (p_gtr rfl rfl rfl) ?_)
 refine Lp rfl (p_pick_f rfl rfl g1 rfl) ?_
 refine L_then (kp [0, 13] rfl) ?_
 refine V_cond rfl ?_ ?_
 ·intro c1; try simp only [td] at c1
  refine Vs rfl ?_
  refine La rfl rfl rfl ?_
  refine L_then (kp [2] rfl) ?_
  refine V_ret (then_r ?_)
  refine Leave.nil (.tmp rfl .nil) ?_
  first | (show Value.bool false = _; rw [nameOk_bad (k := k.toNat) (by omega) (by simp only [nameC, small, Bool.or_eq_true, Bool.and_eq_true, decide_eq_true_eq, decide_eq_false_iff_not, ← Bool.not_eq_true]; omega)]; done) | (show Value.bool false = _; rw [nameOk_len (by omega)]; done) | (show Value.bool true = _; rw [nameOk_all (by omega) (by omega) (fun j hj => hkn j (by omega))])
 intro c1; try simp only [td] at c1
 refine V_skip (then_n ?_)
 refine V_seq ?_
 refine Vs rfl ?_
 refine La rfl rfl rfl ?_
 refine L_then (kp [0, 3] rfl) ?_
 refine V_block ?_
 refine V_loop0 (γ := Int) (kp [0] rfl) (fun k => [(3, .int .i64 k)]) (fun k => 0 ≤ k ∧ k ≤ s.size ∧ ∀ j : Nat, (j : Int) < k → nameC s j = true) (fun k => (s.size - k).toNat) (0) (.cons rfl (.nil _)) (⟨by omega, by omega, fun j hj => by omega⟩) ?_
 rintro k hi
 obtain ⟨hk0, hk1, hkn⟩ := hi
 refine V_seq ?_
 refine Vs rfl ?_
 iterate 2 refine Lm rfl rfl rfl ?_
 refine Lp rfl (p_lens ist9 rfl rfl) ?_
 refine Lp rfl (p_lss rfl rfl rfl) ?_
 refine L_then (kp [0, 3, 17] rfl) ?_
 refine V_cond rfl ?_ ?_
 ·intro c2; try simp only [td] at c2
  refine V_skip (then_n ?_)
  refine V_seq ?_
  refine V_block ?_
  refine Vs rfl ?_
  iterate 2 refine Lm rfl rfl rfl ?_
  refine Lp rfl (p_chr un9 rfl rfl rfl (by omega) (by omega)) ?_
  refine La rfl rfl rfl ?_
  refine L_then (kp [0, 3, 4] rfl) ?_
  refine Vs rfl ?_
  refine Lm rfl rfl rfl ?_
  refine Lp rfl (p_geq rfl rfl rfl) ?_
  refine Lm rfl rfl rfl ?_
  refine L_cases (d := 25) rfl ?_ ?_
  ·intro g2; have g2' := g2; try simp only [td] at g2'
   refine L_yes rfl rfl rfl g2 (X_p (p_move rfl rfl) ?_)
   refine L_yes rfl rfl rfl g2 (X_p (p_leq rfl rfl rfl) ?_)
   refine Lp rfl (p_pick_t rfl rfl g2 rfl) ?_
   refine La rfl rfl rfl ?_
   refine L_then (kp [0, 3, 4, 5] rfl) ?_
   refine Vs rfl ?_
   refine Lm rfl rfl rfl ?_
   refine Lp rfl (p_not rfl rfl) ?_
   refine Lm rfl rfl rfl ?_
   refine L_cases (d := 31) rfl ?_ ?_
   ·intro g3; have g3' := g3; try simp only [td] at g3'
    refine L_yes rfl rfl rfl g3 (X_p (p_move rfl rfl) ?_)
    refine L_yes rfl rfl rfl g3 (X_p (p_eql rfl rfl rfl) ?_)
    refine L_yes rfl rfl rfl g3 (X_p (p_move rfl rfl) ?_)
    refine L_cases (d := 34) rfl ?_ ?_
    ·intro g4; have g4' := g4; try simp only [td] at g4'
     iterate 3 refine L_no rfl rfl rfl g4 ?_
     iterate 2 refine L_nou rfl rfl rfl ?_
     iterate 2 refine L_no rfl rfl rfl g4 ?_
     iterate 2 refine L_nou rfl rfl rfl ?_
     iterate 2 refine L_no rfl rfl rfl g4 ?_
     refine L_yes rfl rfl rfl g3 (X_p (p_pick_t rfl rfl g4 rfl) ?_)
     refine Lp rfl (p_pick_t rfl rfl g3 rfl) ?_
     refine L_then (kp [0, 3, 47] rfl) ?_
     refine V_cond_t rfl rfl ?_
     refine Vs rfl ?_
     refine La rfl rfl rfl ?_
     refine L_then (kp [2] rfl) ?_
     refine V_ret (blk_r (then_r (then_r (blk_r (then_r ?_)))))
     refine Leave.nil (.tmp rfl .nil) ?_
     first | (show Value.bool false = _; rw [nameOk_bad (k := k.toNat) (by omega) (by simp only [nameC, small, Bool.or_eq_true, Bool.and_eq_true, decide_eq_true_eq, decide_eq_false_iff_not, ← Bool.not_eq_true]; omega)]; done) | (show Value.bool false = _; rw [nameOk_len (by omega)]; done) | (show Value.bool true = _; rw [nameOk_all (by omega) (by omega) (fun j hj => hkn j (by omega))])
    intro g4; have g4' := g4; try simp only [td] at g4'
    refine L_yes rfl rfl rfl g4 (X_p (p_move rfl rfl) ?_)
    refine L_yes rfl rfl rfl g4 (X_p (p_geq rfl rfl rfl) ?_)
    refine L_yes rfl rfl rfl g4 (X_p (p_move rfl rfl) ?_)
    refine L_cases (d := 37) rfl ?_ ?_
    ·intro g5; have g5' := g5; try simp only [td] at g5'
     refine L_yes rfl rfl rfl g5 (X_p (p_move rfl rfl) ?_)
     refine L_yes rfl rfl rfl g5 (X_p (p_leq rfl rfl rfl) ?_)
     refine L_yes rfl rfl rfl g4 (X_p (p_pick_t rfl rfl g5 rfl) ?_)
     refine L_yes rfl rfl rfl g4 (X_p (p_move rfl rfl) ?_)
     refine L_cases (d := 41) rfl ?_ ?_
     ·intro g6; have g6' := g6; try simp only [td] at g6'
      iterate 2 refine L_no rfl rfl rfl g6 ?_
      refine L_yes rfl rfl rfl g4 (X_p (p_pick_t rfl rfl g6 rfl) ?_)
      refine L_yes rfl rfl rfl g4 (X_p (p_not rfl rfl) ?_)
      refine L_yes rfl rfl rfl g3 (X_p (p_pick_f rfl rfl g4 rfl) ?_)
      refine Lp rfl (p_pick_t rfl rfl g3 rfl) ?_
      refine L_then (kp [0, 3, 47] rfl) ?_
      refine V_cond_f rfl rfl ?_
      refine V_skip (blk_n (then_n ?_))
      refine V_region rfl ?_
      refine Lm rfl rfl rfl ?_
      first | refine Lp rfl (p_add' rfl rfl rfl (by unfold InI; omega)) ?_ | refine Lp rfl (p_add rfl rfl rfl) ?_
      refine La rfl rfl rfl ?_
      refine L_keep (kp [0, 3] rfl) (then_n ?_)
      refine ⟨k + 1, ?_, ?_, (.cons rfl (.cons rfl (.nil _))), (by repeat (first | exact List.Sublist.refl _ | apply List.Sublist.cons_cons | apply List.Sublist.cons | apply List.sublist_append_of_sublist_right)), rfl⟩
      ·refine ⟨by omega, by omega, fun j hj => ?_⟩; by_cases e : (j : Int) < k
       ·exact hkn j e
       have ej : j = k.toNat := by omega
       rw [ej]; simp only [nameC, small, Bool.or_eq_true, Bool.and_eq_true, decide_eq_true_eq, decide_eq_false_iff_not, ← Bool.not_eq_true]; omega
      omega
     intro g6; have g6' := g6; try simp only [td] at g6'
     refine L_yes rfl rfl rfl g6 (X_p (p_move rfl rfl) ?_)
     refine L_yes rfl rfl rfl g6 (X_p (p_eql rfl rfl rfl) ?_)
     refine L_yes rfl rfl rfl g4 (X_p (p_pick_f rfl rfl g6 rfl) ?_)
     refine L_yes rfl rfl rfl g4 (X_p (p_not rfl rfl) ?_)
     refine L_yes rfl rfl rfl g3 (X_p (p_pick_f rfl rfl g4 rfl) ?_)
     refine Lp rfl (p_pick_t rfl rfl g3 rfl) ?_
     refine L_then (kp [0, 3, 47] rfl) ?_
     refine V_cond rfl ?_ ?_
     ·intro c3; try simp only [td] at c3
      refine Vs rfl ?_
      refine La rfl rfl rfl ?_
      refine L_then (kp [2] rfl) ?_
      refine V_ret (blk_r (then_r (then_r (blk_r (then_r ?_)))))
      refine Leave.nil (.tmp rfl .nil) ?_
      first | (show Value.bool false = _; rw [nameOk_bad (k := k.toNat) (by omega) (by simp only [nameC, small, Bool.or_eq_true, Bool.and_eq_true, decide_eq_true_eq, decide_eq_false_iff_not, ← Bool.not_eq_true]; omega)]; done) | (show Value.bool false = _; rw [nameOk_len (by omega)]; done) | (show Value.bool true = _; rw [nameOk_all (by omega) (by omega) (fun j hj => hkn j (by omega))])
     intro c3; try simp only [td] at c3
     refine V_skip (blk_n (then_n ?_))
     refine V_region rfl ?_
     refine Lm rfl rfl rfl ?_
     first | refine Lp rfl (p_add' rfl rfl rfl (by unfold InI; omega)) ?_ | refine Lp rfl (p_add rfl rfl rfl) ?_
     refine La rfl rfl rfl ?_
     refine L_keep (kp [0, 3] rfl) (then_n ?_)
     refine ⟨k + 1, ?_, ?_, (.cons rfl (.cons rfl (.nil _))), (by repeat (first | exact List.Sublist.refl _ | apply List.Sublist.cons_cons | apply List.Sublist.cons | apply List.sublist_append_of_sublist_right)), rfl⟩
     ·refine ⟨by omega, by omega, fun j hj => ?_⟩; by_cases e : (j : Int) < k
      ·exact hkn j e
      have ej : j = k.toNat := by omega
      rw [ej]; simp only [nameC, small, Bool.or_eq_true, Bool.and_eq_true, decide_eq_true_eq, decide_eq_false_iff_not, ← Bool.not_eq_true]; omega
     omega
    intro g5; have g5' := g5; try simp only [td] at g5'
    iterate 2 refine L_no rfl rfl rfl g5 ?_
    refine L_yes rfl rfl rfl g4 (X_p (p_pick_f rfl rfl g5 rfl) ?_)
    refine L_yes rfl rfl rfl g4 (X_p (p_move rfl rfl) ?_)
    refine L_yes rfl rfl rfl rfl (X_p (p_move rfl rfl) ?_)
    refine L_yes rfl rfl rfl rfl (X_p (p_eql rfl rfl rfl) ?_)
    refine L_yes rfl rfl rfl g4 (X_p (p_pick_f rfl rfl rfl rfl) ?_)
    refine L_yes rfl rfl rfl g4 (X_p (p_not rfl rfl) ?_)
    refine L_yes rfl rfl rfl g3 (X_p (p_pick_f rfl rfl g4 rfl) ?_)
    refine Lp rfl (p_pick_t rfl rfl g3 rfl) ?_
    refine L_then (kp [0, 3, 47] rfl) ?_
    refine V_cond rfl ?_ ?_
    ·intro c4; try simp only [td] at c4
     refine Vs rfl ?_
     refine La rfl rfl rfl ?_
     refine L_then (kp [2] rfl) ?_
     refine V_ret (blk_r (then_r (then_r (blk_r (then_r ?_)))))
     refine Leave.nil (.tmp rfl .nil) ?_
     first | (show Value.bool false = _; rw [nameOk_bad (k := k.toNat) (by omega) (by simp only [nameC, small, Bool.or_eq_true, Bool.and_eq_true, decide_eq_true_eq, decide_eq_false_iff_not, ← Bool.not_eq_true]; omega)]; done) | (show Value.bool false = _; rw [nameOk_len (by omega)]; done) | (show Value.bool true = _; rw [nameOk_all (by omega) (by omega) (fun j hj => hkn j (by omega))])
    intro c4; try simp only [td] at c4
    refine V_skip (blk_n (then_n ?_))
    refine V_region rfl ?_
    refine Lm rfl rfl rfl ?_
    first | refine Lp rfl (p_add' rfl rfl rfl (by unfold InI; omega)) ?_ | refine Lp rfl (p_add rfl rfl rfl) ?_
    refine La rfl rfl rfl ?_
    refine L_keep (kp [0, 3] rfl) (then_n ?_)
    refine ⟨k + 1, ?_, ?_, (.cons rfl (.cons rfl (.nil _))), (by repeat (first | exact List.Sublist.refl _ | apply List.Sublist.cons_cons | apply List.Sublist.cons | apply List.sublist_append_of_sublist_right)), rfl⟩
    ·refine ⟨by omega, by omega, fun j hj => ?_⟩; by_cases e : (j : Int) < k
     ·exact hkn j e
     have ej : j = k.toNat := by omega
     rw [ej]; simp only [nameC, small, Bool.or_eq_true, Bool.and_eq_true, decide_eq_true_eq, decide_eq_false_iff_not, ← Bool.not_eq_true]; omega
    omega
   intro g3; have g3' := g3; try simp only [td] at g3'
   iterate 3 refine L_no rfl rfl rfl g3 ?_
   iterate 11 refine L_nou rfl rfl rfl ?_
   refine L_no rfl rfl rfl g3 ?_
   refine Lp rfl (p_pick_f rfl rfl g3 rfl) ?_
   refine L_then (kp [0, 3, 47] rfl) ?_
   refine V_cond_f rfl rfl ?_
   refine V_skip (blk_n (then_n ?_))
   refine V_region rfl ?_
   refine Lm rfl rfl rfl ?_
   first | refine Lp rfl (p_add' rfl rfl rfl (by unfold InI; omega)) ?_ | refine Lp rfl (p_add rfl rfl rfl) ?_
   refine La rfl rfl rfl ?_
   refine L_keep (kp [0, 3] rfl) (then_n ?_)
   refine ⟨k + 1, ?_, ?_, (.cons rfl (.cons rfl (.nil _))), (by repeat (first | exact List.Sublist.refl _ | apply List.Sublist.cons_cons | apply List.Sublist.cons | apply List.sublist_append_of_sublist_right)), rfl⟩
   ·refine ⟨by omega, by omega, fun j hj => ?_⟩; by_cases e : (j : Int) < k
    ·exact hkn j e
    have ej : j = k.toNat := by omega
    rw [ej]; simp only [nameC, small, Bool.or_eq_true, Bool.and_eq_true, decide_eq_true_eq, decide_eq_false_iff_not, ← Bool.not_eq_true]; omega
   omega
  intro g2; have g2' := g2; try simp only [td] at g2'
  iterate 2 refine L_no rfl rfl rfl g2 ?_
  refine Lp rfl (p_pick_f rfl rfl g2 rfl) ?_
  refine La rfl rfl rfl ?_
  refine L_then (kp [0, 3, 4, 5] rfl) ?_
  refine Vs rfl ?_
  refine Lm rfl rfl rfl ?_
  refine Lp rfl (p_not rfl rfl) ?_
  refine Lm rfl rfl rfl ?_
  refine L_yes rfl rfl rfl rfl (X_p (p_move rfl rfl) ?_)
  refine L_yes rfl rfl rfl rfl (X_p (p_eql rfl rfl rfl) ?_)
  refine L_yes rfl rfl rfl rfl (X_p (p_move rfl rfl) ?_)
  refine L_cases (d := 34) rfl ?_ ?_
  ·intro g7; have g7' := g7; try simp only [td] at g7'
   iterate 3 refine L_no rfl rfl rfl g7 ?_
   iterate 2 refine L_nou rfl rfl rfl ?_
   iterate 2 refine L_no rfl rfl rfl g7 ?_
   iterate 2 refine L_nou rfl rfl rfl ?_
   iterate 2 refine L_no rfl rfl rfl g7 ?_
   refine L_yes rfl rfl rfl rfl (X_p (p_pick_t rfl rfl g7 rfl) ?_)
   refine Lp rfl (p_pick_t rfl rfl rfl rfl) ?_
   refine L_then (kp [0, 3, 47] rfl) ?_
   refine V_cond_t rfl rfl ?_
   refine Vs rfl ?_
   refine La rfl rfl rfl ?_
   refine L_then (kp [2] rfl) ?_
   refine V_ret (blk_r (then_r (then_r (blk_r (then_r ?_)))))
   refine Leave.nil (.tmp rfl .nil) ?_
   first | (show Value.bool false = _; rw [nameOk_bad (k := k.toNat) (by omega) (by simp only [nameC, small, Bool.or_eq_true, Bool.and_eq_true, decide_eq_true_eq, decide_eq_false_iff_not, ← Bool.not_eq_true]; omega)]; done) | (show Value.bool false = _; rw [nameOk_len (by omega)]; done) | (show Value.bool true = _; rw [nameOk_all (by omega) (by omega) (fun j hj => hkn j (by omega))])
  intro g7; have g7' := g7; try simp only [td] at g7'
  refine L_yes rfl rfl rfl g7 (X_p (p_move rfl rfl) ?_)
  refine L_yes rfl rfl rfl g7 (X_p (p_geq rfl rfl rfl) ?_)
  refine L_yes rfl rfl rfl g7 (X_p (p_move rfl rfl) ?_)
  refine L_cases (d := 37) rfl ?_ ?_
  ·intro g8; have g8' := g8; try simp only [td] at g8'
   refine L_yes rfl rfl rfl g8 (X_p (p_move rfl rfl) ?_)
   refine L_yes rfl rfl rfl g8 (X_p (p_leq rfl rfl rfl) ?_)
   refine L_yes rfl rfl rfl g7 (X_p (p_pick_t rfl rfl g8 rfl) ?_)
   refine L_yes rfl rfl rfl g7 (X_p (p_move rfl rfl) ?_)
   refine L_cases (d := 41) rfl ?_ ?_
   ·intro g9; have g9' := g9; try simp only [td] at g9'
    iterate 2 refine L_no rfl rfl rfl g9 ?_
    refine L_yes rfl rfl rfl g7 (X_p (p_pick_t rfl rfl g9 rfl) ?_)
    refine L_yes rfl rfl rfl g7 (X_p (p_not rfl rfl) ?_)
    refine L_yes rfl rfl rfl rfl (X_p (p_pick_f rfl rfl g7 rfl) ?_)
    refine Lp rfl (p_pick_t rfl rfl rfl rfl) ?_
    refine L_then (kp [0, 3, 47] rfl) ?_
    refine V_cond_f rfl rfl ?_
    refine V_skip (blk_n (then_n ?_))
    refine V_region rfl ?_
    refine Lm rfl rfl rfl ?_
    first | refine Lp rfl (p_add' rfl rfl rfl (by unfold InI; omega)) ?_ | refine Lp rfl (p_add rfl rfl rfl) ?_
    refine La rfl rfl rfl ?_
    refine L_keep (kp [0, 3] rfl) (then_n ?_)
    refine ⟨k + 1, ?_, ?_, (.cons rfl (.cons rfl (.nil _))), (by repeat (first | exact List.Sublist.refl _ | apply List.Sublist.cons_cons | apply List.Sublist.cons | apply List.sublist_append_of_sublist_right)), rfl⟩
    ·refine ⟨by omega, by omega, fun j hj => ?_⟩; by_cases e : (j : Int) < k
     ·exact hkn j e
     have ej : j = k.toNat := by omega
     rw [ej]; simp only [nameC, small, Bool.or_eq_true, Bool.and_eq_true, decide_eq_true_eq, decide_eq_false_iff_not, ← Bool.not_eq_true]; omega
    omega
   intro g9; have g9' := g9; try simp only [td] at g9'
   refine L_yes rfl rfl rfl g9 (X_p (p_move rfl rfl) ?_)
   refine L_yes rfl rfl rfl g9 (X_p (p_eql rfl rfl rfl) ?_)
   refine L_yes rfl rfl rfl g7 (X_p (p_pick_f rfl rfl g9 rfl) ?_)
   refine L_yes rfl rfl rfl g7 (X_p (p_not rfl rfl) ?_)
   refine L_yes rfl rfl rfl rfl (X_p (p_pick_f rfl rfl g7 rfl) ?_)
   refine Lp rfl (p_pick_t rfl rfl rfl rfl) ?_
   refine L_then (kp [0, 3, 47] rfl) ?_
   refine V_cond rfl ?_ ?_
   ·intro c5; try simp only [td] at c5
    refine Vs rfl ?_
    refine La rfl rfl rfl ?_
    refine L_then (kp [2] rfl) ?_
    refine V_ret (blk_r (then_r (then_r (blk_r (then_r ?_)))))
    refine Leave.nil (.tmp rfl .nil) ?_
    first | (show Value.bool false = _; rw [nameOk_bad (k := k.toNat) (by omega) (by simp only [nameC, small, Bool.or_eq_true, Bool.and_eq_true, decide_eq_true_eq, decide_eq_false_iff_not, ← Bool.not_eq_true]; omega)]; done) | (show Value.bool false = _; rw [nameOk_len (by omega)]; done) | (show Value.bool true = _; rw [nameOk_all (by omega) (by omega) (fun j hj => hkn j (by omega))])
   intro c5; try simp only [td] at c5
   refine V_skip (blk_n (then_n ?_))
   refine V_region rfl ?_
   refine Lm rfl rfl rfl ?_
   first | refine Lp rfl (p_add' rfl rfl rfl (by unfold InI; omega)) ?_ | refine Lp rfl (p_add rfl rfl rfl) ?_
   refine La rfl rfl rfl ?_
   refine L_keep (kp [0, 3] rfl) (then_n ?_)
   refine ⟨k + 1, ?_, ?_, (.cons rfl (.cons rfl (.nil _))), (by repeat (first | exact List.Sublist.refl _ | apply List.Sublist.cons_cons | apply List.Sublist.cons | apply List.sublist_append_of_sublist_right)), rfl⟩
   ·refine ⟨by omega, by omega, fun j hj => ?_⟩; by_cases e : (j : Int) < k
    ·exact hkn j e
    have ej : j = k.toNat := by omega
    rw [ej]; simp only [nameC, small, Bool.or_eq_true, Bool.and_eq_true, decide_eq_true_eq, decide_eq_false_iff_not, ← Bool.not_eq_true]; omega
   omega
  intro g8; have g8' := g8; try simp only [td] at g8'
  iterate 2 refine L_no rfl rfl rfl g8 ?_
  refine L_yes rfl rfl rfl g7 (X_p (p_pick_f rfl rfl g8 rfl) ?_)
  refine L_yes rfl rfl rfl g7 (X_p (p_move rfl rfl) ?_)
  refine L_yes rfl rfl rfl rfl (X_p (p_move rfl rfl) ?_)
  refine L_yes rfl rfl rfl rfl (X_p (p_eql rfl rfl rfl) ?_)
  refine L_yes rfl rfl rfl g7 (X_p (p_pick_f rfl rfl rfl rfl) ?_)
  refine L_yes rfl rfl rfl g7 (X_p (p_not rfl rfl) ?_)
  refine L_yes rfl rfl rfl rfl (X_p (p_pick_f rfl rfl g7 rfl) ?_)
  refine Lp rfl (p_pick_t rfl rfl rfl rfl) ?_
  refine L_then (kp [0, 3, 47] rfl) ?_
  refine V_cond rfl ?_ ?_
  ·intro c6; try simp only [td] at c6
   refine Vs rfl ?_
   refine La rfl rfl rfl ?_
   refine L_then (kp [2] rfl) ?_
   refine V_ret (blk_r (then_r (then_r (blk_r (then_r ?_)))))
   refine Leave.nil (.tmp rfl .nil) ?_
   first | (show Value.bool false = _; rw [nameOk_bad (k := k.toNat) (by omega) (by simp only [nameC, small, Bool.or_eq_true, Bool.and_eq_true, decide_eq_true_eq, decide_eq_false_iff_not, ← Bool.not_eq_true]; omega)]; done) | (show Value.bool false = _; rw [nameOk_len (by omega)]; done) | (show Value.bool true = _; rw [nameOk_all (by omega) (by omega) (fun j hj => hkn j (by omega))])
  intro c6; try simp only [td] at c6
  refine V_skip (blk_n (then_n ?_))
  refine V_region rfl ?_
  refine Lm rfl rfl rfl ?_
  first | refine Lp rfl (p_add' rfl rfl rfl (by unfold InI; omega)) ?_ | refine Lp rfl (p_add rfl rfl rfl) ?_
  refine La rfl rfl rfl ?_
  refine L_keep (kp [0, 3] rfl) (then_n ?_)
  refine ⟨k + 1, ?_, ?_, (.cons rfl (.cons rfl (.nil _))), (by repeat (first | exact List.Sublist.refl _ | apply List.Sublist.cons_cons | apply List.Sublist.cons | apply List.sublist_append_of_sublist_right)), rfl⟩
  ·refine ⟨by omega, by omega, fun j hj => ?_⟩; by_cases e : (j : Int) < k
   ·exact hkn j e
   have ej : j = k.toNat := by omega
   rw [ej]; simp only [nameC, small, Bool.or_eq_true, Bool.and_eq_true, decide_eq_true_eq, decide_eq_false_iff_not, ← Bool.not_eq_true]; omega
  omega
 intro c2; try simp only [td] at c2
 refine V_exit (then_e (then_e (blk_e rfl (then_n ?_))))
 refine Vs rfl ?_
 refine La rfl rfl rfl ?_
 refine L_then (kp [2] rfl) ?_
 refine V_ret ?_
 refine Leave.nil (.tmp rfl .nil) ?_
 first | (show Value.bool false = _; rw [nameOk_bad (k := k.toNat) (by omega) (by simp only [nameC, small, Bool.or_eq_true, Bool.and_eq_true, decide_eq_true_eq, decide_eq_false_iff_not, ← Bool.not_eq_true]; omega)]; done) | (show Value.bool false = _; rw [nameOk_len (by omega)]; done) | (show Value.bool true = _; rw [nameOk_all (by omega) (by omega) (fun j hj => hkn j (by omega))])
end Go.Proofs.YtbncegfgjbdheabGreat
