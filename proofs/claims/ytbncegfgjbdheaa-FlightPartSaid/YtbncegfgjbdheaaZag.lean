/- Joined texts. -/
import Derived.Test.YtbncegfgjbdheaaZad
import Derived.Test.YtbncegfgjbdheaaProg
import Derived.Test.YtbncegfgjbdheaaZac
/- What the tables say of the types in hand. -/
set_option linter.all false
namespace Go.Proofs.Ytbncegfgjbdheaa
open Go.Vc
theorem mixed : Try.prog.follows .mixedOrders = true := by kernel_rfl
theorem ag100 : tyAgg Try.prog 100 = some true := by kernel_rfl
theorem ag103 : tyAgg Try.prog 103 = some true := by kernel_rfl
theorem ag112 : tyAgg Try.prog 112 = some false := by kernel_rfl
theorem ag121 : tyAgg Try.prog 121 = some true := by kernel_rfl
theorem ag122 : tyAgg Try.prog 122 = some false := by kernel_rfl
theorem ag139 : tyAgg Try.prog 139 = some true := by kernel_rfl
theorem ag142 : tyAgg Try.prog 142 = some true := by kernel_rfl
theorem ag159 : tyAgg Try.prog 159 = some false := by kernel_rfl
theorem ag23 : tyAgg Try.prog 23 = some true := by kernel_rfl
theorem ag24 : tyAgg Try.prog 24 = some false := by kernel_rfl
theorem ag25 : tyAgg Try.prog 25 = some false := by kernel_rfl
theorem ag26 : tyAgg Try.prog 26 = some false := by kernel_rfl
theorem ag28 : tyAgg Try.prog 28 = some true := by kernel_rfl
theorem ag3 : tyAgg Try.prog 3 = some false := by kernel_rfl
theorem ag30 : tyAgg Try.prog 30 = some true := by kernel_rfl
theorem ag31 : tyAgg Try.prog 31 = some false := by kernel_rfl
theorem ag37 : tyAgg Try.prog 37 = some false := by kernel_rfl
theorem ag40 : tyAgg Try.prog 40 = some false := by kernel_rfl
theorem ag44 : tyAgg Try.prog 44 = some true := by kernel_rfl
theorem ag46 : tyAgg Try.prog 46 = some true := by kernel_rfl
theorem ag49 : tyAgg Try.prog 49 = some true := by kernel_rfl
theorem ag5 : tyAgg Try.prog 5 = some false := by kernel_rfl
theorem ag51 : tyAgg Try.prog 51 = some true := by kernel_rfl
theorem ag54 : tyAgg Try.prog 54 = some true := by kernel_rfl
theorem ag56 : tyAgg Try.prog 56 = some false := by kernel_rfl
theorem ag62 : tyAgg Try.prog 62 = some true := by kernel_rfl
theorem ag88 : tyAgg Try.prog 88 = some true := by kernel_rfl
theorem ag9 : tyAgg Try.prog 9 = some false := by kernel_rfl
theorem ag90 : tyAgg Try.prog 90 = some true := by kernel_rfl
theorem ag97 : tyAgg Try.prog 97 = some true := by kernel_rfl
theorem ap166 : appOf Try.prog 166 = some (3, 1, 8) := by kernel_rfl
theorem ap167 : appOf Try.prog 167 = some (103, 6, 48) := by kernel_rfl
theorem ap40 : appOf Try.prog 40 = some (54, 12, 96) := by kernel_rfl
theorem ap56 : appOf Try.prog 56 = some (62, 7, 56) := by kernel_rfl
theorem ap89 : appOf Try.prog 89 = some (88, 6, 48) := by kernel_rfl
theorem ar103 : arrOf Try.prog 103 = some (3, 2) := by kernel_rfl
theorem ar178 : arrOf Try.prog 178 = some (4, 1) := by kernel_rfl
theorem eg62 : Try.prog.eqGuardType Try.prog.depth 62 = false := by kernel_rfl
theorem eg90 : Try.prog.eqGuardType Try.prog.depth 90 = false := by kernel_rfl
theorem es146 : elemSz Try.prog 146 = some 2 := by kernel_rfl
theorem es166 : elemSz Try.prog 166 = some 1 := by kernel_rfl
theorem es167 : elemSz Try.prog 167 = some 6 := by kernel_rfl
theorem es24 : elemSz Try.prog 24 = some 2 := by kernel_rfl
theorem es25 : elemSz Try.prog 25 = some 13 := by kernel_rfl
theorem es26 : elemSz Try.prog 26 = some 13 := by kernel_rfl
theorem es37 : elemSz Try.prog 37 = some 6 := by kernel_rfl
theorem es40 : elemSz Try.prog 40 = some 12 := by kernel_rfl
theorem es56 : elemSz Try.prog 56 = some 7 := by kernel_rfl
theorem es85 : elemSz Try.prog 85 = some 1 := by kernel_rfl
theorem es89 : elemSz Try.prog 89 = some 6 := by kernel_rfl
theorem fo100_0 : fieldOff Try.prog 100 0 = some 0 := by kernel_rfl
theorem fo100_1 : fieldOff Try.prog 100 1 = some 1 := by kernel_rfl
theorem fo121_0 : fieldOff Try.prog 121 0 = some 0 := by kernel_rfl
theorem fo121_1 : fieldOff Try.prog 121 1 = some 6 := by kernel_rfl
theorem fo139_0 : fieldOff Try.prog 139 0 = some 0 := by kernel_rfl
theorem fo139_1 : fieldOff Try.prog 139 1 = some 2 := by kernel_rfl
theorem fo139_2 : fieldOff Try.prog 139 2 = some 4 := by kernel_rfl
theorem fo139_3 : fieldOff Try.prog 139 3 = some 6 := by kernel_rfl
theorem fo142_0 : fieldOff Try.prog 142 0 = some 0 := by kernel_rfl
theorem fo142_1 : fieldOff Try.prog 142 1 = some 1 := by kernel_rfl
theorem fo152_0 : fieldOff Try.prog 152 0 = some 0 := by kernel_rfl
theorem fo152_1 : fieldOff Try.prog 152 1 = some 6 := by kernel_rfl
theorem fo152_2 : fieldOff Try.prog 152 2 = some 12 := by kernel_rfl
theorem fo161_0 : fieldOff Try.prog 161 0 = some 0 := by kernel_rfl
theorem fo161_1 : fieldOff Try.prog 161 1 = some 7 := by kernel_rfl
theorem fo161_2 : fieldOff Try.prog 161 2 = some 8 := by kernel_rfl
theorem fo23_0 : fieldOff Try.prog 23 0 = some 0 := by kernel_rfl
theorem fo23_1 : fieldOff Try.prog 23 1 = some 1 := by kernel_rfl
theorem fo28_0 : fieldOff Try.prog 28 0 = some 0 := by kernel_rfl
theorem fo28_1 : fieldOff Try.prog 28 1 = some 1 := by kernel_rfl
theorem fo28_2 : fieldOff Try.prog 28 2 = some 3 := by kernel_rfl
theorem fo28_3 : fieldOff Try.prog 28 3 = some 4 := by kernel_rfl
theorem fo28_4 : fieldOff Try.prog 28 4 = some 5 := by kernel_rfl
theorem fo30_0 : fieldOff Try.prog 30 0 = some 0 := by kernel_rfl
theorem fo30_1 : fieldOff Try.prog 30 1 = some 1 := by kernel_rfl
theorem fo30_2 : fieldOff Try.prog 30 2 = some 2 := by kernel_rfl
theorem fo39_0 : fieldOff Try.prog 39 0 = some 0 := by kernel_rfl
theorem fo39_1 : fieldOff Try.prog 39 1 = some 3 := by kernel_rfl
theorem fo39_2 : fieldOff Try.prog 39 2 = some 4 := by kernel_rfl
theorem fo39_3 : fieldOff Try.prog 39 3 = some 5 := by kernel_rfl
theorem fo44_0 : fieldOff Try.prog 44 0 = some 0 := by kernel_rfl
theorem fo44_1 : fieldOff Try.prog 44 1 = some 2 := by kernel_rfl
theorem fo44_2 : fieldOff Try.prog 44 2 = some 4 := by kernel_rfl
theorem fo46_0 : fieldOff Try.prog 46 0 = some 0 := by kernel_rfl
theorem fo46_1 : fieldOff Try.prog 46 1 = some 1 := by kernel_rfl
theorem fo46_2 : fieldOff Try.prog 46 2 = some 3 := by kernel_rfl
theorem fo46_3 : fieldOff Try.prog 46 3 = some 5 := by kernel_rfl
theorem fo46_4 : fieldOff Try.prog 46 4 = some 7 := by kernel_rfl
theorem fo49_0 : fieldOff Try.prog 49 0 = some 0 := by kernel_rfl
theorem fo49_1 : fieldOff Try.prog 49 1 = some 1 := by kernel_rfl
theorem fo49_2 : fieldOff Try.prog 49 2 = some 2 := by kernel_rfl
theorem fo49_3 : fieldOff Try.prog 49 3 = some 4 := by kernel_rfl
theorem fo49_4 : fieldOff Try.prog 49 4 = some 6 := by kernel_rfl
theorem fo49_5 : fieldOff Try.prog 49 5 = some 12 := by kernel_rfl
theorem fo51_0 : fieldOff Try.prog 51 0 = some 0 := by kernel_rfl
theorem fo51_1 : fieldOff Try.prog 51 1 = some 1 := by kernel_rfl
theorem fo51_2 : fieldOff Try.prog 51 2 = some 2 := by kernel_rfl
theorem fo51_3 : fieldOff Try.prog 51 3 = some 4 := by kernel_rfl
theorem fo54_0 : fieldOff Try.prog 54 0 = some 0 := by kernel_rfl
theorem fo54_1 : fieldOff Try.prog 54 1 = some 2 := by kernel_rfl
theorem fo54_2 : fieldOff Try.prog 54 2 = some 4 := by kernel_rfl
theorem fo54_3 : fieldOff Try.prog 54 3 = some 6 := by kernel_rfl
theorem fo54_4 : fieldOff Try.prog 54 4 = some 8 := by kernel_rfl
theorem fo54_5 : fieldOff Try.prog 54 5 = some 10 := by kernel_rfl
theorem fo60_0 : fieldOff Try.prog 60 0 = some 0 := by kernel_rfl
theorem fo60_1 : fieldOff Try.prog 60 1 = some 2 := by kernel_rfl
theorem fo62_1 : fieldOff Try.prog 62 1 = some 1 := by kernel_rfl
theorem fo62_2 : fieldOff Try.prog 62 2 = some 5 := by kernel_rfl
theorem fo88_0 : fieldOff Try.prog 88 0 = some 0 := by kernel_rfl
theorem fo88_1 : fieldOff Try.prog 88 1 = some 1 := by kernel_rfl
theorem fo88_2 : fieldOff Try.prog 88 2 = some 2 := by kernel_rfl
theorem fo88_3 : fieldOff Try.prog 88 3 = some 3 := by kernel_rfl
theorem fo88_4 : fieldOff Try.prog 88 4 = some 4 := by kernel_rfl
theorem fo88_5 : fieldOff Try.prog 88 5 = some 5 := by kernel_rfl
theorem fo90_0 : fieldOff Try.prog 90 0 = some 0 := by kernel_rfl
theorem fo90_1 : fieldOff Try.prog 90 1 = some 2 := by kernel_rfl
theorem fo90_2 : fieldOff Try.prog 90 2 = some 4 := by kernel_rfl
theorem fo97_0 : fieldOff Try.prog 97 0 = some 0 := by kernel_rfl
theorem fo97_1 : fieldOff Try.prog 97 1 = some 1 := by kernel_rfl
theorem isl146 : (Try.prog.underlying 146).any (fun d => match d with | .slice _ => true | _ => false) = true := by kernel_rfl
theorem isl166 : (Try.prog.underlying 166).any (fun d => match d with | .slice _ => true | _ => false) = true := by kernel_rfl
theorem isl167 : (Try.prog.underlying 167).any (fun d => match d with | .slice _ => true | _ => false) = true := by kernel_rfl
theorem isl24 : (Try.prog.underlying 24).any (fun d => match d with | .slice _ => true | _ => false) = true := by kernel_rfl
theorem isl25 : (Try.prog.underlying 25).any (fun d => match d with | .slice _ => true | _ => false) = true := by kernel_rfl
theorem isl26 : (Try.prog.underlying 26).any (fun d => match d with | .slice _ => true | _ => false) = true := by kernel_rfl
theorem isl37 : (Try.prog.underlying 37).any (fun d => match d with | .slice _ => true | _ => false) = true := by kernel_rfl
theorem isl40 : (Try.prog.underlying 40).any (fun d => match d with | .slice _ => true | _ => false) = true := by kernel_rfl
theorem isl56 : (Try.prog.underlying 56).any (fun d => match d with | .slice _ => true | _ => false) = true := by kernel_rfl
theorem isl85 : (Try.prog.underlying 85).any (fun d => match d with | .slice _ => true | _ => false) = true := by kernel_rfl
theorem isl89 : (Try.prog.underlying 89).any (fun d => match d with | .slice _ => true | _ => false) = true := by kernel_rfl
theorem ist9 : (Try.prog.underlying 9).any (fun d => match d with | .string => true | _ => false) = true := by kernel_rfl
theorem lv62 : leaves Try.prog 10 62 = some [.int .i64, .int .i64, .int .i64, .int .i64, .int .i64, .int .i64, .int .i64] := by kernel_rfl
theorem lv90 : leaves Try.prog 10 90 = some [.int .i64, .int .i64, .int .i64, .int .i64, .int .i64, .int .i64] := by kernel_rfl
theorem pl100 : placesOf Try.prog 100 = some [(0, 1), (1, 1)] := by kernel_rfl
theorem pl121 : placesOf Try.prog 121 = some [(0, 6), (6, 6)] := by kernel_rfl
theorem pl139 : placesOf Try.prog 139 = some [(0, 2), (2, 2), (4, 2), (6, 6)] := by kernel_rfl
theorem pl142 : placesOf Try.prog 142 = some [(0, 1), (1, 1)] := by kernel_rfl
theorem pl152 : placesOf Try.prog 152 = some [(0, 6), (6, 6), (12, 1)] := by kernel_rfl
theorem pl154 : placesOf Try.prog 154 = some [] := by kernel_rfl
theorem pl161 : placesOf Try.prog 161 = some [(0, 7), (7, 1), (8, 1)] := by kernel_rfl
theorem pl23 : placesOf Try.prog 23 = some [(0, 1), (1, 1)] := by kernel_rfl
theorem pl28 : placesOf Try.prog 28 = some [(0, 1), (1, 2), (3, 1), (4, 1), (5, 1)] := by kernel_rfl
theorem pl30 : placesOf Try.prog 30 = some [(0, 1), (1, 1), (2, 1)] := by kernel_rfl
theorem pl44 : placesOf Try.prog 44 = some [(0, 2), (2, 2), (4, 2)] := by kernel_rfl
theorem pl46 : placesOf Try.prog 46 = some [(0, 1), (1, 2), (3, 2), (5, 2), (7, 6)] := by kernel_rfl
theorem pl51 : placesOf Try.prog 51 = some [(0, 1), (1, 1), (2, 2), (4, 2)] := by kernel_rfl
theorem pl54 : placesOf Try.prog 54 = some [(0, 2), (2, 2), (4, 2), (6, 2), (8, 2), (10, 2)] := by kernel_rfl
theorem pl60 : placesOf Try.prog 60 = some [(0, 2), (2, 2)] := by kernel_rfl
theorem pl62 : placesOf Try.prog 62 = some [(0, 1), (1, 4), (5, 2)] := by kernel_rfl
theorem pl88 : placesOf Try.prog 88 = some [(0, 1), (1, 1), (2, 1), (3, 1), (4, 1), (5, 1)] := by kernel_rfl
theorem pl90 : placesOf Try.prog 90 = some [(0, 2), (2, 2), (4, 2)] := by kernel_rfl
theorem pl97 : placesOf Try.prog 97 = some [(0, 1), (1, 1)] := by kernel_rfl
theorem sz100 : tySize Try.prog 100 = some 2 := by kernel_rfl
theorem sz103 : tySize Try.prog 103 = some 6 := by kernel_rfl
theorem sz112 : tySize Try.prog 112 = some 1 := by kernel_rfl
theorem sz121 : tySize Try.prog 121 = some 12 := by kernel_rfl
theorem sz139 : tySize Try.prog 139 = some 12 := by kernel_rfl
theorem sz142 : tySize Try.prog 142 = some 2 := by kernel_rfl
theorem sz154 : tySize Try.prog 154 = some 0 := by kernel_rfl
theorem sz159 : tySize Try.prog 159 = some 1 := by kernel_rfl
theorem sz178 : tySize Try.prog 178 = some 4 := by kernel_rfl
theorem sz23 : tySize Try.prog 23 = some 2 := by kernel_rfl
theorem sz24 : tySize Try.prog 24 = some 1 := by kernel_rfl
theorem sz25 : tySize Try.prog 25 = some 1 := by kernel_rfl
theorem sz26 : tySize Try.prog 26 = some 1 := by kernel_rfl
theorem sz28 : tySize Try.prog 28 = some 6 := by kernel_rfl
theorem sz3 : tySize Try.prog 3 = some 1 := by kernel_rfl
theorem sz30 : tySize Try.prog 30 = some 3 := by kernel_rfl
theorem sz31 : tySize Try.prog 31 = some 1 := by kernel_rfl
theorem sz40 : tySize Try.prog 40 = some 1 := by kernel_rfl
theorem sz44 : tySize Try.prog 44 = some 6 := by kernel_rfl
theorem sz46 : tySize Try.prog 46 = some 13 := by kernel_rfl
theorem sz49 : tySize Try.prog 49 = some 13 := by kernel_rfl
theorem sz51 : tySize Try.prog 51 = some 6 := by kernel_rfl
theorem sz54 : tySize Try.prog 54 = some 12 := by kernel_rfl
theorem sz56 : tySize Try.prog 56 = some 1 := by kernel_rfl
theorem sz60 : tySize Try.prog 60 = some 4 := by kernel_rfl
theorem sz62 : tySize Try.prog 62 = some 7 := by kernel_rfl
theorem sz88 : tySize Try.prog 88 = some 6 := by kernel_rfl
theorem sz90 : tySize Try.prog 90 = some 6 := by kernel_rfl
theorem sz97 : tySize Try.prog 97 = some 2 := by kernel_rfl
theorem un103 : Try.prog.underlying 103 = some (.array 3 97) := by kernel_rfl
theorem un154 : Try.prog.underlying 154 = some (.struct #[]) := by kernel_rfl
theorem un166 : Try.prog.underlying 166 = some (.slice 3) := by kernel_rfl
theorem un167 : Try.prog.underlying 167 = some (.slice 103) := by kernel_rfl
theorem un24 : Try.prog.underlying 24 = some (.slice 100) := by kernel_rfl
theorem un25 : Try.prog.underlying 25 = some (.slice 46) := by kernel_rfl
theorem un3 : Try.prog.underlying 3 = some (.int .i64) := by kernel_rfl
theorem un37 : Try.prog.underlying 37 = some (.slice 51) := by kernel_rfl
theorem un40 : Try.prog.underlying 40 = some (.slice 54) := by kernel_rfl
theorem un5 : Try.prog.underlying 5 = some (.int .u8) := by kernel_rfl
theorem un56 : Try.prog.underlying 56 = some (.slice 62) := by kernel_rfl
theorem un85 : Try.prog.underlying 85 = some (.slice 5) := by kernel_rfl
theorem un89 : Try.prog.underlying 89 = some (.slice 88) := by kernel_rfl
theorem un9 : Try.prog.underlying 9 = some (.string) := by kernel_rfl
theorem zr100 : tyZero Try.prog 100 = some (.agg #[.int .i64 0, .int .i64 0]) := by kernel_rfl
theorem zr103 : tyZero Try.prog 103 = some (.agg #[.int .i64 0, .int .i64 0, .int .i64 0, .int .i64 0, .int .i64 0, .int .i64 0]) := by kernel_rfl
theorem zr112 : tyZero Try.prog 112 = some (.pointer none) := by kernel_rfl
theorem zr121 : tyZero Try.prog 121 = some (.agg #[.int .i64 0, .int .i64 0, .int .i64 0, .int .i64 0, .int .i64 0, .int .i64 0, .int .i64 0, .int .i64 0, .int .i64 0, .int .i64 0, .int .i64 0, .int .i64 0]) := by kernel_rfl
theorem zr139 : tyZero Try.prog 139 = some (.agg #[.int .i64 0, .int .i64 0, .int .i64 0, .int .i64 0, .int .i64 0, .int .i64 0, .int .i64 0, .int .i64 0, .int .i64 0, .int .i64 0, .int .i64 0, .int .i64 0]) := by kernel_rfl
theorem zr142 : tyZero Try.prog 142 = some (.agg #[.int .i64 0, .int .i64 0]) := by kernel_rfl
theorem zr152 : tyZero Try.prog 152 = some (.agg #[.string ByteArray.empty, .int .i64 0, .int .i64 0, .slice none 0 0, .slice none 0 0, .slice none 0 0, .int .i64 0, .int .i64 0, .int .i64 0, .int .i64 0, .int .i64 0, .int .i64 0, .slice none 0 0]) := by kernel_rfl
theorem zr154 : tyZero Try.prog 154 = some (.agg #[]) := by kernel_rfl
theorem zr159 : tyZero Try.prog 159 = some (.pointer none) := by kernel_rfl
theorem zr161 : tyZero Try.prog 161 = some (.agg #[.int .i64 0, .int .i64 0, .int .i64 0, .int .i64 0, .int .i64 0, .int .i64 0, .int .i64 0, .int .i64 0, .int .i64 0]) := by kernel_rfl
theorem zr178 : tyZero Try.prog 178 = some (.agg #[.int .i64 0, .int .i64 0, .int .i64 0, .int .i64 0]) := by kernel_rfl
theorem zr23 : tyZero Try.prog 23 = some (.agg #[.int .i64 0, .int .i64 0]) := by kernel_rfl
theorem zr28 : tyZero Try.prog 28 = some (.agg #[.string ByteArray.empty, .int .i64 0, .int .i64 0, .slice none 0 0, .slice none 0 0, .slice none 0 0]) := by kernel_rfl
theorem zr3 : tyZero Try.prog 3 = some (.int .i64 0) := by kernel_rfl
theorem zr30 : tyZero Try.prog 30 = some (.agg #[.int .i64 0, .int .i64 0, .int .i64 0]) := by kernel_rfl
theorem zr31 : tyZero Try.prog 31 = some (.int .i64 0) := by kernel_rfl
theorem zr40 : tyZero Try.prog 40 = some (.slice none 0 0) := by kernel_rfl
theorem zr44 : tyZero Try.prog 44 = some (.agg #[.int .i64 0, .int .i64 0, .int .i64 0, .int .i64 0, .int .i64 0, .int .i64 0]) := by kernel_rfl
theorem zr46 : tyZero Try.prog 46 = some (.agg #[.int .i64 0, .int .i64 0, .int .i64 0, .int .i64 0, .int .i64 0, .int .i64 0, .int .i64 0, .int .i64 0, .int .i64 0, .int .i64 0, .int .i64 0, .int .i64 0, .int .i64 0]) := by kernel_rfl
theorem zr49 : tyZero Try.prog 49 = some (.agg #[.string ByteArray.empty, .int .i64 0, .int .i64 0, .int .i64 0, .int .i64 0, .int .i64 0, .int .i64 0, .int .i64 0, .int .i64 0, .int .i64 0, .int .i64 0, .int .i64 0, .int .i64 0]) := by kernel_rfl
theorem zr51 : tyZero Try.prog 51 = some (.agg #[.int .i64 0, .int .i64 0, .int .i64 0, .int .i64 0, .int .i64 0, .int .i64 0]) := by kernel_rfl
theorem zr54 : tyZero Try.prog 54 = some (.agg #[.int .i64 0, .int .i64 0, .int .i64 0, .int .i64 0, .int .i64 0, .int .i64 0, .int .i64 0, .int .i64 0, .int .i64 0, .int .i64 0, .int .i64 0, .int .i64 0]) := by kernel_rfl
theorem zr56 : tyZero Try.prog 56 = some (.slice none 0 0) := by kernel_rfl
theorem zr60 : tyZero Try.prog 60 = some (.agg #[.int .i64 0, .int .i64 0, .int .i64 0, .int .i64 0]) := by kernel_rfl
theorem zr62 : tyZero Try.prog 62 = some (.agg #[.int .i64 0, .int .i64 0, .int .i64 0, .int .i64 0, .int .i64 0, .int .i64 0, .int .i64 0]) := by kernel_rfl
theorem zr88 : tyZero Try.prog 88 = some (.agg #[.int .i64 0, .int .i64 0, .int .i64 0, .int .i64 0, .int .i64 0, .int .i64 0]) := by kernel_rfl
theorem zr90 : tyZero Try.prog 90 = some (.agg #[.int .i64 0, .int .i64 0, .int .i64 0, .int .i64 0, .int .i64 0, .int .i64 0]) := by kernel_rfl
theorem zr97 : tyZero Try.prog 97 = some (.agg #[.int .i64 0, .int .i64 0]) := by kernel_rfl
end Go.Proofs.Ytbncegfgjbdheaa

/- Ytbncegfgjbdheaa: what the small functions of packages track, wind and slices compute, and the checks of a task. -/
set_option linter.all false
namespace Go.Proofs.Ytbncegfgjbdheaa
open Go.Vc Go.Tk
set_option maxRecDepth 100000
theorem wout_c (n lo hi : Int) (w : World) : FnP Try.prog 77 [.int .i64 n, .int .i64 lo, .int .i64 hi] w (.bool (oP n lo hi)) := by
 refine fn_pure Try.func77 rfl (by kernel_rfl) Try.ntmps77 Try.results77 rfl ?_
 refine Vs rfl ?_
 refine La rfl rfl rfl ?_
 refine L_then (kp [0, 1, 2] rfl) ?_
 refine Vs rfl ?_
 iterate 2 refine Lm rfl rfl rfl ?_
 refine Lp rfl (p_lss rfl rfl rfl) ?_
 refine Lm rfl rfl rfl ?_
 refine L_cases (d := 10) rfl ?_ ?_
 ·intro g1; have g1' := g1; try simp only [td] at g1'
  iterate 3 refine L_no rfl rfl rfl g1 ?_
  refine Lp rfl (p_pick_t rfl rfl g1 rfl) ?_
  refine La rfl rfl rfl ?_
  refine L_then (kp [6] rfl) ?_
  refine V_ret ?_
  refine Leave.nil (.tmp rfl .nil) ?_
  simp [tup, oP, *]
 intro g1; have g1' := g1; try simp only [td] at g1'
 refine L_yes rfl rfl rfl g1 (X_p (p_move rfl rfl) ?_)
 refine L_yes rfl rfl rfl g1 (X_p (p_move rfl rfl) ?_)
 refine L_yes rfl rfl rfl g1 (X_p (p_gtr rfl rfl rfl) ?_)
 refine Lp rfl (p_pick_f rfl rfl g1 rfl) ?_
 refine La rfl rfl rfl ?_
 refine L_then (kp [6] rfl) ?_
 refine V_ret ?_
 refine Leave.nil (.tmp rfl .nil) ?_
 simp [tup, oP, *]
theorem idxInt_c (l : List Int) (v : Value) (fid : Nat) (cap : Array Value) (p : Int → Bool) (w : World) (hv : SliceR w 1 v (l.map (fun n : Int => [Value.int .i64 n]))) (hl : (l.length : Int) ≤ 9223372036854775806) (hf : ∀ x w', Ext w w' → FnP Try.prog fid (.int .i64 x :: cap.toList) w' (.bool (p x))) : FnP Try.prog 122 [v, .func (.func fid) #[] cap] w (.int .i64 (firstIdx (fun i => p (l.getD i 0)) 0 l.length)) := by
 obtain ⟨a, ca, rfl, hcap, hel⟩ := hv.ex
 simp only [List.length_map]
 refine fn_pure Try.func122 rfl (by kernel_rfl) Try.ntmps122 Try.results122 rfl ?_
 refine Vs rfl ?_
 refine La rfl rfl rfl ?_
 refine L_then (kp [0, 1] rfl) ?_
 refine V_seq ?_
 refine Vs rfl ?_
 refine Lm rfl rfl rfl ?_
 refine Lp rfl (p_len isl166 rfl rfl) ?_
 refine Lm rfl rfl rfl ?_
 refine L_then (kp [0, 1, 7, 8] rfl) ?_
 refine V_block ?_
 refine V_loop0 (γ := Int) (kp [0, 1, 7] rfl) (fun k => [(8, .int .i64 k)]) (fun k => 0 ≤ k ∧ k ≤ l.length ∧ ∀ j : Nat, (j : Int) < k → p (l.getD j 0) = false) (fun k => (l.length - k).toNat) (0) (.cons rfl (.nil _)) (⟨by omega, by omega, fun j hj => by omega⟩) ?_
 rintro k hi
 obtain ⟨hk0, hk1, hkp⟩ := hi
 refine Vs rfl ?_
 refine Lp rfl (p_lss rfl rfl rfl) ?_
 refine L_then (kp [0, 1, 7, 8, 9] rfl) ?_
 refine V_seq ?_
 refine V_cond rfl ?_ ?_
 ·intro c1; try simp only [td] at c1
  obtain ⟨b, rfl, hc⟩ := hel k.toNat _ (getD_cells (d := 0) (by omega))
  refine V_skip (then_n ?_)
  refine V_seq ?_
  refine V_block ?_
  refine Vs rfl ?_
  refine Lm rfl rfl rfl ?_
  refine La rfl rfl rfl ?_
  refine L_then (kp [0, 1, 5, 7, 8] rfl) ?_
  refine Vs rfl ?_
  iterate 3 refine Lm rfl rfl rfl ?_
  refine Lp rfl (p_idx es166 rfl rfl rfl (by omega) (by omega)) ?_
  refine Lr rfl (r_loadB ag3 rfl rfl (hc.zero) List.not_mem_nil) ?_
  refine Lc rfl rfl rfl rfl (fun w hg => hf _ w hg.toExt) ?_
  refine L_then (kp [0, 1, 5, 7, 8, 16] rfl) ?_
  refine V_cond rfl ?_ ?_
  ·intro c2; try simp only [td] at c2
   refine Vs rfl ?_
   refine Lm rfl rfl rfl ?_
   refine La rfl rfl rfl ?_
   refine L_then (kp [4] rfl) ?_
   refine V_ret (blk_r (then_r (then_r (blk_r (then_r ?_)))))
   refine Leave.nil (.tmp rfl .nil) ?_
   show Value.int .i64 k = _
   rw [firstIdx_hit (p := fun i => p (l.getD i 0)) (k := k.toNat) (by omega) c2 (fun j hj => hkp j (by omega))]
   congr 1; omega
  intro c2; try simp only [td] at c2
  refine V_skip (blk_n (then_n ?_))
  refine V_region rfl ?_
  first | refine Lp rfl (p_add' rfl rfl rfl (by unfold InI; omega)) ?_ | refine Lp rfl (p_add rfl rfl rfl) ?_
  refine Lm rfl rfl rfl ?_
  refine L_keep (kp [0, 1, 7, 8] rfl) (then_n ?_)
  refine ⟨k + 1, ?_, ?_, (.cons rfl (.cons rfl (.cons rfl (.cons rfl (.nil _))))), (by repeat (first | exact List.Sublist.refl _ | apply List.Sublist.cons_cons | apply List.Sublist.cons | apply List.sublist_append_of_sublist_right)), rfl⟩
  ·refine ⟨by omega, by omega, fun j hj => ?_⟩; by_cases e : (j : Int) < k
   ·exact hkp j e
   have : j = k.toNat := by omega
   rw [this]; exact c2
  omega
 intro c1; try simp only [td] at c1
 refine V_exit (then_e (then_e (blk_e rfl (then_n ?_))))
 refine Vs rfl ?_
 refine La rfl rfl rfl ?_
 refine L_then (kp [4] rfl) ?_
 refine V_ret ?_
 refine Leave.nil (.tmp rfl .nil) ?_
 show Value.int .i64 (-1) = _
 rw [firstIdx_none (p := fun i => p (l.getD i 0)) (fun j hj => hkp j (by omega))]
theorem contInt_c (l : List Int) (v : Value) (fid : Nat) (cap : Array Value) (p : Int → Bool) (w : World) (hv : SliceR w 1 v (l.map (fun n : Int => [Value.int .i64 n]))) (hl : (l.length : Int) ≤ 9223372036854775806) (hf : ∀ x w', Ext w w' → FnP Try.prog fid (.int .i64 x :: cap.toList) w' (.bool (p x))) : FnP Try.prog 120 [v, .func (.func fid) #[] cap] w (.bool (l.any p)) := by
 refine fn_pure Try.func120 rfl (by kernel_rfl) Try.ntmps120 Try.results120 rfl ?_
 refine Vs rfl ?_
 refine La rfl rfl rfl ?_
 refine L_then (kp [0, 1] rfl) ?_
 refine Vs rfl ?_
 iterate 2 refine Lm rfl rfl rfl ?_
 refine Lc rfl rfl rfl rfl (fun w hg => idxInt_c l _ _ _ p w (hv.good hg) hl (fun x w' he => hf x w' (hg.toExt.trans he))) ?_
 refine Lp rfl (p_geq rfl rfl rfl) ?_
 refine La rfl rfl rfl ?_
 refine L_then (kp [4] rfl) ?_
 refine V_ret ?_
 refine Leave.nil (.tmp rfl .nil) ?_
 show Value.bool _ = _
 rw [firstIdx_any, anyIdx_list]
theorem wname_c (s : ByteArray) (hs : (s.size : Int) ≤ 9223372036854775807) (w : World) : FnP Try.prog 36 [.string s] w (.bool (nameOk s)) := by
 refine fn_pure Try.func36 rfl (by kernel_rfl) Try.ntmps36 Try.results36 rfl ?_
 refine Vs rfl ?_
 refine La rfl rfl rfl ?_
 refine L_then (kp [0] rfl) ?_
 refine V_seq ?_
 refine Vs rfl ?_
 refine Lm rfl rfl rfl ?_
 refine Lw rfl (w_bytes un9 un85 un5 rfl rfl) ?_
 rintro _ _ ⟨b1, cap1, pad1, fr1, hb1, rfl, rfl⟩
 refine Lp rfl (p_len isl85 rfl rfl) ?_
 refine Lm rfl rfl rfl ?_
 refine L_then (kp [0, 6, 7, 8] rfl) ?_
 refine V_block ?_
 refine V_loop0 (γ := Int) (kp [0, 6, 7] rfl) (fun k => [(8, .int .i64 k)]) (fun k => 0 ≤ k ∧ k ≤ s.size ∧ ∀ j : Nat, (j : Int) < k → nameC s j = true) (fun k => (s.size - k).toNat) (0) (.cons rfl (.nil _)) (⟨by omega, by omega, fun j hj => by omega⟩) ?_
 rintro k hi
 obtain ⟨hk0, hk1, hkn⟩ := hi
 refine Vs rfl ?_
 refine Lp rfl (p_lss rfl rfl rfl) ?_
 refine L_then (kp [0, 6, 7, 8, 9] rfl) ?_
 refine V_seq ?_
 refine V_cond rfl ?_ ?_
 ·intro c1; try simp only [td] at c1
  refine V_skip (then_n ?_)
  refine V_seq ?_
  refine V_block ?_
  refine Vs rfl ?_
  refine Lm rfl rfl rfl ?_
  refine Lp rfl (p_idxo es85 rfl rfl rfl (by omega) (by omega)) ?_
  refine Lr rfl (r_load ag5 rfl rfl (by repeat first | exact mH | apply mT) (bytes_at (by omega))) ?_
  iterate 2 refine La rfl rfl rfl ?_
  refine L_then (kp [0, 3, 4, 6, 7, 8] rfl) ?_
  refine Vs rfl ?_
  refine Lm rfl rfl rfl ?_
  refine Lp rfl (p_geq rfl rfl rfl) ?_
  refine Lm rfl rfl rfl ?_
  refine L_cases (d := 15) rfl ?_ ?_
  ·intro g1; have g1' := g1; try simp only [td] at g1'
   refine L_yes rfl rfl rfl g1 (X_p (p_move rfl rfl) ?_)
   refine L_yes rfl rfl rfl g1 (X_p (p_leq rfl rfl rfl) ?_)
   refine Lp rfl (p_pick_t rfl rfl g1 rfl) ?_
   refine Lp rfl (p_not rfl rfl) ?_
   refine Lm rfl rfl rfl ?_
   refine L_cases (d := 20) rfl ?_ ?_
   ·intro g2; have g2' := g2; try simp only [td] at g2'
    refine L_yes rfl rfl rfl g2 (X_p (p_move rfl rfl) ?_)
    refine L_yes rfl rfl rfl g2 (X_p (p_eql rfl rfl rfl) ?_)
    refine L_yes rfl rfl rfl g2 (X_p (p_move rfl rfl) ?_)
    refine L_cases (d := 23) rfl ?_ ?_
    ·intro g3; have g3' := g3; try simp only [td] at g3'
     iterate 3 refine L_no rfl rfl rfl g3 ?_
     iterate 7 refine L_nou rfl rfl rfl ?_
     refine L_no rfl rfl rfl g3 ?_
     refine L_yes rfl rfl rfl g2 (X_p (p_pick_t rfl rfl g3 rfl) ?_)
     refine Lp rfl (p_pick_t rfl rfl g2 rfl) ?_
     refine L_then (kp [0, 6, 7, 8, 36] rfl) ?_
     refine V_cond_t rfl rfl ?_
     refine Vs rfl ?_
     refine La rfl rfl rfl ?_
     refine L_then (kp [2] rfl) ?_
     refine V_ret (blk_r (then_r (then_r (blk_r (then_r ?_)))))
     refine Leave.nil (.tmp rfl .nil) ?_
     first | (show Value.bool false = _; rw [nameOk_bad (k := k.toNat) (by omega) (by simp only [nameC, small, Bool.or_eq_true, Bool.and_eq_true, decide_eq_true_eq, decide_eq_false_iff_not, ← Bool.not_eq_true]; omega)]; done) | (show Value.bool (!(oP _ _ _)) = _; rw [nameOk_end (fun j hj => hkn j (by omega))])
    intro g3; have g3' := g3; try simp only [td] at g3'
    refine L_yes rfl rfl rfl g3 (X_p (p_move rfl rfl) ?_)
    refine L_yes rfl rfl rfl g3 (X_p (p_neq rfl rfl rfl) ?_)
    refine L_yes rfl rfl rfl g3 (X_p (p_move rfl rfl) ?_)
    refine L_cases (d := 26) rfl ?_ ?_
    ·intro g4; have g4' := g4; try simp only [td] at g4'
     refine L_yes rfl rfl rfl g4 (X_p (p_move rfl rfl) ?_)
     refine L_yes rfl rfl rfl g4 (X_p (p_geq rfl rfl rfl) ?_)
     refine L_yes rfl rfl rfl g4 (X_p (p_move rfl rfl) ?_)
     refine L_cases (d := 29) rfl ?_ ?_
     ·intro g5; have g5' := g5; try simp only [td] at g5'
      refine L_yes rfl rfl rfl g5 (X_p (p_move rfl rfl) ?_)
      refine L_yes rfl rfl rfl g5 (X_p (p_leq rfl rfl rfl) ?_)
      refine L_yes rfl rfl rfl g4 (X_p (p_pick_t rfl rfl g5 rfl) ?_)
      refine L_yes rfl rfl rfl g4 (X_p (p_not rfl rfl) ?_)
      refine L_yes rfl rfl rfl g3 (X_p (p_pick_t rfl rfl g4 rfl) ?_)
      refine L_yes rfl rfl rfl g2 (X_p (p_pick_f rfl rfl g3 rfl) ?_)
      refine Lp rfl (p_pick_t rfl rfl g2 rfl) ?_
      refine L_then (kp [0, 6, 7, 8, 36] rfl) ?_
      refine V_cond rfl ?_ ?_
      ·intro c2; try simp only [td] at c2
       refine Vs rfl ?_
       refine La rfl rfl rfl ?_
       refine L_then (kp [2] rfl) ?_
       refine V_ret (blk_r (then_r (then_r (blk_r (then_r ?_)))))
       refine Leave.nil (.tmp rfl .nil) ?_
       first | (show Value.bool false = _; rw [nameOk_bad (k := k.toNat) (by omega) (by simp only [nameC, small, Bool.or_eq_true, Bool.and_eq_true, decide_eq_true_eq, decide_eq_false_iff_not, ← Bool.not_eq_true]; omega)]; done) | (show Value.bool (!(oP _ _ _)) = _; rw [nameOk_end (fun j hj => hkn j (by omega))])
      intro c2; try simp only [td] at c2
      refine V_skip (blk_n (then_n ?_))
      refine V_region rfl ?_
      first | refine Lp rfl (p_add' rfl rfl rfl (by unfold InI; omega)) ?_ | refine Lp rfl (p_add rfl rfl rfl) ?_
      refine Lm rfl rfl rfl ?_
      refine L_keep (kp [0, 6, 7, 8] rfl) (then_n ?_)
      refine ⟨k + 1, ?_, ?_, (.cons rfl (.cons rfl (.cons rfl (.cons rfl (.nil _))))), (by repeat (first | exact List.Sublist.refl _ | apply List.Sublist.cons_cons | apply List.Sublist.cons | apply List.sublist_append_of_sublist_right)), rfl⟩
      ·refine ⟨by omega, by omega, fun j hj => ?_⟩; by_cases e : (j : Int) < k
       ·exact hkn j e
       have ej : j = k.toNat := by omega
       rw [ej]; simp only [nameC, small, Bool.or_eq_true, Bool.and_eq_true, decide_eq_true_eq, decide_eq_false_iff_not, ← Bool.not_eq_true]; omega
      omega
     intro g5; have g5' := g5; try simp only [td] at g5'
     iterate 2 refine L_no rfl rfl rfl g5 ?_
     refine L_yes rfl rfl rfl g4 (X_p (p_pick_f rfl rfl g5 rfl) ?_)
     refine L_yes rfl rfl rfl g4 (X_p (p_not rfl rfl) ?_)
     refine L_yes rfl rfl rfl g3 (X_p (p_pick_t rfl rfl g4 rfl) ?_)
     refine L_yes rfl rfl rfl g2 (X_p (p_pick_f rfl rfl g3 rfl) ?_)
     refine Lp rfl (p_pick_t rfl rfl g2 rfl) ?_
     refine L_then (kp [0, 6, 7, 8, 36] rfl) ?_
     refine V_cond_t rfl rfl ?_
     refine Vs rfl ?_
     refine La rfl rfl rfl ?_
     refine L_then (kp [2] rfl) ?_
     refine V_ret (blk_r (then_r (then_r (blk_r (then_r ?_)))))
     refine Leave.nil (.tmp rfl .nil) ?_
     first | (show Value.bool false = _; rw [nameOk_bad (k := k.toNat) (by omega) (by simp only [nameC, small, Bool.or_eq_true, Bool.and_eq_true, decide_eq_true_eq, decide_eq_false_iff_not, ← Bool.not_eq_true]; omega)]; done) | (show Value.bool (!(oP _ _ _)) = _; rw [nameOk_end (fun j hj => hkn j (by omega))])
    intro g4; have g4' := g4; try simp only [td] at g4'
    iterate 3 refine L_no rfl rfl rfl g4 ?_
    iterate 2 refine L_nou rfl rfl rfl ?_
    iterate 2 refine L_no rfl rfl rfl g4 ?_
    refine L_yes rfl rfl rfl g3 (X_p (p_pick_f rfl rfl g4 rfl) ?_)
    refine L_yes rfl rfl rfl g2 (X_p (p_pick_f rfl rfl g3 rfl) ?_)
    refine Lp rfl (p_pick_t rfl rfl g2 rfl) ?_
    refine L_then (kp [0, 6, 7, 8, 36] rfl) ?_
    refine V_cond_f rfl rfl ?_
    refine V_skip (blk_n (then_n ?_))
    refine V_region rfl ?_
    first | refine Lp rfl (p_add' rfl rfl rfl (by unfold InI; omega)) ?_ | refine Lp rfl (p_add rfl rfl rfl) ?_
    refine Lm rfl rfl rfl ?_
    refine L_keep (kp [0, 6, 7, 8] rfl) (then_n ?_)
    refine ⟨k + 1, ?_, ?_, (.cons rfl (.cons rfl (.cons rfl (.cons rfl (.nil _))))), (by repeat (first | exact List.Sublist.refl _ | apply List.Sublist.cons_cons | apply List.Sublist.cons | apply List.sublist_append_of_sublist_right)), rfl⟩
    ·refine ⟨by omega, by omega, fun j hj => ?_⟩; by_cases e : (j : Int) < k
     ·exact hkn j e
     have ej : j = k.toNat := by omega
     rw [ej]; simp only [nameC, small, Bool.or_eq_true, Bool.and_eq_true, decide_eq_true_eq, decide_eq_false_iff_not, ← Bool.not_eq_true]; omega
    omega
   intro g2; have g2' := g2; try simp only [td] at g2'
   iterate 3 refine L_no rfl rfl rfl g2 ?_
   iterate 11 refine L_nou rfl rfl rfl ?_
   refine L_no rfl rfl rfl g2 ?_
   refine Lp rfl (p_pick_f rfl rfl g2 rfl) ?_
   refine L_then (kp [0, 6, 7, 8, 36] rfl) ?_
   refine V_cond_f rfl rfl ?_
   refine V_skip (blk_n (then_n ?_))
   refine V_region rfl ?_
   first | refine Lp rfl (p_add' rfl rfl rfl (by unfold InI; omega)) ?_ | refine Lp rfl (p_add rfl rfl rfl) ?_
   refine Lm rfl rfl rfl ?_
   refine L_keep (kp [0, 6, 7, 8] rfl) (then_n ?_)
   refine ⟨k + 1, ?_, ?_, (.cons rfl (.cons rfl (.cons rfl (.cons rfl (.nil _))))), (by repeat (first | exact List.Sublist.refl _ | apply List.Sublist.cons_cons | apply List.Sublist.cons | apply List.sublist_append_of_sublist_right)), rfl⟩
   ·refine ⟨by omega, by omega, fun j hj => ?_⟩; by_cases e : (j : Int) < k
    ·exact hkn j e
    have ej : j = k.toNat := by omega
    rw [ej]; simp only [nameC, small, Bool.or_eq_true, Bool.and_eq_true, decide_eq_true_eq, decide_eq_false_iff_not, ← Bool.not_eq_true]; omega
   omega
  intro g1; have g1' := g1; try simp only [td] at g1'
  iterate 2 refine L_no rfl rfl rfl g1 ?_
  refine Lp rfl (p_pick_f rfl rfl g1 rfl) ?_
  refine Lp rfl (p_not rfl rfl) ?_
  refine Lm rfl rfl rfl ?_
  refine L_yes rfl rfl rfl rfl (X_p (p_move rfl rfl) ?_)
  refine L_yes rfl rfl rfl rfl (X_p (p_eql rfl rfl rfl) ?_)
  refine L_yes rfl rfl rfl rfl (X_p (p_move rfl rfl) ?_)
  refine L_cases (d := 23) rfl ?_ ?_
  ·intro g6; have g6' := g6; try simp only [td] at g6'
   iterate 3 refine L_no rfl rfl rfl g6 ?_
   iterate 7 refine L_nou rfl rfl rfl ?_
   refine L_no rfl rfl rfl g6 ?_
   refine L_yes rfl rfl rfl rfl (X_p (p_pick_t rfl rfl g6 rfl) ?_)
   refine Lp rfl (p_pick_t rfl rfl rfl rfl) ?_
   refine L_then (kp [0, 6, 7, 8, 36] rfl) ?_
   refine V_cond_t rfl rfl ?_
   refine Vs rfl ?_
   refine La rfl rfl rfl ?_
   refine L_then (kp [2] rfl) ?_
   refine V_ret (blk_r (then_r (then_r (blk_r (then_r ?_)))))
   refine Leave.nil (.tmp rfl .nil) ?_
   first | (show Value.bool false = _; rw [nameOk_bad (k := k.toNat) (by omega) (by simp only [nameC, small, Bool.or_eq_true, Bool.and_eq_true, decide_eq_true_eq, decide_eq_false_iff_not, ← Bool.not_eq_true]; omega)]; done) | (show Value.bool (!(oP _ _ _)) = _; rw [nameOk_end (fun j hj => hkn j (by omega))])
  intro g6; have g6' := g6; try simp only [td] at g6'
  refine L_yes rfl rfl rfl g6 (X_p (p_move rfl rfl) ?_)
  refine L_yes rfl rfl rfl g6 (X_p (p_neq rfl rfl rfl) ?_)
  refine L_yes rfl rfl rfl g6 (X_p (p_move rfl rfl) ?_)
  refine L_cases (d := 26) rfl ?_ ?_
  ·intro g7; have g7' := g7; try simp only [td] at g7'
   refine L_yes rfl rfl rfl g7 (X_p (p_move rfl rfl) ?_)
   refine L_yes rfl rfl rfl g7 (X_p (p_geq rfl rfl rfl) ?_)
   refine L_yes rfl rfl rfl g7 (X_p (p_move rfl rfl) ?_)
   refine L_cases (d := 29) rfl ?_ ?_
   ·intro g8; have g8' := g8; try simp only [td] at g8'
    refine L_yes rfl rfl rfl g8 (X_p (p_move rfl rfl) ?_)
    refine L_yes rfl rfl rfl g8 (X_p (p_leq rfl rfl rfl) ?_)
    refine L_yes rfl rfl rfl g7 (X_p (p_pick_t rfl rfl g8 rfl) ?_)
    refine L_yes rfl rfl rfl g7 (X_p (p_not rfl rfl) ?_)
    refine L_yes rfl rfl rfl g6 (X_p (p_pick_t rfl rfl g7 rfl) ?_)
    refine L_yes rfl rfl rfl rfl (X_p (p_pick_f rfl rfl g6 rfl) ?_)
    refine Lp rfl (p_pick_t rfl rfl rfl rfl) ?_
    refine L_then (kp [0, 6, 7, 8, 36] rfl) ?_
    refine V_cond rfl ?_ ?_
    ·intro c3; try simp only [td] at c3
     refine Vs rfl ?_
     refine La rfl rfl rfl ?_
     refine L_then (kp [2] rfl) ?_
     refine V_ret (blk_r (then_r (then_r (blk_r (then_r ?_)))))
     refine Leave.nil (.tmp rfl .nil) ?_
     first | (show Value.bool false = _; rw [nameOk_bad (k := k.toNat) (by omega) (by simp only [nameC, small, Bool.or_eq_true, Bool.and_eq_true, decide_eq_true_eq, decide_eq_false_iff_not, ← Bool.not_eq_true]; omega)]; done) | (show Value.bool (!(oP _ _ _)) = _; rw [nameOk_end (fun j hj => hkn j (by omega))])
    intro c3; try simp only [td] at c3
    refine V_skip (blk_n (then_n ?_))
    refine V_region rfl ?_
    first | refine Lp rfl (p_add' rfl rfl rfl (by unfold InI; omega)) ?_ | refine Lp rfl (p_add rfl rfl rfl) ?_
    refine Lm rfl rfl rfl ?_
    refine L_keep (kp [0, 6, 7, 8] rfl) (then_n ?_)
    refine ⟨k + 1, ?_, ?_, (.cons rfl (.cons rfl (.cons rfl (.cons rfl (.nil _))))), (by repeat (first | exact List.Sublist.refl _ | apply List.Sublist.cons_cons | apply List.Sublist.cons | apply List.sublist_append_of_sublist_right)), rfl⟩
    ·refine ⟨by omega, by omega, fun j hj => ?_⟩; by_cases e : (j : Int) < k
     ·exact hkn j e
     have ej : j = k.toNat := by omega
     rw [ej]; simp only [nameC, small, Bool.or_eq_true, Bool.and_eq_true, decide_eq_true_eq, decide_eq_false_iff_not, ← Bool.not_eq_true]; omega
    omega
   intro g8; have g8' := g8; try simp only [td] at g8'
   iterate 2 refine L_no rfl rfl rfl g8 ?_
   refine L_yes rfl rfl rfl g7 (X_p (p_pick_f rfl rfl g8 rfl) ?_)
   refine L_yes rfl rfl rfl g7 (X_p (p_not rfl rfl) ?_)
   refine L_yes rfl rfl rfl g6 (X_p (p_pick_t rfl rfl g7 rfl) ?_)
   refine L_yes rfl rfl rfl rfl (X_p (p_pick_f rfl rfl g6 rfl) ?_)
   refine Lp rfl (p_pick_t rfl rfl rfl rfl) ?_
   refine L_then (kp [0, 6, 7, 8, 36] rfl) ?_
   refine V_cond_t rfl rfl ?_
   refine Vs rfl ?_
   refine La rfl rfl rfl ?_
   refine L_then (kp [2] rfl) ?_
   refine V_ret (blk_r (then_r (then_r (blk_r (then_r ?_)))))
   refine Leave.nil (.tmp rfl .nil) ?_
   first | (show Value.bool false = _; rw [nameOk_bad (k := k.toNat) (by omega) (by simp only [nameC, small, Bool.or_eq_true, Bool.and_eq_true, decide_eq_true_eq, decide_eq_false_iff_not, ← Bool.not_eq_true]; omega)]; done) | (show Value.bool (!(oP _ _ _)) = _; rw [nameOk_end (fun j hj => hkn j (by omega))])
  intro g7; have g7' := g7; try simp only [td] at g7'
  iterate 3 refine L_no rfl rfl rfl g7 ?_
  iterate 2 refine L_nou rfl rfl rfl ?_
  iterate 2 refine L_no rfl rfl rfl g7 ?_
  refine L_yes rfl rfl rfl g6 (X_p (p_pick_f rfl rfl g7 rfl) ?_)
  refine L_yes rfl rfl rfl rfl (X_p (p_pick_f rfl rfl g6 rfl) ?_)
  refine Lp rfl (p_pick_t rfl rfl rfl rfl) ?_
  refine L_then (kp [0, 6, 7, 8, 36] rfl) ?_
  refine V_cond_f rfl rfl ?_
  refine V_skip (blk_n (then_n ?_))
  refine V_region rfl ?_
  first | refine Lp rfl (p_add' rfl rfl rfl (by unfold InI; omega)) ?_ | refine Lp rfl (p_add rfl rfl rfl) ?_
  refine Lm rfl rfl rfl ?_
  refine L_keep (kp [0, 6, 7, 8] rfl) (then_n ?_)
  refine ⟨k + 1, ?_, ?_, (.cons rfl (.cons rfl (.cons rfl (.cons rfl (.nil _))))), (by repeat (first | exact List.Sublist.refl _ | apply List.Sublist.cons_cons | apply List.Sublist.cons | apply List.sublist_append_of_sublist_right)), rfl⟩
  ·refine ⟨by omega, by omega, fun j hj => ?_⟩; by_cases e : (j : Int) < k
   ·exact hkn j e
   have ej : j = k.toNat := by omega
   rw [ej]; simp only [nameC, small, Bool.or_eq_true, Bool.and_eq_true, decide_eq_true_eq, decide_eq_false_iff_not, ← Bool.not_eq_true]; omega
  omega
 intro c1; try simp only [td] at c1
 refine V_exit (then_e (then_e (blk_e rfl (then_n ?_))))
 refine Vs rfl ?_
 refine Lm rfl rfl rfl ?_
 refine Lp rfl (p_lens ist9 rfl rfl) ?_
 refine Lc rfl rfl rfl rfl (fun w hg => wout_c _ _ _ w) ?_
 refine Lp rfl (p_not rfl rfl) ?_
 refine La rfl rfl rfl ?_
 refine L_then (kp [2] rfl) ?_
 refine V_ret ?_
 refine Leave.nil (.tmp rfl .nil) ?_
 first | (show Value.bool false = _; rw [nameOk_bad (k := k.toNat) (by omega) (by simp only [nameC, small, Bool.or_eq_true, Bool.and_eq_true, decide_eq_true_eq, decide_eq_false_iff_not, ← Bool.not_eq_true]; omega)]; done) | (show Value.bool (!(oP _ _ _)) = _; rw [nameOk_end (fun j hj => hkn j (by omega))])
end Go.Proofs.Ytbncegfgjbdheaa
