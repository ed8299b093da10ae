/- What the tables say of the types in hand. -/
import Derived.Test.YtclbbchehjapjaaVcH
import Derived.Test.YtclbbchehjapjaaProg
set_option linter.all false
namespace Go.Proofs.Ytclbbchehjapjaa
open Go.Vc
theorem mixed : Try.prog.follows .mixedOrders = true := by kernel_rfl
theorem ag102 : tyAgg Try.prog 102 = some false := by kernel_rfl
theorem ag107 : tyAgg Try.prog 107 = some false := by kernel_rfl
theorem ag114 : tyAgg Try.prog 114 = some false := by kernel_rfl
theorem ag126 : tyAgg Try.prog 126 = some true := by kernel_rfl
theorem ag133 : tyAgg Try.prog 133 = some false := by kernel_rfl
theorem ag134 : tyAgg Try.prog 134 = some true := by kernel_rfl
theorem ag138 : tyAgg Try.prog 138 = some true := by kernel_rfl
theorem ag140 : tyAgg Try.prog 140 = some true := by kernel_rfl
theorem ag154 : tyAgg Try.prog 154 = some false := by kernel_rfl
theorem ag22 : tyAgg Try.prog 22 = some false := by kernel_rfl
theorem ag23 : tyAgg Try.prog 23 = some false := by kernel_rfl
theorem ag25 : tyAgg Try.prog 25 = some true := by kernel_rfl
theorem ag3 : tyAgg Try.prog 3 = some false := by kernel_rfl
theorem ag33 : tyAgg Try.prog 33 = some true := by kernel_rfl
theorem ag35 : tyAgg Try.prog 35 = some true := by kernel_rfl
theorem ag4 : tyAgg Try.prog 4 = some false := by kernel_rfl
theorem ag44 : tyAgg Try.prog 44 = some true := by kernel_rfl
theorem ag46 : tyAgg Try.prog 46 = some false := by kernel_rfl
theorem ag49 : tyAgg Try.prog 49 = some true := by kernel_rfl
theorem ag5 : tyAgg Try.prog 5 = some false := by kernel_rfl
theorem ag55 : tyAgg Try.prog 55 = some true := by kernel_rfl
theorem ag57 : tyAgg Try.prog 57 = some false := by kernel_rfl
theorem ag64 : tyAgg Try.prog 64 = some true := by kernel_rfl
theorem ag9 : tyAgg Try.prog 9 = some false := by kernel_rfl
theorem ag94 : tyAgg Try.prog 94 = some true := by kernel_rfl
theorem ag95 : tyAgg Try.prog 95 = some false := by kernel_rfl
theorem ap23 : appOf Try.prog 23 = some (64, 5, 40) := by kernel_rfl
theorem ap52 : appOf Try.prog 52 = some (55, 3, 24) := by kernel_rfl
theorem ap57 : appOf Try.prog 57 = some (3, 1, 8) := by kernel_rfl
theorem ap81 : appOf Try.prog 81 = some (126, 2, 16) := by kernel_rfl
theorem ar105 : arrOf Try.prog 105 = some (6, 2) := by kernel_rfl
theorem ar124 : arrOf Try.prog 124 = some (3, 2) := by kernel_rfl
theorem ar134 : arrOf Try.prog 134 = some (6, 1) := by kernel_rfl
theorem ar31 : arrOf Try.prog 31 = some (2, 1) := by kernel_rfl
theorem ar47 : arrOf Try.prog 47 = some (3, 1) := by kernel_rfl
theorem ar55 : arrOf Try.prog 55 = some (3, 1) := by kernel_rfl
theorem eg126 : Try.prog.eqGuardType Try.prog.depth 126 = false := by kernel_rfl
theorem eg33 : Try.prog.eqGuardType Try.prog.depth 33 = false := by kernel_rfl
theorem es128 : elemSz Try.prog 128 = some 1 := by kernel_rfl
theorem es160 : elemSz Try.prog 160 = some 1 := by kernel_rfl
theorem es22 : elemSz Try.prog 22 = some 6 := by kernel_rfl
theorem es23 : elemSz Try.prog 23 = some 5 := by kernel_rfl
theorem es46 : elemSz Try.prog 46 = some 1 := by kernel_rfl
theorem es52 : elemSz Try.prog 52 = some 3 := by kernel_rfl
theorem es57 : elemSz Try.prog 57 = some 1 := by kernel_rfl
theorem es81 : elemSz Try.prog 81 = some 2 := by kernel_rfl
theorem fo109_0 : fieldOff Try.prog 109 0 = some 0 := by kernel_rfl
theorem fo109_1 : fieldOff Try.prog 109 1 = some 5 := by kernel_rfl
theorem fo109_2 : fieldOff Try.prog 109 2 = some 6 := by kernel_rfl
theorem fo126_1 : fieldOff Try.prog 126 1 = some 1 := by kernel_rfl
theorem fo138_0 : fieldOff Try.prog 138 0 = some 0 := by kernel_rfl
theorem fo138_1 : fieldOff Try.prog 138 1 = some 1 := by kernel_rfl
theorem fo140_0 : fieldOff Try.prog 140 0 = some 0 := by kernel_rfl
theorem fo25_0 : fieldOff Try.prog 25 0 = some 0 := by kernel_rfl
theorem fo25_1 : fieldOff Try.prog 25 1 = some 1 := by kernel_rfl
theorem fo25_2 : fieldOff Try.prog 25 2 = some 2 := by kernel_rfl
theorem fo25_3 : fieldOff Try.prog 25 3 = some 3 := by kernel_rfl
theorem fo25_4 : fieldOff Try.prog 25 4 = some 4 := by kernel_rfl
theorem fo33_0 : fieldOff Try.prog 33 0 = some 0 := by kernel_rfl
theorem fo33_1 : fieldOff Try.prog 33 1 = some 1 := by kernel_rfl
theorem fo35_0 : fieldOff Try.prog 35 0 = some 0 := by kernel_rfl
theorem fo35_1 : fieldOff Try.prog 35 1 = some 1 := by kernel_rfl
theorem fo35_2 : fieldOff Try.prog 35 2 = some 3 := by kernel_rfl
theorem fo35_3 : fieldOff Try.prog 35 3 = some 5 := by kernel_rfl
theorem fo35_4 : fieldOff Try.prog 35 4 = some 7 := by kernel_rfl
theorem fo35_5 : fieldOff Try.prog 35 5 = some 9 := by kernel_rfl
theorem fo35_6 : fieldOff Try.prog 35 6 = some 11 := by kernel_rfl
theorem fo44_0 : fieldOff Try.prog 44 0 = some 0 := by kernel_rfl
theorem fo44_1 : fieldOff Try.prog 44 1 = some 1 := by kernel_rfl
theorem fo44_2 : fieldOff Try.prog 44 2 = some 2 := by kernel_rfl
theorem fo44_3 : fieldOff Try.prog 44 3 = some 3 := by kernel_rfl
theorem fo44_4 : fieldOff Try.prog 44 4 = some 4 := by kernel_rfl
theorem fo44_5 : fieldOff Try.prog 44 5 = some 5 := by kernel_rfl
theorem fo49_0 : fieldOff Try.prog 49 0 = some 0 := by kernel_rfl
theorem fo49_1 : fieldOff Try.prog 49 1 = some 3 := by kernel_rfl
theorem fo64_0 : fieldOff Try.prog 64 0 = some 0 := by kernel_rfl
theorem fo64_1 : fieldOff Try.prog 64 1 = some 1 := by kernel_rfl
theorem fo64_2 : fieldOff Try.prog 64 2 = some 2 := by kernel_rfl
theorem fo64_3 : fieldOff Try.prog 64 3 = some 3 := by kernel_rfl
theorem fo64_4 : fieldOff Try.prog 64 4 = some 4 := by kernel_rfl
theorem isl128 : (Try.prog.underlying 128).any (fun d => match d with | .slice _ => true | _ => false) = true := by kernel_rfl
theorem isl22 : (Try.prog.underlying 22).any (fun d => match d with | .slice _ => true | _ => false) = true := by kernel_rfl
theorem isl23 : (Try.prog.underlying 23).any (fun d => match d with | .slice _ => true | _ => false) = true := by kernel_rfl
theorem isl46 : (Try.prog.underlying 46).any (fun d => match d with | .slice _ => true | _ => false) = true := by kernel_rfl
theorem isl52 : (Try.prog.underlying 52).any (fun d => match d with | .slice _ => true | _ => false) = true := by kernel_rfl
theorem isl57 : (Try.prog.underlying 57).any (fun d => match d with | .slice _ => true | _ => false) = true := by kernel_rfl
theorem isl81 : (Try.prog.underlying 81).any (fun d => match d with | .slice _ => true | _ => false) = true := by kernel_rfl
theorem ist9 : (Try.prog.underlying 9).any (fun d => match d with | .string => true | _ => false) = true := by kernel_rfl
theorem lv126 : leaves Try.prog 10 126 = some [.int .i64, .int .i64] := by kernel_rfl
theorem lv138 : leaves Try.prog 10 138 = some [.int .i64, .int .i64] := by kernel_rfl
theorem lv33 : leaves Try.prog 10 33 = some [.int .i64, .int .i64] := by kernel_rfl
theorem lv94 : leaves Try.prog 10 94 = some [.int .i64, .int .i64] := by kernel_rfl
theorem pl109 : placesOf Try.prog 109 = some [(0, 5), (5, 1), (6, 1)] := by kernel_rfl
theorem pl126 : placesOf Try.prog 126 = some [(0, 1), (1, 1)] := by kernel_rfl
theorem pl138 : placesOf Try.prog 138 = some [(0, 1), (1, 1)] := by kernel_rfl
theorem pl140 : placesOf Try.prog 140 = some [(0, 2)] := by kernel_rfl
theorem pl25 : placesOf Try.prog 25 = some [(0, 1), (1, 1), (2, 1), (3, 1), (4, 1)] := by kernel_rfl
theorem pl33 : placesOf Try.prog 33 = some [(0, 1), (1, 1)] := by kernel_rfl
theorem pl35 : placesOf Try.prog 35 = some [(0, 1), (1, 2), (3, 2), (5, 2), (7, 2), (9, 2), (11, 2)] := by kernel_rfl
theorem pl44 : placesOf Try.prog 44 = some [(0, 1), (1, 1), (2, 1), (3, 1), (4, 1), (5, 1)] := by kernel_rfl
theorem pl64 : placesOf Try.prog 64 = some [(0, 1), (1, 1), (2, 1), (3, 1), (4, 1)] := by kernel_rfl
theorem pl94 : placesOf Try.prog 94 = some [(0, 1), (1, 1)] := by kernel_rfl
theorem sz102 : tySize Try.prog 102 = some 1 := by kernel_rfl
theorem sz105 : tySize Try.prog 105 = some 12 := by kernel_rfl
theorem sz124 : tySize Try.prog 124 = some 6 := by kernel_rfl
theorem sz126 : tySize Try.prog 126 = some 2 := by kernel_rfl
theorem sz133 : tySize Try.prog 133 = some 1 := by kernel_rfl
theorem sz134 : tySize Try.prog 134 = some 6 := by kernel_rfl
theorem sz138 : tySize Try.prog 138 = some 2 := by kernel_rfl
theorem sz140 : tySize Try.prog 140 = some 2 := by kernel_rfl
theorem sz154 : tySize Try.prog 154 = some 1 := by kernel_rfl
theorem sz23 : tySize Try.prog 23 = some 1 := by kernel_rfl
theorem sz25 : tySize Try.prog 25 = some 5 := by kernel_rfl
theorem sz3 : tySize Try.prog 3 = some 1 := by kernel_rfl
theorem sz33 : tySize Try.prog 33 = some 2 := by kernel_rfl
theorem sz35 : tySize Try.prog 35 = some 13 := by kernel_rfl
theorem sz4 : tySize Try.prog 4 = some 1 := by kernel_rfl
theorem sz44 : tySize Try.prog 44 = some 6 := by kernel_rfl
theorem sz49 : tySize Try.prog 49 = some 4 := by kernel_rfl
theorem sz55 : tySize Try.prog 55 = some 3 := by kernel_rfl
theorem sz57 : tySize Try.prog 57 = some 1 := by kernel_rfl
theorem sz64 : tySize Try.prog 64 = some 5 := by kernel_rfl
theorem sz94 : tySize Try.prog 94 = some 2 := by kernel_rfl
theorem un107 : Try.prog.underlying 107 = some (.map 138 140) := by kernel_rfl
theorem un114 : Try.prog.underlying 114 = some (.int .i8) := by kernel_rfl
theorem un128 : Try.prog.underlying 128 = some (.slice 5) := by kernel_rfl
theorem un134 : Try.prog.underlying 134 = some (.array 6 133) := by kernel_rfl
theorem un160 : Try.prog.underlying 160 = some (.slice 154) := by kernel_rfl
theorem un22 : Try.prog.underlying 22 = some (.slice 44) := by kernel_rfl
theorem un23 : Try.prog.underlying 23 = some (.slice 64) := by kernel_rfl
theorem un3 : Try.prog.underlying 3 = some (.int .i64) := by kernel_rfl
theorem un5 : Try.prog.underlying 5 = some (.int .u8) := by kernel_rfl
theorem un52 : Try.prog.underlying 52 = some (.slice 55) := by kernel_rfl
theorem un57 : Try.prog.underlying 57 = some (.slice 3) := by kernel_rfl
theorem un81 : Try.prog.underlying 81 = some (.slice 126) := by kernel_rfl
theorem un9 : Try.prog.underlying 9 = some (.string) := by kernel_rfl
theorem un92 : Try.prog.underlying 92 = some (.map 94 4) := by kernel_rfl
theorem zr102 : tyZero Try.prog 102 = some (.pointer none) := by kernel_rfl
theorem zr105 : tyZero Try.prog 105 = some (.agg #[.int .i64 0, .int .i64 0, .int .i64 0, .int .i64 0, .int .i64 0, .int .i64 0, .int .i64 0, .int .i64 0, .int .i64 0, .int .i64 0, .int .i64 0, .int .i64 0]) := by kernel_rfl
theorem zr109 : tyZero Try.prog 109 = some (.agg #[.int .i64 0, .int .i64 0, .int .i64 0, .slice none 0 0, .slice none 0 0, .slice none 0 0, .map none]) := by kernel_rfl
theorem zr124 : tyZero Try.prog 124 = some (.agg #[.int .i64 0, .int .i64 0, .int .i64 0, .int .i64 0, .int .i64 0, .int .i64 0]) := by kernel_rfl
theorem zr126 : tyZero Try.prog 126 = some (.agg #[.int .i64 0, .int .i64 0]) := by kernel_rfl
theorem zr134 : tyZero Try.prog 134 = some (.agg #[.pointer none, .pointer none, .pointer none, .pointer none, .pointer none, .pointer none]) := by kernel_rfl
theorem zr138 : tyZero Try.prog 138 = some (.agg #[.int .i64 0, .int .i64 0]) := by kernel_rfl
theorem zr140 : tyZero Try.prog 140 = some (.agg #[.int .i64 0, .int .i64 0]) := by kernel_rfl
theorem zr154 : tyZero Try.prog 154 = some (.nilFunc) := by kernel_rfl
theorem zr25 : tyZero Try.prog 25 = some (.agg #[.int .i64 0, .int .i64 0, .int .i64 0, .slice none 0 0, .slice none 0 0]) := by kernel_rfl
theorem zr3 : tyZero Try.prog 3 = some (.int .i64 0) := by kernel_rfl
theorem zr33 : tyZero Try.prog 33 = some (.agg #[.int .i64 0, .int .i64 0]) := by kernel_rfl
theorem zr35 : tyZero Try.prog 35 = some (.agg #[.int .i64 0, .int .i64 0, .int .i64 0, .int .i64 0, .int .i64 0, .int .i64 0, .int .i64 0, .int .i64 0, .int .i64 0, .int .i64 0, .int .i64 0, .int .i64 0, .int .i64 0]) := by kernel_rfl
theorem zr4 : tyZero Try.prog 4 = some (.bool false) := by kernel_rfl
theorem zr44 : tyZero Try.prog 44 = some (.agg #[.string ByteArray.empty, .int .i64 0, .int .i64 0, .int .i64 0, .int .i64 0, .int .i64 0]) := by kernel_rfl
theorem zr55 : tyZero Try.prog 55 = some (.agg #[.int .i64 0, .int .i64 0, .int .i64 0]) := by kernel_rfl
theorem zr57 : tyZero Try.prog 57 = some (.slice none 0 0) := by kernel_rfl
theorem zr64 : tyZero Try.prog 64 = some (.agg #[.int .i64 0, .int .i64 0, .int .i64 0, .int .i64 0, .int .i64 0]) := by kernel_rfl
theorem zr94 : tyZero Try.prog 94 = some (.agg #[.int .i64 0, .int .i64 0]) := by kernel_rfl
end Go.Proofs.Ytclbbchehjapjaa
