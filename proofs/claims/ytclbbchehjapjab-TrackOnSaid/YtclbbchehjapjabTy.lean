/- What the tables say of the types in hand. -/
import Derived.Test.YtclbbchehjapjabVcH
import Derived.Test.YtclbbchehjapjabProg
set_option linter.all false
namespace Go.Proofs.Ytclbbchehjapjab
open Go.Vc
theorem mixed : Try.prog.follows .mixedOrders = true := by kernel_rfl
theorem ag103 : tyAgg Try.prog 103 = some true := by kernel_rfl
theorem ag114 : tyAgg Try.prog 114 = some true := by kernel_rfl
theorem ag116 : tyAgg Try.prog 116 = some true := by kernel_rfl
theorem ag117 : tyAgg Try.prog 117 = some false := by kernel_rfl
theorem ag118 : tyAgg Try.prog 118 = some false := by kernel_rfl
theorem ag125 : tyAgg Try.prog 125 = some true := by kernel_rfl
theorem ag138 : tyAgg Try.prog 138 = some true := by kernel_rfl
theorem ag141 : tyAgg Try.prog 141 = some false := by kernel_rfl
theorem ag22 : tyAgg Try.prog 22 = some false := by kernel_rfl
theorem ag23 : tyAgg Try.prog 23 = some false := by kernel_rfl
theorem ag25 : tyAgg Try.prog 25 = some true := by kernel_rfl
theorem ag27 : tyAgg Try.prog 27 = some false := by kernel_rfl
theorem ag3 : tyAgg Try.prog 3 = some false := by kernel_rfl
theorem ag32 : tyAgg Try.prog 32 = some true := by kernel_rfl
theorem ag34 : tyAgg Try.prog 34 = some true := by kernel_rfl
theorem ag4 : tyAgg Try.prog 4 = some false := by kernel_rfl
theorem ag42 : tyAgg Try.prog 42 = some false := by kernel_rfl
theorem ag47 : tyAgg Try.prog 47 = some true := by kernel_rfl
theorem ag5 : tyAgg Try.prog 5 = some false := by kernel_rfl
theorem ag53 : tyAgg Try.prog 53 = some false := by kernel_rfl
theorem ag56 : tyAgg Try.prog 56 = some true := by kernel_rfl
theorem ag64 : tyAgg Try.prog 64 = some true := by kernel_rfl
theorem ag83 : tyAgg Try.prog 83 = some false := by kernel_rfl
theorem ag85 : tyAgg Try.prog 85 = some false := by kernel_rfl
theorem ag9 : tyAgg Try.prog 9 = some false := by kernel_rfl
theorem ag94 : tyAgg Try.prog 94 = some false := by kernel_rfl
theorem ag95 : tyAgg Try.prog 95 = some true := by kernel_rfl
theorem ap23 : appOf Try.prog 23 = some (114, 5, 40) := by kernel_rfl
theorem ap27 : appOf Try.prog 27 = some (3, 1, 8) := by kernel_rfl
theorem ap43 : appOf Try.prog 43 = some (47, 2, 16) := by kernel_rfl
theorem ap60 : appOf Try.prog 60 = some (64, 3, 24) := by kernel_rfl
theorem ar54 : arrOf Try.prog 54 = some (3, 1) := by kernel_rfl
theorem ar57 : arrOf Try.prog 57 = some (6, 1) := by kernel_rfl
theorem ar64 : arrOf Try.prog 64 = some (3, 1) := by kernel_rfl
theorem ar67 : arrOf Try.prog 67 = some (6, 2) := by kernel_rfl
theorem ar95 : arrOf Try.prog 95 = some (6, 1) := by kernel_rfl
theorem ar99 : arrOf Try.prog 99 = some (3, 2) := by kernel_rfl
theorem eg32 : Try.prog.eqGuardType Try.prog.depth 32 = false := by kernel_rfl
theorem eg34 : Try.prog.eqGuardType Try.prog.depth 34 = false := by kernel_rfl
theorem eg47 : Try.prog.eqGuardType Try.prog.depth 47 = false := by kernel_rfl
theorem es146 : elemSz Try.prog 146 = some 1 := by kernel_rfl
theorem es148 : elemSz Try.prog 148 = some 1 := by kernel_rfl
theorem es22 : elemSz Try.prog 22 = some 6 := by kernel_rfl
theorem es23 : elemSz Try.prog 23 = some 5 := by kernel_rfl
theorem es27 : elemSz Try.prog 27 = some 1 := by kernel_rfl
theorem es43 : elemSz Try.prog 43 = some 2 := by kernel_rfl
theorem es53 : elemSz Try.prog 53 = some 1 := by kernel_rfl
theorem es60 : elemSz Try.prog 60 = some 3 := by kernel_rfl
theorem fo103_0 : fieldOff Try.prog 103 0 = some 0 := by kernel_rfl
theorem fo114_0 : fieldOff Try.prog 114 0 = some 0 := by kernel_rfl
theorem fo114_1 : fieldOff Try.prog 114 1 = some 1 := by kernel_rfl
theorem fo114_2 : fieldOff Try.prog 114 2 = some 2 := by kernel_rfl
theorem fo114_3 : fieldOff Try.prog 114 3 = some 3 := by kernel_rfl
theorem fo114_4 : fieldOff Try.prog 114 4 = some 4 := by kernel_rfl
theorem fo116_0 : fieldOff Try.prog 116 0 = some 0 := by kernel_rfl
theorem fo116_1 : fieldOff Try.prog 116 1 = some 1 := by kernel_rfl
theorem fo116_2 : fieldOff Try.prog 116 2 = some 2 := by kernel_rfl
theorem fo116_3 : fieldOff Try.prog 116 3 = some 3 := by kernel_rfl
theorem fo116_4 : fieldOff Try.prog 116 4 = some 4 := by kernel_rfl
theorem fo116_5 : fieldOff Try.prog 116 5 = some 5 := by kernel_rfl
theorem fo120_0 : fieldOff Try.prog 120 0 = some 0 := by kernel_rfl
theorem fo120_1 : fieldOff Try.prog 120 1 = some 5 := by kernel_rfl
theorem fo120_2 : fieldOff Try.prog 120 2 = some 6 := by kernel_rfl
theorem fo125_0 : fieldOff Try.prog 125 0 = some 0 := by kernel_rfl
theorem fo125_1 : fieldOff Try.prog 125 1 = some 1 := by kernel_rfl
theorem fo25_0 : fieldOff Try.prog 25 0 = some 0 := by kernel_rfl
theorem fo25_1 : fieldOff Try.prog 25 1 = some 1 := by kernel_rfl
theorem fo25_2 : fieldOff Try.prog 25 2 = some 2 := by kernel_rfl
theorem fo25_3 : fieldOff Try.prog 25 3 = some 3 := by kernel_rfl
theorem fo25_4 : fieldOff Try.prog 25 4 = some 4 := by kernel_rfl
theorem fo32_0 : fieldOff Try.prog 32 0 = some 0 := by kernel_rfl
theorem fo32_1 : fieldOff Try.prog 32 1 = some 1 := by kernel_rfl
theorem fo34_0 : fieldOff Try.prog 34 0 = some 0 := by kernel_rfl
theorem fo34_1 : fieldOff Try.prog 34 1 = some 1 := by kernel_rfl
theorem fo34_2 : fieldOff Try.prog 34 2 = some 3 := by kernel_rfl
theorem fo34_3 : fieldOff Try.prog 34 3 = some 5 := by kernel_rfl
theorem fo34_4 : fieldOff Try.prog 34 4 = some 7 := by kernel_rfl
theorem fo34_5 : fieldOff Try.prog 34 5 = some 9 := by kernel_rfl
theorem fo34_6 : fieldOff Try.prog 34 6 = some 11 := by kernel_rfl
theorem fo47_1 : fieldOff Try.prog 47 1 = some 1 := by kernel_rfl
theorem fo56_0 : fieldOff Try.prog 56 0 = some 0 := by kernel_rfl
theorem fo56_1 : fieldOff Try.prog 56 1 = some 3 := by kernel_rfl
theorem fo59_0 : fieldOff Try.prog 59 0 = some 0 := by kernel_rfl
theorem fo59_1 : fieldOff Try.prog 59 1 = some 6 := by kernel_rfl
theorem fo59_2 : fieldOff Try.prog 59 2 = some 12 := by kernel_rfl
theorem fo59_3 : fieldOff Try.prog 59 3 = some 13 := by kernel_rfl
theorem fo59_4 : fieldOff Try.prog 59 4 = some 14 := by kernel_rfl
theorem isl146 : (Try.prog.underlying 146).any (fun d => match d with | .slice _ => true | _ => false) = true := by kernel_rfl
theorem isl22 : (Try.prog.underlying 22).any (fun d => match d with | .slice _ => true | _ => false) = true := by kernel_rfl
theorem isl23 : (Try.prog.underlying 23).any (fun d => match d with | .slice _ => true | _ => false) = true := by kernel_rfl
theorem isl27 : (Try.prog.underlying 27).any (fun d => match d with | .slice _ => true | _ => false) = true := by kernel_rfl
theorem isl43 : (Try.prog.underlying 43).any (fun d => match d with | .slice _ => true | _ => false) = true := by kernel_rfl
theorem isl53 : (Try.prog.underlying 53).any (fun d => match d with | .slice _ => true | _ => false) = true := by kernel_rfl
theorem isl60 : (Try.prog.underlying 60).any (fun d => match d with | .slice _ => true | _ => false) = true := by kernel_rfl
theorem ist9 : (Try.prog.underlying 9).any (fun d => match d with | .string => true | _ => false) = true := by kernel_rfl
theorem lv125 : leaves Try.prog 10 125 = some [.int .i64, .int .i64] := by kernel_rfl
theorem lv138 : leaves Try.prog 10 138 = some [.int .i64, .int .i64] := by kernel_rfl
theorem lv32 : leaves Try.prog 10 32 = some [.int .i64, .int .i64] := by kernel_rfl
theorem lv34 : leaves Try.prog 10 34 = some [.int .i64, .int .i64, .int .i64, .int .i64, .int .i64, .int .i64, .int .i64, .int .i64, .int .i64, .int .i64, .int .i64, .int .i64, .int .i64] := by kernel_rfl
theorem lv47 : leaves Try.prog 10 47 = some [.int .i64, .int .i64] := by kernel_rfl
theorem pl103 : placesOf Try.prog 103 = some [(0, 2)] := by kernel_rfl
theorem pl114 : placesOf Try.prog 114 = some [(0, 1), (1, 1), (2, 1), (3, 1), (4, 1)] := by kernel_rfl
theorem pl116 : placesOf Try.prog 116 = some [(0, 1), (1, 1), (2, 1), (3, 1), (4, 1), (5, 1)] := by kernel_rfl
theorem pl120 : placesOf Try.prog 120 = some [(0, 5), (5, 1), (6, 1)] := by kernel_rfl
theorem pl125 : placesOf Try.prog 125 = some [(0, 1), (1, 1)] := by kernel_rfl
theorem pl138 : placesOf Try.prog 138 = some [(0, 1), (1, 1)] := by kernel_rfl
theorem pl25 : placesOf Try.prog 25 = some [(0, 1), (1, 1), (2, 1), (3, 1), (4, 1)] := by kernel_rfl
theorem pl32 : placesOf Try.prog 32 = some [(0, 1), (1, 1)] := by kernel_rfl
theorem pl34 : placesOf Try.prog 34 = some [(0, 1), (1, 2), (3, 2), (5, 2), (7, 2), (9, 2), (11, 2)] := by kernel_rfl
theorem pl47 : placesOf Try.prog 47 = some [(0, 1), (1, 1)] := by kernel_rfl
theorem sz103 : tySize Try.prog 103 = some 2 := by kernel_rfl
theorem sz114 : tySize Try.prog 114 = some 5 := by kernel_rfl
theorem sz116 : tySize Try.prog 116 = some 6 := by kernel_rfl
theorem sz125 : tySize Try.prog 125 = some 2 := by kernel_rfl
theorem sz138 : tySize Try.prog 138 = some 2 := by kernel_rfl
theorem sz141 : tySize Try.prog 141 = some 1 := by kernel_rfl
theorem sz23 : tySize Try.prog 23 = some 1 := by kernel_rfl
theorem sz25 : tySize Try.prog 25 = some 5 := by kernel_rfl
theorem sz27 : tySize Try.prog 27 = some 1 := by kernel_rfl
theorem sz3 : tySize Try.prog 3 = some 1 := by kernel_rfl
theorem sz32 : tySize Try.prog 32 = some 2 := by kernel_rfl
theorem sz34 : tySize Try.prog 34 = some 13 := by kernel_rfl
theorem sz4 : tySize Try.prog 4 = some 1 := by kernel_rfl
theorem sz47 : tySize Try.prog 47 = some 2 := by kernel_rfl
theorem sz56 : tySize Try.prog 56 = some 4 := by kernel_rfl
theorem sz64 : tySize Try.prog 64 = some 3 := by kernel_rfl
theorem sz67 : tySize Try.prog 67 = some 12 := by kernel_rfl
theorem sz83 : tySize Try.prog 83 = some 1 := by kernel_rfl
theorem sz94 : tySize Try.prog 94 = some 1 := by kernel_rfl
theorem sz95 : tySize Try.prog 95 = some 6 := by kernel_rfl
theorem sz99 : tySize Try.prog 99 = some 6 := by kernel_rfl
theorem un117 : Try.prog.underlying 117 = some (.int .i8) := by kernel_rfl
theorem un118 : Try.prog.underlying 118 = some (.map 125 103) := by kernel_rfl
theorem un136 : Try.prog.underlying 136 = some (.map 138 4) := by kernel_rfl
theorem un146 : Try.prog.underlying 146 = some (.slice 5) := by kernel_rfl
theorem un148 : Try.prog.underlying 148 = some (.slice 141) := by kernel_rfl
theorem un22 : Try.prog.underlying 22 = some (.slice 116) := by kernel_rfl
theorem un23 : Try.prog.underlying 23 = some (.slice 114) := by kernel_rfl
theorem un27 : Try.prog.underlying 27 = some (.slice 3) := by kernel_rfl
theorem un3 : Try.prog.underlying 3 = some (.int .i64) := by kernel_rfl
theorem un42 : Try.prog.underlying 42 = some (.int .u16) := by kernel_rfl
theorem un43 : Try.prog.underlying 43 = some (.slice 47) := by kernel_rfl
theorem un5 : Try.prog.underlying 5 = some (.int .u8) := by kernel_rfl
theorem un60 : Try.prog.underlying 60 = some (.slice 64) := by kernel_rfl
theorem un9 : Try.prog.underlying 9 = some (.string) := by kernel_rfl
theorem un95 : Try.prog.underlying 95 = some (.array 6 94) := by kernel_rfl
theorem zr103 : tyZero Try.prog 103 = some (.agg #[.int .i64 0, .int .i64 0]) := by kernel_rfl
theorem zr114 : tyZero Try.prog 114 = some (.agg #[.int .i64 0, .int .i64 0, .int .i64 0, .int .i64 0, .int .i64 0]) := by kernel_rfl
theorem zr116 : tyZero Try.prog 116 = some (.agg #[.string ByteArray.empty, .int .i64 0, .int .i64 0, .int .i64 0, .int .i64 0, .int .i64 0]) := by kernel_rfl
theorem zr120 : tyZero Try.prog 120 = some (.agg #[.int .i64 0, .int .i64 0, .int .i64 0, .slice none 0 0, .slice none 0 0, .slice none 0 0, .map none]) := by kernel_rfl
theorem zr125 : tyZero Try.prog 125 = some (.agg #[.int .i64 0, .int .i64 0]) := by kernel_rfl
theorem zr138 : tyZero Try.prog 138 = some (.agg #[.int .i64 0, .int .i64 0]) := by kernel_rfl
theorem zr141 : tyZero Try.prog 141 = some (.nilFunc) := by kernel_rfl
theorem zr25 : tyZero Try.prog 25 = some (.agg #[.int .i64 0, .int .i64 0, .int .i64 0, .slice none 0 0, .slice none 0 0]) := by kernel_rfl
theorem zr27 : tyZero Try.prog 27 = some (.slice none 0 0) := by kernel_rfl
theorem zr3 : tyZero Try.prog 3 = some (.int .i64 0) := by kernel_rfl
theorem zr32 : tyZero Try.prog 32 = some (.agg #[.int .i64 0, .int .i64 0]) := by kernel_rfl
theorem zr34 : tyZero Try.prog 34 = some (.agg #[.int .i64 0, .int .i64 0, .int .i64 0, .int .i64 0, .int .i64 0, .int .i64 0, .int .i64 0, .int .i64 0, .int .i64 0, .int .i64 0, .int .i64 0, .int .i64 0, .int .i64 0]) := by kernel_rfl
theorem zr4 : tyZero Try.prog 4 = some (.bool false) := by kernel_rfl
theorem zr47 : tyZero Try.prog 47 = some (.agg #[.int .i64 0, .int .i64 0]) := by kernel_rfl
theorem zr64 : tyZero Try.prog 64 = some (.agg #[.int .i64 0, .int .i64 0, .int .i64 0]) := by kernel_rfl
theorem zr67 : tyZero Try.prog 67 = some (.agg #[.int .i64 0, .int .i64 0, .int .i64 0, .int .i64 0, .int .i64 0, .int .i64 0, .int .i64 0, .int .i64 0, .int .i64 0, .int .i64 0, .int .i64 0, .int .i64 0]) := by kernel_rfl
theorem zr83 : tyZero Try.prog 83 = some (.pointer none) := by kernel_rfl
theorem zr95 : tyZero Try.prog 95 = some (.agg #[.pointer none, .pointer none, .pointer none, .pointer none, .pointer none, .pointer none]) := by kernel_rfl
theorem zr99 : tyZero Try.prog 99 = some (.agg #[.int .i64 0, .int .i64 0, .int .i64 0, .int .i64 0, .int .i64 0, .int .i64 0]) := by kernel_rfl
end Go.Proofs.Ytclbbchehjapjab
