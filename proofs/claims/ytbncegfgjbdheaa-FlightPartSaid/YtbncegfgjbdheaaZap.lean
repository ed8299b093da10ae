/- Joined texts. -/
import Derived.Test.YtbncegfgjbdheaaZal
import Derived.Test.YtbncegfgjbdheaaZam
/- Ytbncegfgjbdheaa: flights that succeed, and such that fail. -/
set_option linter.all false
namespace Go.Proofs.Ytbncegfgjbdheaa
open Go.Vc Go.Tk Go.Fl
set_option maxRecDepth 100000
theorem gFly_c (v : Veh) (d : Dir) (l : List Fl.Band) (av pv qv bv : Value) (w : World) (hv : VehR w (VehV v av pv qv) v) (hl : BdsR w bv l) (n : Int) (h : flyE v d l n = 0) : FnC Try.prog 16 [VehV v av pv qv, .agg #[.int .i64 d.x, .int .i64 d.y, .int .i64 d.z], bv, .int .i64 n] w fun u w' => ∃ Hc, Vc.Good w [] Hc w' ∧ ∃ A G, Hc = A ++ G ∧ LstOut 54 12 (n.toNat + 1) (stL (rowS (Fl.stT v d l) n.toNat)) (fun sv => .tuple #[sv, .int .i64 0]) u A G := by
 have h9 := fFly_c v d l av pv qv bv w hv hl n
 rwa [flyL_ok h, h, rowS_len] at h9
theorem eFly_c (v : Veh) (d : Dir) (l : List Fl.Band) (av pv qv bv : Value) (w : World) (hv : VehR w (VehV v av pv qv) v) (hl : BdsR w bv l) (n : Int) (h : flyE v d l n ≠ 0) : FnC Try.prog 16 [VehV v av pv qv, .agg #[.int .i64 d.x, .int .i64 d.y, .int .i64 d.z], bv, .int .i64 n] w fun u w' => ∃ Hc, Vc.Good w [] Hc w' ∧ ∃ A G, Hc = A ++ G ∧ LstOut 54 12 0 [] (fun sv => .tuple #[sv, .int .i64 (flyE v d l n)]) u A G := by
 have h9 := fFly_c v d l av pv qv bv w hv hl n
 rwa [flyL_bad h] at h9
theorem gPiece_c (v : Veh) (d : Dir) (l : List Fl.Band) (av pv qv bv : Value) (w : World) (hv : VehR w (VehV v av pv qv) v) (hl : BdsR w bv l) (i n : Int) (h : pieceE v d l i n = 0) : FnC Try.prog 25 [VehV v av pv qv, .agg #[.int .i64 d.x, .int .i64 d.y, .int .i64 d.z], bv, .int .i64 i, .int .i64 n] w fun u w' => ∃ Hc, Vc.Good w [] Hc w' ∧ ∃ A G, Hc = A ++ G ∧ LstOut 54 12 (n.toNat + 1) (stL (rowS (Fl.pcT v d l (v.pc i.toNat)) n.toNat)) (fun sv => .tuple #[sv, .int .i64 0]) u A G := by
 have h9 := fPiece_c v d l av pv qv bv w hv hl i n
 rwa [pieceL_ok h, h, rowS_len] at h9
theorem ePiece_c (v : Veh) (d : Dir) (l : List Fl.Band) (av pv qv bv : Value) (w : World) (hv : VehR w (VehV v av pv qv) v) (hl : BdsR w bv l) (i n : Int) (h : pieceE v d l i n ≠ 0) : FnC Try.prog 25 [VehV v av pv qv, .agg #[.int .i64 d.x, .int .i64 d.y, .int .i64 d.z], bv, .int .i64 i, .int .i64 n] w fun u w' => ∃ Hc, Vc.Good w [] Hc w' ∧ ∃ A G, Hc = A ++ G ∧ LstOut 54 12 0 [] (fun sv => .tuple #[sv, .int .i64 (pieceE v d l i n)]) u A G := by
 have h9 := fPiece_c v d l av pv qv bv w hv hl i n
 rwa [pieceL_bad h] at h9
end Go.Proofs.Ytbncegfgjbdheaa
