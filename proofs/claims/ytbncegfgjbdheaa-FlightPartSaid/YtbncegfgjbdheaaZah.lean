/- Joined texts. -/
import Derived.Test.YtbncegfgjbdheaaZad
import Derived.Stop.Asserts
import Derived.Stop.LaidTwo
import Derived.LaidEql
/- Interfaces, rows of the library, scopes. -/
set_option linter.all false
namespace Go.Vc

section
variable {X : Cx} {ρ : PEnv} {ds : List Deferred} {H : Heap} {Q : Post} {o : Oper}

/-! ### operations on interfaces -/
theorem p_makeI {x : Operand} {t T : TypeId} {v : Value} (ho : o.op = .makeInterface t x) (hx : ρ.ev x = some v) {u : Value} (h : ∀ w, (Instr.makeInterface t v).run X.P w = .ok u w) : RdP X ρ o u :=
  ⟨fun c hc => (by rw [ho] at hc; cases hc), fun e w he => by
    have := h w
    simp [execOp, ho, he _ _ hx, this]⟩
end

theorem eql_nil {P : Program} {ti : TypeId} {ms : Array (String × TypeId)} (hi : P.underlying ti = some (.interface ms)) (w : World) : (binOp .eql ti .nilIface .nilIface).run P w = .ok (.bool true) w := by
  have h : ∀ d : Nat, (Op.equalIn (d + 1) ti .nilIface .nilIface).run P w = .ok true w := fun d => by simp [Op.equalIn, run_underlying hi]
  simp only [binOp]
  simp [Op.equal, Op.maxDepth, h 9999]
theorem eql_some {P : Program} {ti : TypeId} {ms : Array (String × TypeId)} (tp : TypeId) (v : Value) (hi : P.underlying ti = some (.interface ms)) (w : World) : (binOp .eql ti (.iface tp v) .nilIface).run P w = .ok (.bool false) w := by
  have h : ∀ d : Nat, (Op.equalIn (d + 1) ti (.iface tp v) .nilIface).run P w = .ok false w := fun d => by simp [Op.equalIn, run_underlying hi]
  simp only [binOp]
  simp [Op.equal, Op.maxDepth, h 9999]
/-- two sentinels -/
structure ErrR (w : World) (gF gL tp : Nat) (aF aL : Addr) : Prop where
  far : w.cell? ⟨gF, 0, none⟩ = some (.iface tp (.pointer (some aF)))
  long : w.cell? ⟨gL, 0, none⟩ = some (.iface tp (.pointer (some aL)))
  ne : aF ≠ aL
  hF : ∃ c t, w.heap[aF.block]? = some (.cells c t (0, 0))
  hL : ∃ c t, w.heap[aL.block]? = some (.cells c t (0, 0))
theorem ErrR.ext {w w' : World} {gF gL tp : Nat} {aF aL : Addr} (h : ErrR w gF gL tp aF aL) (he : Ext w w') : ErrR w' gF gL tp aF aL := by
  obtain ⟨c, t, h1⟩ := h.hF
  obtain ⟨c', t', h2⟩ := h.hL
  exact ⟨he.cell h.far, he.cell h.long, h.ne, ⟨c, t, he.heap h1⟩, ⟨c', t', he.heap h2⟩⟩
theorem ErrR.good {w0 w : World} {H : Heap} {gF gL tp : Nat} {aF aL : Addr} (h : ErrR w0 gF gL tp aF aL) (hg : Good w0 [] H w) : ErrR w gF gL tp aF aL := h.ext hg.toExt

end Go.Vc
