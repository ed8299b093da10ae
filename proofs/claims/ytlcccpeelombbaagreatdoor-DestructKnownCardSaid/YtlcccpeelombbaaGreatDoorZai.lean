/- Joined texts. -/
import Derived.Test.YtlcccpeelombbaaGreatDoorZad
import Derived.Stop.Asserts
import Derived.Stop.LaidTwo
import Derived.LaidEql
/- Interfaces, rows of the library, scopes. -/
set_option linter.all false
namespace Go.Vc

/-- no jump leaves a scope -/
def NoGoto (Q : Post) : Post := fun e ρ ds H => match e with
  | .goto _ => False
  | e => Q e ρ ds H

section
variable {X : Cx} {ρ : PEnv} {ds : List Deferred} {H : Heap} {Q : Post} {o : Oper}

theorem sc_r (h : Q .ret ρ ds H) : NoGoto Q .ret ρ ds H := h
theorem V_scope {c : Code} (h : V X c ρ ds H (NoGoto Q)) : V X (.scope c) ρ ds H Q := by
  intro a w ha hg b k cs hro hb hr
  obtain ⟨e, a₁, w₁, ⟨ρ', ds', H', h1, h2, h3⟩, harr⟩ := h a w ha hg b (.inScope c :: k) cs hro trivial (FW.room _ _)
  have s0 : StepsIn (Machine.fenced X.P (FW X.r)) X.P (lone (b.atR a (.code (.scope c) :: k)) cs w) (lone (b.atR a (.code c :: .inScope c :: k)) cs w) :=
    .one (fenced_calm (n := 0) (fr := b.atR a (.code (.scope c) :: k)) trivial (FW.room _ _) rfl) (step_lone_go (by simp [stepG, stepG.exec, Frame.atR]))
  cases e with
  | normal =>
    exact ⟨.normal, a₁, w₁, ⟨ρ', ds', H', h1, h2, h3⟩, .of_steps (StepsIn.trans s0 (StepsIn.trans harr (.one (fenced_calm (n := 0) (fr := b.atR a₁ (.inScope c :: k)) trivial (FW.room _ _) rfl) (step_lone_go (by simp [stepG, stepG.exec, Frame.atR]))))) (StepsIn.refl _)⟩
  | exit id => exact ⟨.exit id, a₁, w₁, ⟨ρ', ds', H', h1, h2, h3⟩, .of_steps s0 ⟨fun k' hk => harr.1 k' (by simp [exitTo, hk]), fun hr' hk => harr.2 hr' (by simp [exitTo, hk])⟩⟩
  | goto l => exact h3.elim
  | ret => exact ⟨.ret, a₁, w₁, ⟨ρ', ds', H', h1, h2, h3⟩, .of_steps s0 harr⟩
  | panic ch => exact ⟨.panic ch, a₁, w₁, ⟨ρ', ds', H', h1, h2, h3⟩, .of_steps s0 harr⟩
  | outgrown => exact ⟨.outgrown, a₁, w₁, ⟨ρ', ds', H', h1, h2, h3⟩, .of_steps s0 harr⟩

/-! ### operations on interfaces -/
theorem r_cmp {op : BinOp} {t yt : TypeId} {x y : Operand} {vx vy v : Value} (ho : o.op = .binOp op t x y yt) (hx : ρ.ev x = some vx) (hy : ρ.ev y = some vy)
    (hgd : ∀ w, (eqGuard op t x y vx vy).run X.P w = .ok () w) (h : ∀ w, Good X.w0 X.M H w → (binOp op t vx vy).run X.P w = .ok v w) : RdA X ρ H o v :=
  ⟨fun c hc => (by rw [ho] at hc; cases hc), fun e w he hg => by
    have := h w hg
    simp [execOp, ho, he _ _ hx, he _ _ hy, hgd, this]⟩
theorem p_cmp {op : BinOp} {t yt : TypeId} {x y : Operand} {vx vy v : Value} (ho : o.op = .binOp op t x y yt) (hx : ρ.ev x = some vx) (hy : ρ.ev y = some vy)
    (hgd : ∀ w, (eqGuard op t x y vx vy).run X.P w = .ok () w) (h : ∀ w, (binOp op t vx vy).run X.P w = .ok v w) : RdP X ρ o v :=
  ⟨fun c hc => (by rw [ho] at hc; cases hc), fun e w he => by
    have := h w
    simp [execOp, ho, he _ _ hx, he _ _ hy, hgd, this]⟩
theorem p_assert {x : Operand} {xT T : TypeId} {c : Bool} {vx v : Value} (ho : o.op = .typeAssert x xT T c) (hx : ρ.ev x = some vx)
    (h : ∀ w, (Instr.typeAssert vx xT T c).run X.P w = .ok v w) : RdP X ρ o v :=
  ⟨fun c hc => (by rw [ho] at hc; cases hc), fun e w he => by
    have := h w
    simp [execOp, ho, he _ _ hx, this]⟩
/-- a call of a function of the library that has no text -/
theorem p_row {fo : Operand} {ags : Array Operand} {tys : Array TypeId} {f : FuncId} {vs : List Value} {v : Value} (ho : o.op = .call { callee := .value fo, args := ags, argTypes := tys })
    (hf : ρ.ev fo = some (.func (.func f) #[] #[])) (hv : evL ρ ags.toList = some vs) (h : ∀ w, (callFunc f vs.toArray).run X.P w = .ok (.value v) w) : RdP X ρ o v :=
  ⟨fun c hc => (by rw [ho] at hc; cases hc), fun e w he => by
    have hargs : ags.map e = vs.toArray := Array.toList_inj.1 (by simp [evL_map he hv])
    have e1 : #[] ++ vs.toArray ++ #[] = vs.toArray := by simp
    have := h w
    simp only [execOp, ho, resolve, he _ _ hf, hargs, Deferred.ofValue, Sem.run_bind, Sem.run_pure, Result.andThen_ok, invoke, e1, this]⟩
theorem p_invoke {x : Operand} {name : String} {tys : Array TypeId} {vx v : Value} (ho : o.op = .call { callee := .invoke x name, args := #[], argTypes := tys })
    (hx : ρ.ev x = some vx) (h : ∀ w, (invoke (.fn (.method name) #[]) #[vx]).run X.P w = .ok (.value v) w) : RdP X ρ o v :=
  ⟨fun c hc => (by rw [ho] at hc; cases hc), fun e w he => by
    have := h w
    simp only [execOp, ho, resolve, he _ _ hx, Sem.run_bind, Sem.run_pure, Result.andThen_ok, Array.map_empty, Array.append_empty, this]⟩

theorem setL_app : ∀ (vs pre cs : List Value), vs.length = cs.length → setL (pre ++ cs) pre.length vs = pre ++ vs
  | [], pre, cs, h => by rw [setL, List.eq_nil_of_length_eq_zero h.symm]
  | v :: vs, pre, c :: cs, h => by
    rw [setL]
    have e : (pre ++ c :: cs).set pre.length v = (pre ++ [v]) ++ cs := by simp
    have e2 : pre.length + 1 = (pre ++ [v]).length := by simp
    rw [e, e2, setL_app vs (pre ++ [v]) cs (by simpa using h)]
    simp
/-- a whole block is stored -/
theorem w_storeAll {x y : Operand} {t ty b n : Nat} {cs : Array Value} {v : Value} {cs' : List Value} {H' : Heap} (hs : tySize X.P t = some n) (ho : o.op = .store t x y) (hx : ρ.ev x = some (.pointer (some ⟨b, 0, none⟩)))
    (hy : ρ.ev y = some v) (hcs : v.cells.toList = cs') (hn : cs'.length = n) (hone : oneL cs' = true) (hset : SetAt H b (.cells cs ty) (.cells cs'.toArray ty) H') (hl : cs.toList.length = n) :
    WrA X ρ H o fun u H'' => u = undef ∧ H'' = H' := by
  subst hcs
  refine w_store hs ho hx hy hn hone hset (by omega) ?_
  have := setL_app v.cells.toList [] cs.toList (by omega)
  simpa using this

end

theorem eql_nil {P : Program} {ti : TypeId} {ms : Array (String × TypeId)} (hi : P.underlying ti = some (.interface ms)) (w : World) : (binOp .eql ti .nilIface .nilIface).run P w = .ok (.bool true) w := by
  have h : ∀ d : Nat, (Op.equalIn (d + 1) ti .nilIface .nilIface).run P w = .ok true w := fun d => by simp [Op.equalIn, run_underlying hi]
  simp only [binOp]
  simp [Op.equal, Op.maxDepth, h 9999]
theorem eql_some {P : Program} {ti : TypeId} {ms : Array (String × TypeId)} (tp : TypeId) (v : Value) (hi : P.underlying ti = some (.interface ms)) (w : World) : (binOp .eql ti (.iface tp v) .nilIface).run P w = .ok (.bool false) w := by
  have h : ∀ d : Nat, (Op.equalIn (d + 1) ti (.iface tp v) .nilIface).run P w = .ok false w := fun d => by simp [Op.equalIn, run_underlying hi]
  simp only [binOp]
  simp [Op.equal, Op.maxDepth, h 9999]
theorem neq_nil {P : Program} {ti : TypeId} {ms : Array (String × TypeId)} (hi : P.underlying ti = some (.interface ms)) (w : World) : (binOp .neq ti .nilIface .nilIface).run P w = .ok (.bool false) w := by
  have h : ∀ d : Nat, (Op.equalIn (d + 1) ti .nilIface .nilIface).run P w = .ok true w := fun d => by simp [Op.equalIn, run_underlying hi]
  simp only [binOp]
  simp [Op.equal, Op.maxDepth, h 9999]
theorem neq_some {P : Program} {ti : TypeId} {ms : Array (String × TypeId)} (tp : TypeId) (v : Value) (hi : P.underlying ti = some (.interface ms)) (w : World) : (binOp .neq ti (.iface tp v) .nilIface).run P w = .ok (.bool true) w := by
  have h : ∀ d : Nat, (Op.equalIn (d + 1) ti (.iface tp v) .nilIface).run P w = .ok false w := fun d => by simp [Op.equalIn, run_underlying hi]
  simp only [binOp]
  simp [Op.equal, Op.maxDepth, h 9999]

/-- two sentinels -/
structure ErrR (w : World) (gF gL tp : Nat) (aF aL : Addr) : Prop where
  far : w.cell? ⟨gF, 0, none⟩ = some (.iface tp (.pointer (some aF)))
  long : w.cell? ⟨gL, 0, none⟩ = some (.iface tp (.pointer (some aL)))
  ne : aF ≠ aL
  hF : ∃ c t, w.heap[aF.block]? = some (.cells c t (0, 0))
  hL : ∃ c t, w.heap[aL.block]? = some (.cells c t (0, 0))
theorem ErrR.ext {w w' : World} {gF gL tp : Nat} {aF aL : Addr} (h : ErrR w gF gL tp aF aL) (he : Ext w w') : ErrR w' gF gL tp aF aL := by
  obtain ⟨c, t, h1⟩ := h.hF
  obtain ⟨c', t', h2⟩ := h.hL
  exact ⟨he.cell h.far, he.cell h.long, h.ne, ⟨c, t, he.heap h1⟩, ⟨c', t', he.heap h2⟩⟩
theorem ErrR.good {w0 w : World} {H : Heap} {gF gL tp : Nat} {aF aL : Addr} (h : ErrR w0 gF gL tp aF aL) (hg : Good w0 [] H w) : ErrR w gF gL tp aF aL := h.ext hg.toExt

end Go.Vc
