/- Joined texts. -/
import Derived.Test.YtbncegfgjbdheaaZad
import Derived.Test.YtbncegfgjbdheaaZah
import Derived.RecoverIn
import Derived.KernelRfl
/- A deferred function that may recover. -/
set_option linter.all false
namespace Go.Vc

/-- The one deferred function settles all, and the results are read then. -/
def DefQ (P : Program) (w0 : World) (M : List Nat) (rs : List ResultVar) (R : Value → Heap → Prop) (u : FrameMode) : Post := fun _ ρ ds H =>
  ∃ fd cap, ds = [{ target := .fn (.func fd) cap, args := #[] }] ∧ Ent P fd ∧
    ∀ w, Good w0 M H w → CallsDIn (FW none) 0 P fd cap u w fun e u' w' => ∃ v, e = .returned v ∧ settle u' = .returning ∧ ∃ H', Good w0 M H' w' ∧ Leave P rs R ρ [] H'

def RetD (P : Program) (w0 : World) (M : List Nat) (rs : List ResultVar) (R : Value → Heap → Prop) : Post := fun e ρ ds H => match e with
  | .normal => DefQ P w0 M rs R .returning .normal ρ ds H
  | .ret => DefQ P w0 M rs R .returning .ret ρ ds H
  | .panic ch => DefQ P w0 M rs R (.panicking ch) (.panic ch) ρ ds H
  | _ => False

theorem defQ_leaves {P : Program} {w0 : World} {M : List Nat} {rs : List ResultVar} {R : Value → Heap → Prop} {u : FrameMode} {fn : Func} {n : Nat} (hu : u ≠ .run) (hr : fn.results = rs.toArray) {e : Exit} {ρ : PEnv} {ds : List Deferred} {H : Heap} {a : Act} {w : World}
    (ha : Agr n ρ ds a) (hg : Good w0 M H w) (h : DefQ P w0 M rs R u e ρ ds H) :
    LeavesInM (FW none) 0 P fn a.tmps (fun e w' => (∃ v, e = .returned v ∧ ∃ H, Good w0 M H w' ∧ R v H) ∨ ∃ ch, e = .panicked ch ∧ ∃ H, Good w0 M H w' ∧ False) ds u w := by
  obtain ⟨fd, cap, rfl, hent, hc⟩ := h
  refine ⟨hu, .inr ⟨fun hd => (by simp [FW, Fence.wide] at hd), .func fd, cap, fd, cap, rfl, ?_, fun _ _ => trivial, ?_⟩⟩
  · have e1 : (#[] ++ cap : Array Value) = cap := by simp
    show (callFunc fd (#[] ++ cap)).run P w = _
    rw [e1]; exact hent _ w
  refine (hc w hg).mono ?_
  rintro e u' w' ⟨v, rfl, hs, H', hg', hl⟩
  show LeavesInM (FW none) 0 P fn a.tmps _ [] (settle u') w'
  rw [hs]
  exact leave_leavesX (S := fun _ _ => False) hr ha hl w' hg'

/-- A function that defers one function; it may live on another's memory. -/
theorem fn_bodyD {P : Program} {f : FuncId} {fn : Func} {c : Code} {args : List Value} {w0 w : World} {M : List Nat} {H0 : Heap} {n : Nat} {rs : List ResultVar} {R : Value → Heap → Prop}
    (hf : P.funcs[f]? = some fn) (hb : fn.body = some c) (hname : (fn.name == "runtime.NumGoroutine") = false) (hn : fn.ntmps = n) (hr : fn.results = rs.toArray) (hl : Nat.ble args.length n = true) (hg : Good w0 M H0 w)
    (h : V ⟨P, none, n, w0, M⟩ c (argEnv args 0) [] H0 (RetD P w0 M rs R)) : FnC P f args w (fun v w' => ∃ H, Good w0 M H w' ∧ R v H) := by
  refine FnX.c ((?_ : FnX P f args w (fun v w' => ∃ H, Good w0 M H w' ∧ R v H) (fun ch w' => ∃ H, Good w0 M H w' ∧ False)).mono (fun _ _ h => h) (fun _ _ ⟨_, _, h⟩ => h))
  refine ⟨ent_of hf hname hb, callsIn_of_wp_marks hf hb trivial ?_⟩
  subst hn
  refine wpIn_mono (h _ w (entryAgr (Nat.le_of_ble_eq_true hl)) hg) ?_
  rintro e a w' ⟨ρ, ds, H, ha, hg', hq⟩
  cases e with
  | normal => rw [show bodyPostM (FW none) 0 P fn _ .normal a w' = LeavesInM _ _ _ _ _ _ _ _ _ from rfl, ha.defers]; exact defQ_leaves (e := .ret) (by simp) hr ha hg' hq
  | ret => rw [show bodyPostM (FW none) 0 P fn _ .ret a w' = LeavesInM _ _ _ _ _ _ _ _ _ from rfl, ha.defers]; exact defQ_leaves (e := .ret) (by simp) hr ha hg' hq
  | panic ch => rw [show bodyPostM (FW none) 0 P fn _ (.panic ch) a w' = LeavesInM _ _ _ _ _ _ _ _ _ from rfl, ha.defers]; exact defQ_leaves (e := .ret) (by simp) hr ha hg' hq
  | _ => exact hq.elim
section
variable {X : Cx} {ρ : PEnv} {ds : List Deferred} {H : Heap} {o : Oper}
/-- A call of a bound function, that computes: what it is bound to comes ahead of the arguments. -/
theorem w_callB {fo : Operand} {ags : Array Operand} {tys : Array TypeId} {f : FuncId} {first cap : Array Value} {vs : List Value} {v : Value} (ho : o.op = .call { callee := .value fo, args := ags, argTypes := tys })
    (hf : ρ.ev fo = some (.func (.func f) first cap)) (hv : evL ρ ags.toList = some vs) (h : ∀ w, Good X.w0 X.M H w → FnP X.P f (first.toList ++ vs ++ cap.toList) w v) : WrA X ρ H o fun u H' => u = v ∧ H' = H := by
  refine ⟨fun c hc => (by rw [ho] at hc; cases hc), fun a w he hg => ?_⟩
  have hc := h w hg
  have hargs : ags.map a.eval = vs.toArray := Array.toList_inj.1 (by simp [evL_map he hv])
  have hrun : (execOp a.eval o).run X.P w = .ok (.enter f (first.toList ++ vs ++ cap.toList).toArray) w := by
    have e1 : first ++ vs.toArray ++ cap = (first.toList ++ vs ++ cap.toList).toArray := by simp
    simp only [execOp, ho, resolve, he _ _ hf, hargs, Deferred.ofValue, Sem.run_bind, Sem.run_pure, Result.andThen_ok, invoke, e1]
    exact hc.ent _ w
  rw [hrun]
  refine ⟨fun hd => (by simp [FW, Fence.wide] at hd), callsIn_any (hc.calls.mono ?_)⟩
  rintro e w' ⟨u, rfl, hu, he⟩
  exact ⟨u, H, rfl, hg.ext he, hu, rfl⟩
/-- panic(x), x being an interface's value -/
theorem X_panicI {Q : Post} {ops : Array Oper} {l : List Oper} {x : Operand} {t : TypeId} {v : Value} (ho : o.op = .panic x) (hx : ρ.ev x = some (.iface t v)) (k : Q (.panic [{ v := .iface t v, recovered := false }]) ρ ds H) : LX X ops o l ρ ds H Q :=
  X_panic ho hx (fun a w he => by simp [execOp, ho, he _ _ hx]; rfl) k
theorem p_makeS {x : Operand} {t : TypeId} {v : Value} {fs : Array Field} (hu : X.P.underlying t = some (.struct fs)) (ho : o.op = .makeInterface t x) (hx : ρ.ev x = some v) : RdP X ρ o (.iface t v) :=
  p_makeI (T := t) ho hx (fun w => by simp [Instr.makeInterface, run_underlying' hu])
/-- what is owned may be looked at in another order -/
theorem V_hs {c : Code} {H' : Heap} {Q : Post} (hh : HSub H' H) (h : V X c ρ ds H' Q) : V X c ρ ds H Q := fun a w ha hg => h a w ha (hg.hsub hh)
end
end Go.Vc

/- A function that is entered as a deferred one, and recovers first. -/
set_option linter.all false
namespace Go.Vc

theorem recD_some {c : Frame} {cs : List Frame} {v : Value} {older : List PanicEntry} (h : c.mode = .panicking ({ v, recovered := false } :: older)) :
    recoverD (c :: cs) = some (v, { c with mode := .panicking ({ v, recovered := true } :: older) } :: cs) := by simp [recoverD, h]
theorem recD_none {c : Frame} {cs : List Frame} (h : c.mode = .returning) : recoverD (c :: cs) = none := by simp [recoverD, h]

theorem callsD_recover {P : Program} {f : FuncId} {fn : Func} {id t n : Nat} {rest : Code} {args : List Value} {w0 w : World} {M : List Nat} {H0 : Heap} {u u2 : FrameMode} {r : Value} {R : Heap → Prop} {o : Oper}
    (hf : P.funcs[f]? = some fn) (hb : fn.body = some (.seq (.region id #[o] false) rest)) (hn : fn.ntmps = n) (hr : fn.results = #[]) (hl : Nat.ble args.length n = true) (hg : Good w0 M H0 w)
    (ho : o.op = .call { callee := .builtin .recover, args := #[], argTypes := #[] }) (hgu : o.guard = none) (hd : o.dst = some t) (htn : t < n)
    (hrec : ∀ (c : Frame) (cs : List Frame), c.mode = u → recoverD (c :: cs) = some (r, { c with mode := u2 } :: cs) ∨ (recoverD (c :: cs) = none ∧ r = .nilIface ∧ u2 = u))
    (h : V ⟨P, none, n, w0, M⟩ rest ((argEnv args 0).put (some t) r) [] H0 (fun e ρ ds H => match e with | .normal => ds = [] ∧ R H | .ret => ds = [] ∧ R H | _ => False)) :
    CallsDIn (FW none) 0 P f args.toArray u w (fun e u' w' => ∃ v, e = .returned v ∧ u' = u2 ∧ ∃ H, Good w0 M H w' ∧ R H) := by
  subst hn
  refine callsDIn_of_wpSIn hf hb trivial fun c₀ cs hu => ?_
  have hag := entryAgr (args := args) (Nat.le_of_ble_eq_true hl)
  generalize ha : ({ tmps := args.toArray ++ Array.replicate (fn.ntmps - args.toArray.size) undef, defers := [] } : Act) = a at hag ⊢
  have he : (execOp a.eval o).run P w = .ok .recover w := by simp [execOp, ho, resolve, invoke, builtin]
  have hag2 : Agr fn.ntmps ((argEnv args 0).put (some t) r) [] (a.put o.dst r) := by rw [hd]; exact hag.put (fun t' h' => by cases h'; exact htn) r
  have hfin : ∀ (c1 : Frame), c1.mode = u2 → c1 = { c₀ with mode := u2 } → rest.wpSIn (FW none) 0 P (bodyPostS P fn c₀ cs fun e u' w' => ∃ v, e = .returned v ∧ u' = u2 ∧ ∃ H, Good w0 M H w' ∧ R H) (a.put o.dst r) (c1 :: cs) w := by
    intro c1 hc1 e1
    refine wpSIn_of_wpIn rfl (wpIn_mono (h _ w hag2 hg) ?_)
    rintro e a' w' ⟨ρ, ds, H, hag', hg', hq⟩
    cases e <;> first | exact hq.elim | skip
    all_goals
      obtain ⟨rfl, hR⟩ := hq
      refine ⟨hag'.defers, u2, by rw [e1], .tuple #[], ?_, _, rfl, rfl, H, hg', hR⟩
      simp [results, hr]
  apply wpSIn_seq
  apply wpSIn_region
  rw [show List.range (#[o] : Array Oper).size = [0] from rfl]
  simp only [wpOpsSIn, List.getElem?_toArray, Exit.thenS]
  refine ⟨fun _ _ => trivial, ?_⟩
  rw [if_pos (by simp [Region.wanted, hgu]), he]
  rcases hrec c₀ cs hu with h1 | ⟨h1, rfl, rfl⟩
  · simp only [h1]; exact hfin _ rfl rfl
  simp only [h1]; exact hfin c₀ hu (by cases c₀; simp_all)
section
variable {X : Cx} {ρ : PEnv} {o : Oper}
/-- x.(T), T a struct, where x holds one -/
theorem p_tassert {x : Operand} {xs t : TypeId} {fs : Array Field} {v : Value} (hu : X.P.underlying t = some (.struct fs)) (ho : o.op = .typeAssert x xs t true) (hx : ρ.ev x = some (.iface t v)) : RdP X ρ o (.tuple #[v, .bool true]) :=
  ⟨fun c hc => (by rw [ho] at hc; cases hc), fun e w he => by simp [execOp, ho, he _ _ hx, Instr.typeAssert, run_underlying' hu]⟩
/-- an interface's value compared with nil -/
theorem p_ifnil {x : Operand} {ti rt : TypeId} {ms : Array (String × TypeId)} (hi : X.P.underlying ti = some (.interface ms)) (ho : o.op = .binOp .eql ti x (.const .nilIface) rt) (hx : ρ.ev x = some .nilIface) : RdP X ρ o (.bool true) :=
  ⟨fun c hc => (by rw [ho] at hc; cases hc), fun e w he => by
    have h1 := eql_nil hi w
    have h2 : e (.const .nilIface) = .nilIface := he _ _ rfl
    have hg : (eqGuard .eql ti x (.const .nilIface) .nilIface .nilIface).run X.P w = .ok () w := by unfold eqGuard; simp
    simp [execOp, ho, he _ _ hx, h2, h1, hg]⟩
theorem p_ifsome {x : Operand} {ti rt : TypeId} {ms : Array (String × TypeId)} {tp : TypeId} {v : Value} (hi : X.P.underlying ti = some (.interface ms)) (ho : o.op = .binOp .eql ti x (.const .nilIface) rt) (hx : ρ.ev x = some (.iface tp v)) : RdP X ρ o (.bool false) :=
  ⟨fun c hc => (by rw [ho] at hc; cases hc), fun e w he => by
    have h1 := eql_some tp v hi w
    have h2 : e (.const .nilIface) = .nilIface := he _ _ rfl
    have hg : (eqGuard .eql ti x (.const .nilIface) (.iface tp v) .nilIface).run X.P w = .ok () w := by unfold eqGuard; simp
    simp [execOp, ho, he _ _ hx, h2, h1, hg]⟩
end
end Go.Vc

/- Calls that turn part of what is owned, and make more of it. -/
set_option linter.all false
namespace Go.Vc

theorem HSub.one {x : Nat × Obj} {R : Heap} : HSub [x] (x :: R) := .take .head (.nil _)
theorem HSub.three {x y z : Nat × Obj} {R : Heap} : HSub [x, y, z] (x :: y :: z :: R) := .take .head (.take .head (.take .head (.nil _)))
section
variable {w0 w w' : World} {M Mc : List Nat} {H Hc Hm Hk A : Heap}
/-- Behind a callee: nothing is owned any more, but what was not ours is as it was. -/
theorem Good.past (h : Good w0 M H w) (hc : Good w Mc Hc w') (hM : ∀ b ∈ Mc, ∃ o, (b, o) ∈ H) : Good w0 M [] w' :=
  h.back hc hM (fun p hp => by cases hp) (by simp)
theorem Good.kept (h : Good w0 M H w) (hc : Good w Mc Hc w') {p : Nat × Obj} (hp : p ∈ H) (hn : p.1 ∉ Mc) : w'.heap[p.1]? = some p.2 :=
  (hc.base _ (h.lt hp) hn).trans (h.own p hp)
theorem Good.ne {p q : Nat × Obj} (h : Good w0 M (Hm ++ Hk) w) (hp : p ∈ Hm) (hq : q ∈ Hk) : q.1 ≠ p.1 := by
  have hnd := h.nd
  rw [List.map_append, List.nodup_append] at hnd
  exact fun e => hnd.2.2 _ (List.mem_map_of_mem hp) _ (List.mem_map_of_mem hq) e.symm
theorem Good.notin {q : Nat × Obj} (h : Good w0 M (Hm ++ Hk) w) (hq : q ∈ Hk) : q.1 ∉ Hm.map Prod.fst := fun hm => by
  obtain ⟨p, hp, e⟩ := List.mem_map.1 hm
  exact h.ne hp hq e.symm
theorem Good.join (h : Good w0 M (Hm ++ Hk) w) (hc : Good w (Hm.map Prod.fst) Hc w') : Good w0 M (Hc ++ Hk) w' := by
  have hnd := h.nd
  rw [List.map_append, List.nodup_append] at hnd
  have hk : ∀ p ∈ Hk, p.1 ∉ Hm.map Prod.fst := fun p hp => h.notin hp
  refine h.back hc (fun b hb => ?_) (fun p hp => ?_) ?_
  · obtain ⟨p, hp, rfl⟩ := List.mem_map.1 hb; exact ⟨p.2, List.mem_append_left _ hp⟩
  · rcases List.mem_append.1 hp with hp | hp
    · exact .inl hp
    exact .inr ⟨List.mem_append_right _ hp, hk p hp⟩
  rw [List.map_append, List.nodup_append]
  refine ⟨hc.nd, hnd.2.1, ?_⟩
  intro a ha b hb e
  obtain ⟨p, hp, rfl⟩ := List.mem_map.1 ha
  obtain ⟨q, hq, rfl⟩ := List.mem_map.1 hb
  have h2 := h.lt (List.mem_append_right Hm hq)
  refine hk q hq ?_
  rw [← e]
  exact hc.out p hp (by rw [e]; exact h2)
/-- What is owned is lent to a callee. -/
theorem Good.begin (h : Good w0 M H w) (hs : HSub Hm H) : Good w (Hm.map Prod.fst) Hm w := Good.startWith (fun p hp => (h.hsub hs).own p hp) (h.hsub hs).nd
theorem Good.pastM (h : Good w0 M H w) (hs : HSub Hm H) (hc : Good w (Hm.map Prod.fst) Hc w') : Good w0 M [] w' :=
  (h.hsub hs).past hc fun b hb => by obtain ⟨p, hp, rfl⟩ := List.mem_map.1 hb; exact ⟨p.2, hp⟩
theorem Good.keptM {p : Nat × Obj} (h : Good w0 M H w) (hs : HSub (p :: Hm) H) (hc : Good w (Hm.map Prod.fst) Hc w') : w'.heap[p.1]? = some p.2 := by
  have h2 := h.hsub hs
  have hnd := h2.nd
  simp only [List.map_cons, List.nodup_cons] at hnd
  exact h2.kept hc (.head _) hnd.1
theorem Good.dist {p q : Nat × Obj} (h : Good w0 M H w) (hs : HSub [p, q] H) : q.1 ≠ p.1 := by
  have := (h.hsub hs).nd
  simp only [List.map_cons, List.map_nil, List.nodup_cons, List.mem_singleton] at this
  exact fun e => this.1 e.symm
/-- What was there, and is still owned as it was: nothing that lay has turned. -/
theorem Good.extOf (hm : ∀ p ∈ Hm, w0.heap[p.1]? = some p.2) (h : Good w0 (Hm.map Prod.fst) (A ++ Hm) w) : Ext w0 w := by
  refine ⟨h.size, fun b hb => ?_, h.io⟩
  by_cases hb2 : b ∈ Hm.map Prod.fst
  · obtain ⟨p, hp, rfl⟩ := List.mem_map.1 hb2
    rw [hm p hp]; exact h.own p (List.mem_append_right _ hp)
  exact h.base b hb hb2
end

section
variable {P : Program} {f : FuncId} {args : List Value} {w0 w : World} {M : List Nat} {H Hm Hk : Heap}
theorem FnX.over {R : Value → Heap → Prop} {S : List PanicEntry → Heap → Prop} (hg : Good w0 M H w) (hs : HSub (Hm ++ Hk) H)
    (h : FnX P f args w (fun v w' => ∃ Hc, Good w (Hm.map Prod.fst) Hc w' ∧ R v Hc) (fun ch w' => ∃ Hc, Good w (Hm.map Prod.fst) Hc w' ∧ S ch Hc)) :
    FnX P f args w (fun v w' => ∃ H', Good w0 M H' w' ∧ ∃ Hc, H' = Hk ++ Hc ∧ R v Hc) (fun ch w' => ∃ H', Good w0 M H' w' ∧ ∃ Hc, H' = Hk ++ Hc ∧ S ch Hc) :=
  h.mono (fun v w' ⟨Hc, hgc, hR⟩ => ⟨_, ((hg.hsub hs).join hgc).perm List.perm_append_comm, Hc, rfl, hR⟩) (fun ch w' ⟨Hc, hgc, hS⟩ => ⟨_, ((hg.hsub hs).join hgc).perm List.perm_append_comm, Hc, rfl, hS⟩)
theorem FnX.ext {R : Value → Prop} {S : List PanicEntry → Prop} (hg : Good w0 M H w) (h : FnX P f args w (fun v w' => Ext w w' ∧ R v) (fun ch w' => Ext w w' ∧ S ch)) :
    FnX P f args w (fun v w' => ∃ H', Good w0 M H' w' ∧ H' = H ∧ R v) (fun ch w' => ∃ H', Good w0 M H' w' ∧ H' = H ∧ S ch) :=
  h.mono (fun v w' ⟨he, hR⟩ => ⟨H, hg.ext he, rfl, hR⟩) (fun ch w' ⟨he, hS⟩ => ⟨H, hg.ext he, rfl, hS⟩)
theorem FnC.over {R : Value → Heap → Prop} (hg : Good w0 M H w) (hs : HSub (Hm ++ Hk) H)
    (h : FnC P f args w (fun v w' => ∃ Hc, Good w (Hm.map Prod.fst) Hc w' ∧ R v Hc)) :
    FnC P f args w (fun v w' => ∃ H', Good w0 M H' w' ∧ ∃ Hc, H' = Hk ++ Hc ∧ R v Hc) :=
  h.mono (fun v w' ⟨Hc, hgc, hR⟩ => ⟨_, ((hg.hsub hs).join hgc).perm List.perm_append_comm, Hc, rfl, hR⟩)
end

section
variable {X : Cx} {ρ : PEnv} {H : Heap} {o : Oper}
/-- A call that may panic, wherever it stands. -/
theorem wx_call {fo : Operand} {ags : Array Operand} {tys : Array TypeId} {f : FuncId} {cap : Array Value} {vs : List Value} {R : Value → Heap → Prop} {S : List PanicEntry → Heap → Prop} (ho : o.op = .call { callee := .value fo, args := ags, argTypes := tys })
    (hf : ρ.ev fo = some (.func (.func f) #[] cap)) (hv : evL ρ ags.toList = some vs)
    (h : ∀ w, Good X.w0 X.M H w → FnX X.P f (vs ++ cap.toList) w (fun v w' => ∃ H', Good X.w0 X.M H' w' ∧ R v H') (fun ch w' => ∃ H', Good X.w0 X.M H' w' ∧ S ch H')) : WrX X ρ H o R S := by
  refine ⟨fun c hc => (by rw [ho] at hc; cases hc), fun a w he hg => ?_⟩
  have hc := h w hg
  have hargs : ags.map a.eval = vs.toArray := Array.toList_inj.1 (by simp [evL_map he hv])
  have hrun : (execOp a.eval o).run X.P w = .ok (.enter f (vs ++ cap.toList).toArray) w := by
    have e1 : #[] ++ vs.toArray ++ cap = (vs ++ cap.toList).toArray := by simp
    simp only [execOp, ho, resolve, he _ _ hf, hargs, Deferred.ofValue, Sem.run_bind, Sem.run_pure, Result.andThen_ok, invoke, e1]
    exact hc.ent _ w
  rw [hrun]
  refine ⟨fun hd => (by simp [FW, Fence.wide] at hd), callsIn_any (hc.calls.mono ?_)⟩
  rintro e w' (⟨v, rfl, H', hg', hR⟩ | ⟨ch, rfl, H', hg', hS⟩)
  · exact ⟨v, H', rfl, hg', hR⟩
  exact ⟨ch, H', rfl, hg', hS⟩
end
end Go.Vc

/- Lists of states that are handed back (plain). -/
set_option linter.all false
namespace Go.Fl
open Go.Vc Go.Tk

def stL (l : List St) : List Value := (l.map St.cells).flatten
def imL (l : List Imp) : List Value := (l.map Imp.cells).flatten
def runL (f : Nat → St) (k : Nat) : List St := (List.range k).map f
theorem runL_s (f : Nat → St) (k : Nat) : stL (runL f (k + 1)) = stL (runL f k) ++ (f k).cells := by
  unfold stL runL; rw [List.range_succ, List.map_append, List.map_append, List.flatten_append]; simp
theorem imL_s (l : List Imp) (y : Imp) : imL (l ++ [y]) = imL l ++ y.cells := by unfold imL; rw [List.map_append, List.flatten_append]; simp
theorem _root_.Go.Vc.Grow.isSl {el size n : Nat} {v : Value} {xs : List Value} {G : Heap} (h : Grow el size v n xs G) : ∃ a cap, v = .slice a n cap := by cases h <;> exact ⟨_, _, rfl⟩
theorem flat_drop {α : Type} {f : α → List Value} {s : Nat} (d : α) (hs : ∀ x, (f x).length = s) : ∀ (l : List α) (k : Nat), k < l.length → (((l.map f).flatten).drop (k * s)).take s = f (l.getD k d) := by
  intro l
  induction l with
  | nil => intro k h; simp at h
  | cons x l ih =>
    intro k h
    rw [List.map_cons, List.flatten_cons]
    cases k with
    | zero => rw [Nat.zero_mul, List.drop_zero, List.take_append_of_le_length (by rw [hs]; exact Nat.le_refl _), ← hs x, List.take_length]; rfl
    | succ k =>
      have e : (k + 1) * s = (f x).length + k * s := by rw [hs, Nat.add_mul]; omega
      rw [e, List.drop_append, List.drop_eq_nil_of_le (by omega), List.nil_append, Nat.add_sub_cancel_left]
      exact ih k (by simpa using h)
theorem flat_len {α : Type} {f : α → List Value} {s : Nat} (hs : ∀ x, (f x).length = s) : ∀ (l : List α), ((l.map f).flatten).length = l.length * s := by
  intro l
  induction l with
  | nil => simp
  | cons x l ih => rw [List.map_cons, List.flatten_cons, List.length_append, ih, hs, List.length_cons, Nat.add_mul]; omega
theorem row_sl {α : Type} {f : α → List Value} {d : α} {l : List α} {s n k : Nat} {cur : Array Value} (hcur : cur.toList.take (n * s) = (l.map f).flatten) (hs : ∀ x, (f x).length = s) (hn : n = l.length) (hk : k < l.length) : sliceL cur.toList (0 + k * s) s = some (f (l.getD k d)) := by
  have h1 := flat_drop d hs l k hk
  have h2 := flat_len hs l
  rw [← hcur, List.length_take] at h2
  rw [← hcur, List.drop_take] at h1
  have h3 : (k + 1) * s ≤ n * s := Nat.mul_le_mul_right s (by omega)
  rw [Nat.add_mul] at h3
  have h4 : Nat.ble (0 + k * s + s) cur.toList.length = true := Nat.ble_eq_true_of_le (by rw [← hn] at h2; omega)
  unfold sliceL
  rw [h4, cond_true, Nat.zero_add]
  rw [List.take_take, Nat.min_eq_left (by omega)] at h1
  rw [h1]
theorem impN_go {f : Nat → St} {frm floor : Int} {n t : Nat} {x : Imp} (hn : t < n) (hf : farS (f t) = false) (hw : (watchT frm floor x t (f t)).2 = false) : impN f frm floor (n - t) t x = impN f frm floor (n - (t + 1)) (t + 1) (watchT frm floor x t (f t)).1 := by
  rw [show n - t = (n - (t + 1)) + 1 by omega, impN, if_neg (by rw [hf]; decide), if_neg (by rw [hw]; decide)]
theorem impN_out {f : Nat → St} {frm floor : Int} {t : Nat} {x : Imp} (hf : farS (f t) = false) (hw : (watchT frm floor x t (f t)).2 = false) : impN f frm floor (t - t) t x = (imZ, 9) := by
  rw [Nat.sub_self, impN, if_neg (by rw [hf]; decide), if_neg (by rw [hw]; decide)]
/-- A list is handed back, in memory of its own. -/
def LstOut (el size n : Nat) (xs : List Value) (mk : Value → Value) (v : Value) (A G : Heap) : Prop := A = [] ∧ ∃ sv, v = mk sv ∧ Grow el size sv n xs G
end Go.Fl
namespace Go.Fl
open Go.Vc Go.Tk
/-! ### the reference's bands -/
section
variable {l : List Band} {z : Span} {k i : Nat} {a : Ax} {f : Bool}
def RwI (l : List Band) (z : Span) (k : Nat) (a : Ax) (f : Bool) : Prop := (f = true ∧ rwN l z k = some a) ∨ (f = false ∧ a = axZ ∧ rwN l z k = none)
theorem RwI.zero : RwI l z 0 axZ (decide ((bdAt l (l.length - 1)).to ≤ z.hi)) := by
  unfold RwI rwN
  by_cases h : (bdAt l (l.length - 1)).to ≤ z.hi
  · rw [if_pos h, decide_eq_true h]; exact .inl ⟨rfl, rfl⟩
  rw [if_neg h, decide_eq_false h]; exact .inr ⟨rfl, rfl, rfl⟩
theorem RwI.skip (h : RwI l z k a f) (hs : rskip l z k = true) : RwI l z (k + 1) a f := by
  unfold RwI rwN; rw [if_pos hs]; exact h
theorem RwI.more (h : RwI l z k a true) (hs : rskip l z k = false) : RwI l z (k + 1) (hullA a ⟨(bdAt l k).x, (bdAt l k).y, spZ⟩) true := by
  unfold RwI rwN; rw [if_neg (by rw [hs]; decide)]
  rcases h with ⟨_, h⟩ | ⟨h, _⟩
  · rw [h]; exact .inl ⟨rfl, rfl⟩
  cases h
theorem RwI.first (h : RwI l z k a false) (hs : rskip l z k = false) : RwI l z (k + 1) ⟨(bdAt l k).x, (bdAt l k).y, spZ⟩ true := by
  unfold RwI rwN; rw [if_neg (by rw [hs]; decide)]
  rcases h with ⟨h, _⟩ | ⟨_, _, h⟩
  · cases h
  rw [h]; exact .inl ⟨rfl, rfl⟩
theorem RwI.end (hB : GoodB l) (h : RwI l z l.length a f) : a = windsT l z := by
  rw [← rw_winds hB]
  rcases h with ⟨_, h⟩ | ⟨_, h2, h⟩
  · rw [h]; rfl
  rw [h, h2]; rfl
end
end Go.Fl

/- The examples of layer 2 (plain). -/
set_option linter.all false
namespace Go.Fl
open Go.Vc Go.Tk

def dartP : Phase := ⟨2, ⟨1000, 1000⟩, ⟨10, 10⟩, ⟨0, 0⟩, ⟨⟨-10, 10⟩, ⟨0, 0⟩, ⟨0, 0⟩⟩⟩
def dartV : Veh := ⟨⟨#[100, 97, 114, 116]⟩, ⟨98, 98⟩, [], [dartP], []⟩
def windyP : Phase := ⟨2, ⟨1000, 1000⟩, ⟨10, 10⟩, ⟨10, 10⟩, ⟨⟨-10, 10⟩, ⟨0, 0⟩, ⟨0, 0⟩⟩⟩
def windyV : Veh := ⟨⟨#[100, 97, 114, 116]⟩, ⟨98, 98⟩, [⟨0, 1000⟩], [windyP], []⟩
def windyS : St := ⟨⟨⟨0, 0⟩, ⟨0, 0⟩, ⟨5000, 5000⟩⟩, ⟨⟨0, 0⟩, ⟨0, 0⟩, ⟨10000, 10000⟩⟩⟩
def exI : Imp := ⟨0, ⟨-79, 79⟩, ⟨0, 0⟩, ⟨40, 40⟩⟩
theorem dart_impE : impsE dartV upD exB = 0 := by decide +kernel
theorem dart_imp : impT dartV upD exB 0 = (exI, 0) := by decide +kernel
theorem dart_imps : impsL dartV upD exB = [exI] := by
  rw [impsL_ok dart_impE]
  show [(impT dartV upD exB 0).1] = [exI]
  rw [dart_imp]
theorem windy_fE : forceE windyV upD exB 2 windyS = 0 := by decide +kernel
theorem windy_f : forceP windyV upD exB 2 windyS = ⟨⟨3, 4⟩, ⟨0, 0⟩, ⟨-199, -198⟩⟩ := by decide +kernel
theorem short_dir : dirE ⟨0, 0, 5000⟩ = 2 := by decide
theorem dart_flyE : flyE dartV upD exB (-1) = 7 := by decide +kernel
theorem dart_fly : flyL dartV upD exB (-1) = [] := flyL_bad (by rw [dart_flyE]; decide)

section
variable {w : World} {b b2 ty ty2 : Nat} {fr fr2 : Nat × Nat}
theorem dart_R (h : w.heap[b]? = some (.cells dartP.cells.toArray ty fr)) : VehR w (VehV dartV (.slice none 0 0) (.slice (some ⟨b, 0, none⟩) 1 1) (.slice none 0 0)) dartV :=
  ⟨by decide, fun p hp => absurd hp List.not_mem_nil, by decide, by decide, by decide, _, _, _, rfl, SliceR.nil w _, own_rows (els := [dartP.cells]) h rfl (by intro e he; rw [List.mem_singleton.1 he]; rfl) rfl (by decide), SliceR.nil w _⟩
theorem windy_R (h : w.heap[b]? = some (.cells windyP.cells.toArray ty fr)) (h2 : w.heap[b2]? = some (.cells (AirE.cells ⟨0, 1000⟩).toArray ty2 fr2)) : VehR w (VehV windyV (.slice (some ⟨b2, 0, none⟩) 1 1) (.slice (some ⟨b, 0, none⟩) 1 1) (.slice none 0 0)) windyV :=
  ⟨by decide, fun p hp => absurd hp List.not_mem_nil, by decide, by decide, by decide, _, _, _, rfl, own_rows (els := [AirE.cells ⟨0, 1000⟩]) h2 rfl (by intro e he; rw [List.mem_singleton.1 he]; rfl) rfl (by decide), own_rows (els := [windyP.cells]) h rfl (by intro e he; rw [List.mem_singleton.1 he]; rfl) rfl (by decide), SliceR.nil w _⟩
theorem exB_R (h : w.heap[b]? = some (.cells (Band.cells ⟨0, 100000, ⟨300, 300⟩, ⟨0, 0⟩⟩).toArray ty fr)) : BdsR w (.slice (some ⟨b, 0, none⟩) 1 1) exB :=
  ⟨by decide, own_rows (els := exB.map Band.cells) h rfl (by intro e he; rw [List.mem_singleton.1 he]; rfl) rfl (by decide)⟩
end
end Go.Fl
