/- Functions: their bodies, their calls; ranges over functions. -/
import Derived.Test.YtclbbchehjapjabVcD
import Derived.RangeFuncRecord
import Derived.RangeFuncNested
set_option linter.all false
namespace Go.Vc

/-! ### what a call comes to -/

def Ent (P : Program) (f : FuncId) : Prop := ∀ args w, (callFunc f args).run P w = .ok (.enter f args) w

theorem ent_of {P : Program} {f : FuncId} {fn : Func} {c : Code} (hf : P.funcs[f]? = some fn) (hname : (fn.name == "runtime.NumGoroutine") = false) (hb : fn.body = some c) : Ent P f := by
  intro args w
  have h1 : ¬ fn.name = "runtime.NumGoroutine" := by simpa using hname
  simp [callFunc, hf, h1, hb]

/-- The call returns, and R holds of what it returns and of the world that it leaves. -/
structure FnC (P : Program) (f : FuncId) (args : List Value) (w : World) (R : Value → World → Prop) : Prop where
  ent : Ent P f
  calls : CallsIn (FW none) 0 P f args.toArray w fun e w' => ∃ v, e = .returned v ∧ R v w'

theorem FnC.mono {P : Program} {f : FuncId} {args : List Value} {w : World} {R R' : Value → World → Prop} (h : FnC P f args w R) (hr : ∀ v w', R v w' → R' v w') : FnC P f args w R' :=
  ⟨h.ent, h.calls.mono fun _ _ ⟨v, he, hv⟩ => ⟨v, he, hr v _ hv⟩⟩

/-- It returns v, and leaves all that lay as it was: in every world that reads as w does. -/
def FnP (P : Program) (f : FuncId) (args : List Value) (w : World) (v : Value) : Prop := FnC P f args w fun u w' => u = v ∧ Ext w w'

/-! ### the end of a body -/

inductive ResL (P : Program) (ρ : PEnv) (H : Heap) : List ResultVar → List Value → Prop
  | nil : ResL P ρ H [] []
  | tmp {t : Tmp} {v : Value} {rs : List ResultVar} {vs : List Value} (h : ρ.get t = some v) (r : ResL P ρ H rs vs) : ResL P ρ H (.tmp t :: rs) (v :: vs)
  | cell {t ty b off et : Nat} {cs : Array Value} {fr : Nat × Nat} {v : Value} {rs : List ResultVar} {vs : List Value} (h : ρ.get t = some (.pointer (some ⟨b, off, none⟩))) (ha : tyAgg P ty = some false)
      (hm : (b, Obj.cells cs et fr) ∈ H) (hv : cs.toList[off]? = some v) (r : ResL P ρ H rs vs) : ResL P ρ H (.cell t ty :: rs) (v :: vs)
  | cellA {t ty b off et n : Nat} {cs : Array Value} {fr : Nat × Nat} {us : List Value} {rs : List ResultVar} {vs : List Value} (h : ρ.get t = some (.pointer (some ⟨b, off, none⟩))) (ha : tyAgg P ty = some true) (hs : tySize P ty = some n)
      (hm : (b, Obj.cells cs et fr) ∈ H) (hv : sliceL cs.toList off n = some us) (r : ResL P ρ H rs vs) : ResL P ρ H (.cell t ty :: rs) (.agg us.toArray :: vs)

def tup : List Value → Value
  | [v] => v
  | vs => .tuple vs.toArray

theorem own_slice {w : World} {b off n : Nat} {cs : Array Value} {t : TypeId} {fr : Nat × Nat} {vs : List Value} (h : w.heap[b]? = some (.cells cs t fr)) (hv : sliceL cs.toList off n = some vs) : cellsAt w ⟨b, off, none⟩ vs ∧ vs.length = n := by
  obtain ⟨h1, h2⟩ := sliceL_spec hv
  refine ⟨fun j v hj => own_cellsAt h off j v ?_, h2⟩
  rw [h1, List.getElem?_take] at hj
  split at hj
  · exact hj
  · cases hj

theorem tmps_getD {xs : Array Value} {t : Nat} {v : Value} (h : xs[t]? = some v) : xs.getD t undef = v := by rw [Array.getD_eq_getD_getElem?, h]; rfl

theorem resL_run {P : Program} {ρ : PEnv} {ds : List Deferred} {n : Nat} {H : Heap} {w0 w : World} {M : List Nat} {a : Act} (ha : Agr n ρ ds a) (hg : Good w0 M H w) {rs : List ResultVar} {vs : List Value} (h : ResL P ρ H rs vs)
    (f : ResultVar → Sem Value) (h1 : ∀ t, f (.tmp t) = pure (a.tmps.getD t undef)) (h2 : ∀ p t, f (.cell p t) = do loadVar t (← asAddr (a.tmps.getD p undef))) :
    (rs.mapM f).run P w = .ok vs w := by
  induction h with
  | nil => simp
  | tmp h r ih =>
    have := ha.at_ _ _ h
    have e := tmps_getD this
    simp only [List.mapM_cons, Sem.run_bind, h1, Sem.run_pure, Result.andThen_ok, e, ih]
  | cell h hag hm hv r ih =>
    have := ha.at_ _ _ h
    have hc := (own_cell (hg.own _ hm) _).trans hv
    have e := tmps_getD this
    simp only [List.mapM_cons, Sem.run_bind, h2, Sem.run_pure, Result.andThen_ok, e, ih, asAddr]
    simp [run_loadVar hag hc, ih]
  | cellA h hag hs hm hv r ih =>
    have := ha.at_ _ _ h
    obtain ⟨hc', h2'⟩ := own_slice (hg.own _ hm) hv
    have e := tmps_getD this
    simp only [List.mapM_cons, Sem.run_bind, h2, Sem.run_pure, Result.andThen_ok, e, ih, asAddr]
    simp [run_loadVar_agg hag hs h2' hc', ih]

theorem results_run {P : Program} {ρ : PEnv} {ds : List Deferred} {n : Nat} {H : Heap} {w0 w : World} {M : List Nat} {a : Act} (ha : Agr n ρ ds a) (hg : Good w0 M H w) {fn : Func} {rs : List ResultVar} {vs : List Value} (hr : fn.results = rs.toArray) (h : ResL P ρ H rs vs) :
    (results fn a.tmps).run P w = .ok (tup vs) w := by
  unfold results
  rw [hr, List.mapM_toArray]
  simp only [Sem.run_bind, Sem.run_map]
  rw [resL_run ha hg h _ (fun t => rfl) (fun p t => rfl)]
  simp only [Result.andThen_ok, Sem.run_pure]
  congr 1
  match vs with
  | [] => rfl
  | [v] => rfl
  | _ :: _ :: _ => rfl

/-- Marks of loops over functions, each with its block, are cleared one by one; then the results are read. -/
inductive Leave (P : Program) (rs : List ResultVar) (R : Value → Heap → Prop) (ρ : PEnv) : List Deferred → Heap → Prop
  | nil {H : Heap} {vs : List Value} (h : ResL P ρ H rs vs) (hR : R (tup vs) H) : Leave P rs R ρ [] H
  | mark {D : Nat} {ds : List Deferred} {H H' : Heap} (hs : SetAt H D (.deferred (some [])) (.deferred none) H') (h : Leave P rs R ρ ds H') : Leave P rs R ρ ({ target := .collected D, args := #[] } :: ds) H

def RetQ (P : Program) (rs : List ResultVar) (R : Value → Heap → Prop) : Post := fun e ρ ds H => match e with
  | .normal => Leave P rs R ρ ds H
  | .ret => Leave P rs R ρ ds H
  | _ => False

theorem leave_leaves {P : Program} {rs : List ResultVar} {R : Value → Heap → Prop} {ρ : PEnv} {n : Nat} {w0 : World} {M : List Nat} {fn : Func} (hr : fn.results = rs.toArray) {a : Act} {ds0 : List Deferred} (ha : Agr n ρ ds0 a) :
    ∀ {ds : List Deferred} {H : Heap}, Leave P rs R ρ ds H → ∀ w, Good w0 M H w → LeavesInM (FW none) 0 P fn a.tmps (fun e w' => ∃ v, e = .returned v ∧ ∃ H, Good w0 M H w' ∧ R v H) ds .returning w := by
  intro ds H h
  induction h with
  | nil h hR => exact fun w hg => ⟨_, results_run ha hg hr h, _, rfl, _, hg, hR⟩
  | mark hs h ih =>
    intro w hg
    refine ⟨by simp, .inl ⟨_, _, rfl, run_takeDeferred (hg.own _ hs.mem), ih _ (hg.set hs rfl ⟨rfl, rfl⟩)⟩⟩

def argEnv : List Value → Nat → PEnv
  | [], _ => []
  | v :: l, k => (k, v) :: argEnv l (k + 1)

theorem argEnv_get : ∀ (l : List Value) (k t : Nat) (v : Value), (argEnv l k).get t = some v → ∃ j, t = k + j ∧ l[j]? = some v := by
  intro l
  induction l with
  | nil => intro k t v h; simp [argEnv, PEnv.get] at h
  | cons u l ih =>
    intro k t v h
    simp only [argEnv, PEnv.get] at h
    cases hb : Nat.beq k t with
    | true => rw [hb] at h; exact ⟨0, by have := Nat.eq_of_beq_eq_true hb; omega, by simpa using h⟩
    | false =>
      rw [hb] at h
      obtain ⟨j, e, hj⟩ := ih (k + 1) t v h
      exact ⟨j + 1, by omega, by simpa using hj⟩

theorem entryAgr {args : List Value} {n : Nat} (hn : args.length ≤ n) : Agr n (argEnv args 0) [] { tmps := args.toArray ++ Array.replicate (n - args.toArray.size) undef, defers := [] } := by
  refine ⟨fun t v h => ?_, by simp; omega, rfl⟩
  obtain ⟨j, e, hj⟩ := argEnv_get args 0 t v h
  have hlt : j < args.length := (List.getElem?_eq_some_iff.1 hj).1
  rw [Nat.zero_add] at e
  subst e
  rw [Array.getElem?_append_left (by simpa using hlt)]
  simpa using hj

/-- A function's contract from its body. -/
theorem fn_body {P : Program} {f : FuncId} {fn : Func} {c : Code} {args : List Value} {w : World} {M : List Nat} {H0 : Heap} {n : Nat} {rs : List ResultVar} {R : Value → Heap → Prop}
    (hf : P.funcs[f]? = some fn) (hb : fn.body = some c) (hname : (fn.name == "runtime.NumGoroutine") = false) (hn : fn.ntmps = n) (hr : fn.results = rs.toArray) (hl : Nat.ble args.length n = true) (hg : Good w M H0 w)
    (h : V ⟨P, none, n, w, M⟩ c (argEnv args 0) [] H0 (RetQ P rs R)) : FnC P f args w fun v w' => ∃ H, Good w M H w' ∧ R v H := by
  refine ⟨ent_of hf hname hb, callsIn_of_wp_marks hf hb trivial ?_⟩
  subst hn
  refine wpIn_mono (h _ w (entryAgr (Nat.le_of_ble_eq_true hl)) hg) ?_
  rintro e a w' ⟨ρ, ds, H, ha, hg', hq⟩
  cases e with
  | normal => rw [show bodyPostM (FW none) 0 P fn _ .normal a w' = LeavesInM _ _ _ _ _ _ _ _ _ from rfl, ha.defers]; exact leave_leaves hr ha hq w' hg'
  | ret => rw [show bodyPostM (FW none) 0 P fn _ .ret a w' = LeavesInM _ _ _ _ _ _ _ _ _ from rfl, ha.defers]; exact leave_leaves hr ha hq w' hg'
  | _ => exact hq.elim

theorem fn_pure {P : Program} {f : FuncId} {fn : Func} {c : Code} {args : List Value} {w : World} {n : Nat} {rs : List ResultVar} {v : Value}
    (hf : P.funcs[f]? = some fn) (hb : fn.body = some c) (hname : (fn.name == "runtime.NumGoroutine") = false) (hn : fn.ntmps = n) (hr : fn.results = rs.toArray) (hl : Nat.ble args.length n = true)
    (h : V ⟨P, none, n, w, []⟩ c (argEnv args 0) [] [] (RetQ P rs fun u _ => u = v)) : FnP P f args w v :=
  (fn_body hf hb hname hn hr hl (Good.start w) h).mono fun u w' ⟨_, hg, he⟩ => ⟨he, hg.toExt⟩

/-! ### calls -/

section
variable {X : Cx} {ρ : PEnv} {ds : List Deferred} {H : Heap} {o : Oper}

theorem callsIn_any {r : Option Nat} {P : Program} {f : FuncId} {args : Array Value} {w : World} {R : Ending → World → Prop} (h : CallsIn (FW none) 0 P f args w R) : CallsIn (FW r) 0 P f args w R := h

theorem wr_call {fo : Operand} {as : Array Operand} {tys : Array TypeId} {f : FuncId} {cap : Array Value} {vs : List Value} {R : Value → Heap → Prop} (ho : o.op = .call { callee := .value fo, args := as, argTypes := tys })
    (hf : ρ.ev fo = some (.func (.func f) #[] cap)) (hv : evL ρ as.toList = some vs)
    (h : ∀ w, Good X.w0 X.M H w → FnC X.P f (vs ++ cap.toList) w fun v w' => ∃ H', Good X.w0 X.M H' w' ∧ R v H') : WrA X ρ H o R := by
  refine ⟨fun c hc => (by rw [ho] at hc; cases hc), fun a w he hg => ?_⟩
  have hc := h w hg
  have hargs : as.map a.eval = vs.toArray := Array.toList_inj.1 (by simp [evL_map he hv])
  have hrun : (execOp a.eval o).run X.P w = .ok (.enter f (vs ++ cap.toList).toArray) w := by
    have e1 : #[] ++ vs.toArray ++ cap = (vs ++ cap.toList).toArray := by simp
    simp only [execOp, ho, resolve, he _ _ hf, hargs, Deferred.ofValue, Sem.run_bind, Sem.run_pure, Result.andThen_ok, invoke, e1]
    exact hc.ent _ w
  rw [hrun]
  refine ⟨fun hd => (by simp [FW, Fence.wide] at hd), callsIn_any (hc.calls.mono ?_)⟩
  rintro e w' ⟨v, rfl, H', hg', hR⟩
  exact ⟨v, H', rfl, hg', hR⟩

/-- A call that computes. -/
theorem w_callP {fo : Operand} {as : Array Operand} {tys : Array TypeId} {f : FuncId} {cap : Array Value} {vs : List Value} {v : Value} (ho : o.op = .call { callee := .value fo, args := as, argTypes := tys })
    (hf : ρ.ev fo = some (.func (.func f) #[] cap)) (hv : evL ρ as.toList = some vs) (h : ∀ w, Good X.w0 X.M H w → FnP X.P f (vs ++ cap.toList) w v) : WrA X ρ H o fun u H' => u = v ∧ H' = H :=
  wr_call ho hf hv fun w hg => (h w hg).mono fun _ _ ⟨hu, he⟩ => ⟨H, hg.ext he, hu, rfl⟩

/-- A call that makes memory: what it hands over is owned from then on. -/
theorem w_callN {fo : Operand} {as : Array Operand} {tys : Array TypeId} {f : FuncId} {cap : Array Value} {vs : List Value} {R : Value → Heap → Prop} (ho : o.op = .call { callee := .value fo, args := as, argTypes := tys })
    (hf : ρ.ev fo = some (.func (.func f) #[] cap)) (hv : evL ρ as.toList = some vs) (h : ∀ w, Good X.w0 X.M H w → FnC X.P f (vs ++ cap.toList) w fun v w' => ∃ Hc, Good w [] Hc w' ∧ R v Hc) :
    WrA X ρ H o fun u H' => ∃ Hc, H' = Hc ++ H ∧ (∀ p ∈ Hc, X.w0.heap.size ≤ p.1) ∧ R u Hc :=
  wr_call ho hf hv fun w hg => (h w hg).mono fun v w' ⟨Hc, hgc, hR⟩ => by
    have hnew : ∀ p ∈ Hc, w.heap.size ≤ p.1 := fun p hp => by
      rcases Nat.lt_or_ge p.1 w.heap.size with hlt | hge
      · exact absurd (hgc.out p hp hlt) (by simp)
      · exact hge
    refine ⟨Hc ++ H, hg.back hgc (fun b hb => by cases hb) (fun p hp => ?_) ?_, Hc, rfl, fun p hp => Nat.le_trans hg.size (hnew p hp), hR⟩
    · rcases List.mem_append.1 hp with hp | hp
      · exact .inl hp
      · exact .inr ⟨hp, by simp⟩
    · rw [List.map_append, List.nodup_append]
      refine ⟨hgc.nd, hg.nd, ?_⟩
      intro a ha b hb e
      obtain ⟨p, hp, rfl⟩ := List.mem_map.1 ha
      obtain ⟨q, hq, rfl⟩ := List.mem_map.1 hb
      have h1 := hnew p hp
      have h2 := hg.lt hq
      omega

/-- A call that turns one owned block. -/
theorem w_callM {fo : Operand} {as : Array Operand} {tys : Array TypeId} {f : FuncId} {cap : Array Value} {vs : List Value} {b : Nat} {ob : Obj} {R : Value → Obj → Prop} {HF : Obj → Heap} (ho : o.op = .call { callee := .value fo, args := as, argTypes := tys })
    (hf : ρ.ev fo = some (.func (.func f) #[] cap)) (hv : evL ρ as.toList = some vs) (hset : ∀ o', SetAt H b ob o' (HF o'))
    (h : ∀ w, Good X.w0 X.M H w → FnC X.P f (vs ++ cap.toList) w fun v w' => ∃ o', Good w [b] [(b, o')] w' ∧ R v o') :
    WrA X ρ H o fun u H' => ∃ o', H' = HF o' ∧ R u o' :=
  wr_call ho hf hv fun w hg => (h w hg).mono fun v w' ⟨o', hgc, hR⟩ => by
    have hs := hset o'
    refine ⟨HF o', hg.back hgc (fun c hc => ?_) (fun p hp => ?_) (by rw [hs.keys]; exact hg.nd), o', rfl, hR⟩
    · rw [List.mem_singleton] at hc; subst hc; exact ⟨ob, hs.mem⟩
    · rcases hs.mem' hg.nd p hp with rfl | ⟨h1, h2⟩
      · exact .inl (.head _)
      · exact .inr ⟨h1, by simpa using h2⟩

end

end Go.Vc
