/- Joined texts. -/
import Derived.Test.YtbncegfgjbdheaaZab
import Derived.RangeFuncRecord
import Derived.RangeFuncNested
/- Functions: their bodies, their calls; ranges over functions. -/
set_option linter.all false
namespace Go.Vc

/-! ### what a call comes to -/

def Ent (P : Program) (f : FuncId) : Prop := ∀ args w, (callFunc f args).run P w = .ok (.enter f args) w

theorem ent_of {P : Program} {f : FuncId} {fn : Func} {c : Code} (hf : P.funcs[f]? = some fn) (hname : (fn.name == "runtime.NumGoroutine") = false) (hb : fn.body = some c) : Ent P f := by
  intro args w
  have h1 : ¬ fn.name = "runtime.NumGoroutine" := by simpa using hname
  simp [callFunc, hf, h1, hb]

/-- The call returns, and R holds of what it returns and of the world that it leaves. -/
structure FnC (P : Program) (f : FuncId) (args : List Value) (w : World) (R : Value → World → Prop) : Prop where
  ent : Ent P f
  calls : CallsIn (FW none) 0 P f args.toArray w fun e w' => ∃ v, e = .returned v ∧ R v w'

theorem FnC.mono {P : Program} {f : FuncId} {args : List Value} {w : World} {R R' : Value → World → Prop} (h : FnC P f args w R) (hr : ∀ v w', R v w' → R' v w') : FnC P f args w R' :=
  ⟨h.ent, h.calls.mono fun _ _ ⟨v, he, hv⟩ => ⟨v, he, hr v _ hv⟩⟩

/-- It returns v, and leaves all that lay as it was: in every world that reads as w does. -/
def FnP (P : Program) (f : FuncId) (args : List Value) (w : World) (v : Value) : Prop := FnC P f args w fun u w' => u = v ∧ Ext w w'

/-! ### the end of a body -/

inductive ResL (P : Program) (ρ : PEnv) (H : Heap) : List ResultVar → List Value → Prop
  | nil : ResL P ρ H [] []
  | tmp {t : Tmp} {v : Value} {rs : List ResultVar} {vs : List Value} (h : ρ.get t = some v) (r : ResL P ρ H rs vs) : ResL P ρ H (.tmp t :: rs) (v :: vs)
  | cell {t ty b off et : Nat} {cs : Array Value} {fr : Nat × Nat} {v : Value} {rs : List ResultVar} {vs : List Value} (h : ρ.get t = some (.pointer (some ⟨b, off, none⟩))) (ha : tyAgg P ty = some false)
      (hm : (b, Obj.cells cs et fr) ∈ H) (hv : cs.toList[off]? = some v) (r : ResL P ρ H rs vs) : ResL P ρ H (.cell t ty :: rs) (v :: vs)
  | cellA {t ty b off et n : Nat} {cs : Array Value} {fr : Nat × Nat} {us : List Value} {rs : List ResultVar} {vs : List Value} (h : ρ.get t = some (.pointer (some ⟨b, off, none⟩))) (ha : tyAgg P ty = some true) (hs : tySize P ty = some n)
      (hm : (b, Obj.cells cs et fr) ∈ H) (hv : sliceL cs.toList off n = some us) (r : ResL P ρ H rs vs) : ResL P ρ H (.cell t ty :: rs) (.agg us.toArray :: vs)

def tup : List Value → Value
  | [v] => v
  | vs => .tuple vs.toArray

theorem own_slice {w : World} {b off n : Nat} {cs : Array Value} {t : TypeId} {fr : Nat × Nat} {vs : List Value} (h : w.heap[b]? = some (.cells cs t fr)) (hv : sliceL cs.toList off n = some vs) : cellsAt w ⟨b, off, none⟩ vs ∧ vs.length = n := by
  obtain ⟨h1, h2⟩ := sliceL_spec hv
  refine ⟨fun j v hj => own_cellsAt h off j v ?_, h2⟩
  rw [h1, List.getElem?_take] at hj
  split at hj
  · exact hj
  cases hj

theorem tmps_getD {xs : Array Value} {t : Nat} {v : Value} (h : xs[t]? = some v) : xs.getD t undef = v := by rw [Array.getD_eq_getD_getElem?, h]; rfl

theorem resL_run {P : Program} {ρ : PEnv} {ds : List Deferred} {n : Nat} {H : Heap} {w0 w : World} {M : List Nat} {a : Act} (ha : Agr n ρ ds a) (hg : Good w0 M H w) {rs : List ResultVar} {vs : List Value} (h : ResL P ρ H rs vs)
    (f : ResultVar → Sem Value) (h1 : ∀ t, f (.tmp t) = pure (a.tmps.getD t undef)) (h2 : ∀ p t, f (.cell p t) = do loadVar t (← asAddr (a.tmps.getD p undef))) :
    (rs.mapM f).run P w = .ok vs w := by
  induction h with
  | nil => simp
  | tmp h r ih =>
    have := ha.at_ _ _ h
    have e := tmps_getD this
    simp only [List.mapM_cons, Sem.run_bind, h1, Sem.run_pure, Result.andThen_ok, e, ih]
  | cell h hag hm hv r ih =>
    have := ha.at_ _ _ h
    have hc := (own_cell (hg.own _ hm) _).trans hv
    have e := tmps_getD this
    simp only [List.mapM_cons, Sem.run_bind, h2, Sem.run_pure, Result.andThen_ok, e, ih, asAddr]
    simp [run_loadVar hag hc, ih]
  | cellA h hag hs hm hv r ih =>
    have := ha.at_ _ _ h
    obtain ⟨hc', h2'⟩ := own_slice (hg.own _ hm) hv
    have e := tmps_getD this
    simp only [List.mapM_cons, Sem.run_bind, h2, Sem.run_pure, Result.andThen_ok, e, ih, asAddr]
    simp [run_loadVar_agg hag hs h2' hc', ih]

theorem results_run {P : Program} {ρ : PEnv} {ds : List Deferred} {n : Nat} {H : Heap} {w0 w : World} {M : List Nat} {a : Act} (ha : Agr n ρ ds a) (hg : Good w0 M H w) {fn : Func} {rs : List ResultVar} {vs : List Value} (hr : fn.results = rs.toArray) (h : ResL P ρ H rs vs) :
    (results fn a.tmps).run P w = .ok (tup vs) w := by
  unfold results
  rw [hr, List.mapM_toArray]
  simp only [Sem.run_bind, Sem.run_map]
  rw [resL_run ha hg h _ (fun t => rfl) (fun p t => rfl)]
  simp only [Result.andThen_ok, Sem.run_pure]
  congr 1
  match vs with
  | [] => rfl
  | [v] => rfl
  | _ :: _ :: _ => rfl

/-- Marks of loops over functions, each with its block, are cleared one by one; then the results are read. -/
inductive Leave (P : Program) (rs : List ResultVar) (R : Value → Heap → Prop) (ρ : PEnv) : List Deferred → Heap → Prop
  | nil {H : Heap} {vs : List Value} (h : ResL P ρ H rs vs) (hR : R (tup vs) H) : Leave P rs R ρ [] H
  | mark {D : Nat} {ds : List Deferred} {H H' : Heap} (hs : SetAt H D (.deferred (some [])) (.deferred none) H') (h : Leave P rs R ρ ds H') : Leave P rs R ρ ({ target := .collected D, args := #[] } :: ds) H

def RetQ (P : Program) (rs : List ResultVar) (R : Value → Heap → Prop) : Post := fun e ρ ds H => match e with
  | .normal => Leave P rs R ρ ds H
  | .ret => Leave P rs R ρ ds H
  | _ => False

theorem leave_leaves {P : Program} {rs : List ResultVar} {R : Value → Heap → Prop} {ρ : PEnv} {n : Nat} {w0 : World} {M : List Nat} {fn : Func} (hr : fn.results = rs.toArray) {a : Act} {ds0 : List Deferred} (ha : Agr n ρ ds0 a) :
    ∀ {ds : List Deferred} {H : Heap}, Leave P rs R ρ ds H → ∀ w, Good w0 M H w → LeavesInM (FW none) 0 P fn a.tmps (fun e w' => ∃ v, e = .returned v ∧ ∃ H, Good w0 M H w' ∧ R v H) ds .returning w := by
  intro ds H h
  induction h with
  | nil h hR => exact fun w hg => ⟨_, results_run ha hg hr h, _, rfl, _, hg, hR⟩
  | mark hs h ih =>
    intro w hg
    refine ⟨by simp, .inl ⟨_, _, rfl, run_takeDeferred (hg.own _ hs.mem), ih _ (hg.set hs rfl ⟨rfl, rfl⟩)⟩⟩

def argEnv : List Value → Nat → PEnv
  | [], _ => []
  | v :: l, k => (k, v) :: argEnv l (k + 1)

theorem argEnv_get : ∀ (l : List Value) (k t : Nat) (v : Value), (argEnv l k).get t = some v → ∃ j, t = k + j ∧ l[j]? = some v := by
  intro l
  induction l with
  | nil => intro k t v h; simp [argEnv, PEnv.get] at h
  | cons u l ih =>
    intro k t v h
    simp only [argEnv, PEnv.get] at h
    cases hb : Nat.beq k t with
    | true => rw [hb] at h; exact ⟨0, by have := Nat.eq_of_beq_eq_true hb; omega, by simpa using h⟩
    | false =>
      rw [hb] at h
      obtain ⟨j, e, hj⟩ := ih (k + 1) t v h
      exact ⟨j + 1, by omega, by simpa using hj⟩

theorem entryAgr {args : List Value} {n : Nat} (hn : args.length ≤ n) : Agr n (argEnv args 0) [] { tmps := args.toArray ++ Array.replicate (n - args.toArray.size) undef, defers := [] } := by
  refine ⟨fun t v h => ?_, by simp; omega, rfl⟩
  obtain ⟨j, e, hj⟩ := argEnv_get args 0 t v h
  have hlt : j < args.length := (List.getElem?_eq_some_iff.1 hj).1
  rw [Nat.zero_add] at e
  subst e
  rw [Array.getElem?_append_left (by simpa using hlt)]
  simpa using hj

/-- A function's contract from its body. -/
theorem fn_body {P : Program} {f : FuncId} {fn : Func} {c : Code} {args : List Value} {w : World} {M : List Nat} {H0 : Heap} {n : Nat} {rs : List ResultVar} {R : Value → Heap → Prop}
    (hf : P.funcs[f]? = some fn) (hb : fn.body = some c) (hname : (fn.name == "runtime.NumGoroutine") = false) (hn : fn.ntmps = n) (hr : fn.results = rs.toArray) (hl : Nat.ble args.length n = true) (hg : Good w M H0 w)
    (h : V ⟨P, none, n, w, M⟩ c (argEnv args 0) [] H0 (RetQ P rs R)) : FnC P f args w fun v w' => ∃ H, Good w M H w' ∧ R v H := by
  refine ⟨ent_of hf hname hb, callsIn_of_wp_marks hf hb trivial ?_⟩
  subst hn
  refine wpIn_mono (h _ w (entryAgr (Nat.le_of_ble_eq_true hl)) hg) ?_
  rintro e a w' ⟨ρ, ds, H, ha, hg', hq⟩
  cases e with
  | normal => rw [show bodyPostM (FW none) 0 P fn _ .normal a w' = LeavesInM _ _ _ _ _ _ _ _ _ from rfl, ha.defers]; exact leave_leaves hr ha hq w' hg'
  | ret => rw [show bodyPostM (FW none) 0 P fn _ .ret a w' = LeavesInM _ _ _ _ _ _ _ _ _ from rfl, ha.defers]; exact leave_leaves hr ha hq w' hg'
  | _ => exact hq.elim

theorem fn_pure {P : Program} {f : FuncId} {fn : Func} {c : Code} {args : List Value} {w : World} {n : Nat} {rs : List ResultVar} {v : Value}
    (hf : P.funcs[f]? = some fn) (hb : fn.body = some c) (hname : (fn.name == "runtime.NumGoroutine") = false) (hn : fn.ntmps = n) (hr : fn.results = rs.toArray) (hl : Nat.ble args.length n = true)
    (h : V ⟨P, none, n, w, []⟩ c (argEnv args 0) [] [] (RetQ P rs fun u _ => u = v)) : FnP P f args w v :=
  (fn_body hf hb hname hn hr hl (Good.start w) h).mono fun u w' ⟨_, hg, he⟩ => ⟨he, hg.toExt⟩

/-! ### calls -/

section
variable {X : Cx} {ρ : PEnv} {ds : List Deferred} {H : Heap} {o : Oper}

theorem callsIn_any {r : Option Nat} {P : Program} {f : FuncId} {args : Array Value} {w : World} {R : Ending → World → Prop} (h : CallsIn (FW none) 0 P f args w R) : CallsIn (FW r) 0 P f args w R := h

theorem wr_call {fo : Operand} {ags : Array Operand} {tys : Array TypeId} {f : FuncId} {cap : Array Value} {vs : List Value} {R : Value → Heap → Prop} (ho : o.op = .call { callee := .value fo, args := ags, argTypes := tys })
    (hf : ρ.ev fo = some (.func (.func f) #[] cap)) (hv : evL ρ ags.toList = some vs)
    (h : ∀ w, Good X.w0 X.M H w → FnC X.P f (vs ++ cap.toList) w fun v w' => ∃ H', Good X.w0 X.M H' w' ∧ R v H') : WrA X ρ H o R := by
  refine ⟨fun c hc => (by rw [ho] at hc; cases hc), fun a w he hg => ?_⟩
  have hc := h w hg
  have hargs : ags.map a.eval = vs.toArray := Array.toList_inj.1 (by simp [evL_map he hv])
  have hrun : (execOp a.eval o).run X.P w = .ok (.enter f (vs ++ cap.toList).toArray) w := by
    have e1 : #[] ++ vs.toArray ++ cap = (vs ++ cap.toList).toArray := by simp
    simp only [execOp, ho, resolve, he _ _ hf, hargs, Deferred.ofValue, Sem.run_bind, Sem.run_pure, Result.andThen_ok, invoke, e1]
    exact hc.ent _ w
  rw [hrun]
  refine ⟨fun hd => (by simp [FW, Fence.wide] at hd), callsIn_any (hc.calls.mono ?_)⟩
  rintro e w' ⟨v, rfl, H', hg', hR⟩
  exact ⟨v, H', rfl, hg', hR⟩

/-- A call that computes. -/
theorem w_callP {fo : Operand} {ags : Array Operand} {tys : Array TypeId} {f : FuncId} {cap : Array Value} {vs : List Value} {v : Value} (ho : o.op = .call { callee := .value fo, args := ags, argTypes := tys })
    (hf : ρ.ev fo = some (.func (.func f) #[] cap)) (hv : evL ρ ags.toList = some vs) (h : ∀ w, Good X.w0 X.M H w → FnP X.P f (vs ++ cap.toList) w v) : WrA X ρ H o fun u H' => u = v ∧ H' = H :=
  wr_call ho hf hv fun w hg => (h w hg).mono fun _ _ ⟨hu, he⟩ => ⟨H, hg.ext he, hu, rfl⟩

/-- A call that makes memory: what it hands over is owned from then on. -/
theorem w_callN {fo : Operand} {ags : Array Operand} {tys : Array TypeId} {f : FuncId} {cap : Array Value} {vs : List Value} {R : Value → Heap → Prop} (ho : o.op = .call { callee := .value fo, args := ags, argTypes := tys })
    (hf : ρ.ev fo = some (.func (.func f) #[] cap)) (hv : evL ρ ags.toList = some vs) (h : ∀ w, Good X.w0 X.M H w → FnC X.P f (vs ++ cap.toList) w fun v w' => ∃ Hc, Good w [] Hc w' ∧ R v Hc) :
    WrA X ρ H o fun u H' => ∃ Hc, H' = Hc ++ H ∧ (∀ p ∈ Hc, X.w0.heap.size ≤ p.1) ∧ R u Hc :=
  wr_call ho hf hv fun w hg => (h w hg).mono fun v w' ⟨Hc, hgc, hR⟩ => by
    have hnew : ∀ p ∈ Hc, w.heap.size ≤ p.1 := fun p hp => by
      rcases Nat.lt_or_ge p.1 w.heap.size with hlt | hge
      · exact absurd (hgc.out p hp hlt) (by simp)
      exact hge
    refine ⟨Hc ++ H, hg.back hgc (fun b hb => by cases hb) (fun p hp => ?_) ?_, Hc, rfl, fun p hp => Nat.le_trans hg.size (hnew p hp), hR⟩
    · rcases List.mem_append.1 hp with hp | hp
      · exact .inl hp
      exact .inr ⟨hp, by simp⟩
    rw [List.map_append, List.nodup_append]
    refine ⟨hgc.nd, hg.nd, ?_⟩
    intro a ha b hb e
    obtain ⟨p, hp, rfl⟩ := List.mem_map.1 ha
    obtain ⟨q, hq, rfl⟩ := List.mem_map.1 hb
    have h1 := hnew p hp
    have h2 := hg.lt hq
    omega

/-- A call that turns one owned block. -/
theorem w_callM {fo : Operand} {ags : Array Operand} {tys : Array TypeId} {f : FuncId} {cap : Array Value} {vs : List Value} {b : Nat} {ob : Obj} {R : Value → Obj → Prop} {HF : Obj → Heap} (ho : o.op = .call { callee := .value fo, args := ags, argTypes := tys })
    (hf : ρ.ev fo = some (.func (.func f) #[] cap)) (hv : evL ρ ags.toList = some vs) (hset : ∀ o', SetAt H b ob o' (HF o'))
    (h : ∀ w, Good X.w0 X.M H w → FnC X.P f (vs ++ cap.toList) w fun v w' => ∃ o', Good w [b] [(b, o')] w' ∧ R v o') :
    WrA X ρ H o fun u H' => ∃ o', H' = HF o' ∧ R u o' :=
  wr_call ho hf hv fun w hg => (h w hg).mono fun v w' ⟨o', hgc, hR⟩ => by
    have hs := hset o'
    refine ⟨HF o', hg.back hgc (fun c hc => ?_) (fun p hp => ?_) (by rw [hs.keys]; exact hg.nd), o', rfl, hR⟩
    · rw [List.mem_singleton] at hc; subst hc; exact ⟨ob, hs.mem⟩
    rcases hs.mem' hg.nd p hp with rfl | ⟨h1, h2⟩
    · exact .inl (.head _)
    exact .inr ⟨h1, by simpa using h2⟩

end

end Go.Vc

/- Structs that are compared; maps with such keys; bytes of a string; append. -/
set_option linter.all false
namespace Go.Vc

/-! ### comparing what is made of numbers, strings and bools alone -/

inductive Leaf where
  | int (k : IntKind) | str | bool
  deriving DecidableEq

def Leaf.fits : Leaf → Value → Bool
  | .int k, .int k' _ => k == k'
  | .str, .string _ => true
  | .bool, .bool _ => true
  | _, _ => false

def fitsL : List Leaf → List Value → Bool
  | [], [] => true
  | l :: ls, v :: vs => l.fits v && fitsL ls vs
  | _, _ => false

def eqv : Value → Value → Bool
  | .int _ a, .int _ b => decide (a = b)
  | .string a, .string b => decide (a = b)
  | .bool a, .bool b => a == b
  | _, _ => false

def eqL : List Value → List Value → Bool
  | [], [] => true
  | v :: vs, u :: us => eqv v u && eqL vs us
  | _, _ => false

def leavesF (P : Program) (lv : TypeId → Option (List Leaf)) : List Field → Nat → Option (List Leaf)
  | [], _ => some []
  | f :: fs, off =>
    if f.name = "_" then none else if f.offset ≠ off then none else
    match lv f.type with
    | none => none
    | some l => if tySize P f.type ≠ some l.length then none else
      match leavesF P lv fs (off + l.length) with
      | none => none
      | some r => some (l ++ r)

def leaves (P : Program) : Nat → TypeId → Option (List Leaf)
  | 0, _ => none
  | d + 1, t => match P.underlying t with
    | some (.int k) => some [.int k]
    | some .string => some [.str]
    | some .bool => some [.bool]
    | some (.struct fs) => if P.stoodInHeld t then none else leavesF P (leaves P d) fs.toList 0
    | _ => none

/-- the value of a type that has these cells -/
def valOf (P : Program) (t : TypeId) (xs : List Value) : Value := match tyAgg P t with
  | some true => .agg xs.toArray
  | _ => match xs with
    | [v] => v
    | _ => .agg xs.toArray

theorem fitsL_length {ls : List Leaf} : ∀ {vs : List Value}, fitsL ls vs = true → vs.length = ls.length := by
  induction ls with
  | nil => intro vs h; cases vs <;> simp [fitsL] at h ⊢
  | cons l ls ih => intro vs h; cases vs with
    | nil => simp [fitsL] at h
    | cons v vs => simp only [fitsL, Bool.and_eq_true] at h; simp [ih h.2]

theorem fitsL_append {l r : List Leaf} : ∀ {vs : List Value}, fitsL (l ++ r) vs = true → fitsL l (vs.take l.length) = true ∧ fitsL r (vs.drop l.length) = true := by
  induction l with
  | nil => intro vs h; exact ⟨by simp [fitsL], by simpa using h⟩
  | cons x l ih => intro vs h; cases vs with
    | nil => simp [fitsL] at h
    | cons v vs =>
      simp only [List.cons_append, fitsL, Bool.and_eq_true] at h
      have := ih h.2
      simp only [List.length_cons, List.take_succ_cons, List.drop_succ_cons, fitsL, Bool.and_eq_true]
      exact ⟨⟨h.1, this.1⟩, this.2⟩

theorem eqL_split (n : Nat) : ∀ (xs ys : List Value), xs.length = ys.length → eqL xs ys = (eqL (xs.take n) (ys.take n) && eqL (xs.drop n) (ys.drop n)) := by
  induction n with
  | zero => intro xs ys _; simp [eqL]
  | succ n ih => intro xs ys h; cases xs with
    | nil => cases ys with
      | nil => simp [eqL]
      | cons y ys => simp at h
    | cons x xs => cases ys with
      | nil => simp at h
      | cons y ys =>
        simp only [eqL, List.take_succ_cons, List.drop_succ_cons, Bool.and_assoc]
        rw [ih xs ys (by simpa using h)]

theorem run_part {P : Program} {w : World} {t : TypeId} {l : List Leaf} {xs : List Value} {off d : Nat} (hl : leaves P d t = some l) (hs : tySize P t = some l.length) (hx : fitsL l ((xs.drop off).take l.length) = true) :
    (part t xs.toArray off).run P w = .ok (valOf P t ((xs.drop off).take l.length)) w := by
  have hlen := fitsL_length hx
  cases d with
  | zero => simp [leaves] at hl
  | succ d =>
    simp only [leaves] at hl
    have scal : ∀ k : Leaf, l = [k] → tyAgg P t = some false → (part t xs.toArray off).run P w = .ok (valOf P t ((xs.drop off).take l.length)) w := by
      intro k e ha
      subst e
      simp only [List.length_cons, List.length_nil, Nat.zero_add] at hlen ⊢
      cases hd : xs.drop off with
      | nil => rw [hd] at hlen; simp at hlen
      | cons v r =>
        have hv : xs[off]? = some v := by
          have := congrArg (·[0]?) hd
          simpa using this
        simp [part, run_isAgg' ha, valOf, ha, hv]
    cases hu : P.underlying t with
    | none => simp [hu] at hl
    | some u =>
      cases u <;> simp only [hu] at hl <;> try (simp at hl; done)
      case bool => injection hl with hl; exact scal .bool hl.symm (by simp [tyAgg, hu])
      case int k => injection hl with hl; exact scal (.int k) hl.symm (by simp [tyAgg, hu])
      case string => injection hl with hl; exact scal .str hl.symm (by simp [tyAgg, hu])
      case struct fs =>
        have ha : tyAgg P t = some true := by simp [tyAgg, hu]
        have he : xs.toArray.extract off (off + l.length) = ((xs.drop off).take l.length).toArray := by
          apply Array.toList_inj.1
          simp
        simp [part, run_isAgg' ha, run_sizeOf' hs, valOf, ha, he]

theorem fits1 {k : Leaf} {xs : List Value} (h : fitsL [k] xs = true) : ∃ x, xs = [x] ∧ k.fits x = true := by
  match xs, h with
  | [], h => simp [fitsL] at h
  | [x], h => simp [fitsL] at h; exact ⟨x, rfl, h⟩
  | _ :: _ :: _, h => simp [fitsL] at h

theorem fits_bool {x : Value} (h : Leaf.bool.fits x = true) : ∃ b, x = .bool b := by cases x <;> simp [Leaf.fits] at h; exact ⟨_, rfl⟩
theorem fits_str {x : Value} (h : Leaf.str.fits x = true) : ∃ b, x = .string b := by cases x <;> simp [Leaf.fits] at h; exact ⟨_, rfl⟩
theorem fits_int {k : IntKind} {x : Value} (h : (Leaf.int k).fits x = true) : ∃ n, x = .int k n := by
  cases x <;> simp [Leaf.fits] at h
  subst h; exact ⟨_, rfl⟩

theorem run_equal_leaves {P : Program} : ∀ (d : Nat) (t : TypeId) (l : List Leaf) (xs ys : List Value) (w : World), leaves P d t = some l → fitsL l xs = true → fitsL l ys = true →
    ∀ k, d ≤ k → (Op.equalIn k t (valOf P t xs) (valOf P t ys)).run P w = .ok (eqL xs ys) w := by
  intro d
  induction d with
  | zero => intro t l xs ys w h; simp [leaves] at h
  | succ d ih =>
    intro t l xs ys w h hx hy k hk
    obtain ⟨k, rfl⟩ : ∃ j, k = j + 1 := ⟨k - 1, by omega⟩
    have h0 := h
    simp only [leaves] at h
    cases hu : P.underlying t with
    | none => simp [hu] at h
    | some u =>
      cases u <;> simp only [hu] at h <;> try (simp at h; done)
      case bool =>
        injection h with h; subst h
        have ha : tyAgg P t = some false := by simp [tyAgg, hu]
        obtain ⟨x, rfl, hx'⟩ := fits1 hx
        obtain ⟨y, rfl, hy'⟩ := fits1 hy
        obtain ⟨x, rfl⟩ := fits_bool hx'
        obtain ⟨y, rfl⟩ := fits_bool hy'
        simp [valOf, ha, run_equalIn_bool' w k t _ _ hu, eqL, eqv]
      case int kk =>
        injection h with h; subst h
        have ha : tyAgg P t = some false := by simp [tyAgg, hu]
        obtain ⟨x, rfl, hx'⟩ := fits1 hx
        obtain ⟨y, rfl, hy'⟩ := fits1 hy
        obtain ⟨x, rfl⟩ := fits_int hx'
        obtain ⟨y, rfl⟩ := fits_int hy'
        simp [valOf, ha, run_equalIn_int w k t _ _ _ _ hu, eqL, eqv, beq_dec]
      case string =>
        injection h with h; subst h
        have ha : tyAgg P t = some false := by simp [tyAgg, hu]
        obtain ⟨x, rfl, hx'⟩ := fits1 hx
        obtain ⟨y, rfl, hy'⟩ := fits1 hy
        obtain ⟨x, rfl⟩ := fits_str hx'
        obtain ⟨y, rfl⟩ := fits_str hy'
        simp [valOf, ha, run_equalIn_string w k t _ _ hu, eqL, eqv, bytes_dec]
      case struct fs =>
        have ha : tyAgg P t = some true := by simp [tyAgg, hu]
        cases hst : P.stoodInHeld t with
        | true => simp [hst] at h
        | false =>
          simp only [hst, Bool.false_eq_true, if_false] at h
          simp only [valOf, ha]
          have hfo : P.underlying t = some (.struct (P.fieldsOf t)) := by simp [Program.fieldsOf, hu]
          rw [run_equalIn_agg w k t _ _ hfo hst]
          have hfs : (P.fieldsOf t) = fs := by simp [Program.fieldsOf, hu]
          rw [hfs]
          -- field by field
          have key : ∀ (fl : List Field) (off : Nat) (r : List Leaf), leavesF P (leaves P d) fl off = some r → fitsL r (xs.drop off) = true → fitsL r (ys.drop off) = true →
              (Op.eqFields k xs.toArray ys.toArray fl).run P w = .ok (eqL (xs.drop off) (ys.drop off)) w := by
            intro fl
            induction fl with
            | nil =>
              intro off r hr hfx hfy
              simp only [leavesF, Option.some.injEq] at hr
              subst hr
              have e1 : xs.drop off = [] := by cases hd : xs.drop off with
                | nil => rfl
                | cons a b => rw [hd] at hfx; simp [fitsL] at hfx
              have e2 : ys.drop off = [] := by cases hd : ys.drop off with
                | nil => rfl
                | cons a b => rw [hd] at hfy; simp [fitsL] at hfy
              simp [Op.eqFields, e1, e2, eqL]
            | cons f fl ihf =>
              intro off r hr hfx hfy
              simp only [leavesF] at hr
              by_cases hn : f.name = "_"
              · simp [hn] at hr
              rw [if_neg hn] at hr
              by_cases ho : f.offset ≠ off
              · rw [if_pos ho] at hr; cases hr
              rw [if_neg ho] at hr
              have ho' : f.offset = off := Classical.not_not.1 ho
              cases hl : leaves P d f.type with
              | none => simp [hl] at hr
              | some lf =>
                simp only [hl] at hr
                by_cases hz : tySize P f.type ≠ some lf.length
                · rw [if_pos hz] at hr; cases hr
                rw [if_neg hz] at hr
                have hz' := Classical.not_not.1 hz
                cases hrest : leavesF P (leaves P d) fl (off + lf.length) with
                | none => simp [hrest] at hr
                | some rr =>
                  simp only [hrest, Option.some.injEq] at hr
                  subst hr
                  obtain ⟨x1, x2⟩ := fitsL_append hfx
                  obtain ⟨y1, y2⟩ := fitsL_append hfy
                  have hpx := run_part (w := w) hl hz' x1
                  have hpy := run_part (w := w) hl hz' y1
                  have he := ih f.type lf _ _ w hl x1 y1 k (by omega)
                  have hrec := ihf (off + lf.length) rr hrest (by rwa [List.drop_drop] at x2) (by rwa [List.drop_drop] at y2)
                  have hlx := fitsL_length hfx
                  have hly := fitsL_length hfy
                  rw [eqL_split lf.length (xs.drop off) (ys.drop off) (by omega), List.drop_drop, List.drop_drop]
                  simp only [Op.eqFields, hn, ne_eq, not_false_eq_true, if_true, Sem.run_bind, ho', hpx, hpy, Result.andThen_ok, he]
                  cases hb : eqL (List.take lf.length (List.drop off xs)) (List.take lf.length (List.drop off ys))
                  · simp
                  simp [hrec]
          have := key fs.toList 0 l h (by simpa using hx) (by simpa using hy)
          simpa using this

section
variable {X : Cx} {ρ : PEnv} {ds : List Deferred} {H : Heap} {o : Oper}

theorem run_equal_top {P : Program} {t : TypeId} {l : List Leaf} {xs ys : List Value} {w : World} (hl : leaves P 10 t = some l) (ha : tyAgg P t = some true) (hx : fitsL l xs = true) (hy : fitsL l ys = true) :
    (Op.equal t (.agg xs.toArray) (.agg ys.toArray)).run P w = .ok (eqL xs ys) w := by
  have := run_equal_leaves 10 t l xs ys w hl hx hy 10000 (by decide)
  simp only [valOf, ha] at this
  exact this

theorem p_eqS {t yt : TypeId} {x y : Operand} {l : List Leaf} {xs ys : Array Value} (hl : leaves X.P 10 t = some l) (ha : tyAgg X.P t = some true) (hgd : X.P.eqGuardType X.P.depth t = false) (ho : o.op = .binOp .eql t x y yt) (hx : ρ.ev x = some (.agg xs)) (hy : ρ.ev y = some (.agg ys))
    (fx : fitsL l xs.toList = true) (fy : fitsL l ys.toList = true) : RdP X ρ o (.bool (eqL xs.toList ys.toList)) :=
  ⟨fun c h => (by rw [ho] at h; cases h), fun e w he => by
    have h1 := run_equal_top (w := w) hl ha fx fy
    simp only [Array.toArray_toList] at h1
    simp [execOp, ho, he _ _ hx, he _ _ hy, run_eqGuard_agg w .eql t x y xs ys hgd, binOp, h1]⟩

theorem p_idxo {x i : Operand} {t len cap size b off : Nat} {k : Int} (hs : elemSz X.P t = some size) (ho : o.op = .indexAddr t x i) (hx : ρ.ev x = some (.slice (some ⟨b, off, none⟩) len cap)) (hi : ρ.ev i = some (.int .i64 k))
    (h0 : 0 ≤ k) (h1 : k < len) : RdP X ρ o (.pointer (some ⟨b, off + k.toNat * size, none⟩)) := by
  have := p_idx (X := X) hs ho hx hi h0 h1; rwa [add_none] at this

theorem p_idxao {x i : Operand} {t len size b off : Nat} {k : Int} (hs : arrOf X.P t = some (len, size)) (ho : o.op = .indexAddr t x i) (hx : ρ.ev x = some (.pointer (some ⟨b, off, none⟩))) (hi : ρ.ev i = some (.int .i64 k))
    (h0 : 0 ≤ k) (h1 : k < len) : RdP X ρ o (.pointer (some ⟨b, off + k.toNat * size, none⟩)) := by
  have := p_idxa (X := X) hs ho hx hi h0 h1; rwa [add_none] at this

theorem cellsAt.zero {w : World} {a : Addr} {v : Value} {vs : List Value} (h : cellsAt w a (v :: vs)) : w.cell? a = some v := by
  have := h 0 v rfl; rwa [add_zero'] at this

theorem Good.push {w0 w w' : World} {M : List Nat} {H : Heap} (h : Good w0 M H w) {o : Obj} (hw : w'.heap = w.heap.push o) (hio : SameIO w w') : Good w0 M ((w.heap.size, o) :: H) w' := by
  have := h.alloc o
  exact ⟨by have := this.size; simp only [World.alloc] at this; rw [hw]; exact this, fun b hb hM => by rw [hw]; exact this.base b hb hM, fun p hp => by rw [hw]; exact this.own p hp, this.nd, this.out, h.io.trans hio⟩

def bytesV (s : ByteArray) : List Value := s.data.toList.map fun b => Value.int .u8 b.toNat

theorem modify_push (h : Array Obj) (o : Obj) (f : Obj → Obj) : (h.push o).modify h.size f = h.push (f o) := by
  apply Array.ext (by simp)
  intro i h1 h2
  rw [Array.getElem_modify, Array.getElem_push, Array.getElem_push]
  simp only [Array.size_modify, Array.size_push] at h1
  by_cases e : i < h.size
  · have : ¬ h.size = i := by omega
    simp [e, this]
  have : h.size = i := by omega
  simp [e, this]

theorem run_stb {P : Program} (w : World) (el : TypeId) (s : ByteArray) : ∃ cap pad fr w', (Conv.stringToBytes el s).run P w = .ok (.slice (some ⟨w.heap.size, 0, none⟩) s.size cap) w' ∧ w'.heap = w.heap.push (.cells (bytesV s ++ pad).toArray el fr) ∧ SameIO w w' := by
  have hel : (s.data.map fun b => Value.int .u8 b.toNat) = (bytesV s).toArray := by apply Array.toList_inj.1; simp [bytesV]
  have hnf : (Question.appendCap s.size 0 el).forced = false := rfl
  generalize hc : Question.cut (.appendCap s.size 0 el) (w.tape w.drawn (.appendCap s.size 0 el)) = cap
  generalize hp : List.replicate (cap - s.size) (Value.int .u8 0) = pad
  have hpad : Array.replicate (cap - s.size) (Value.int .u8 0) = pad.toArray := by rw [← hp]; simp
  have hrow : (bytesV s).toArray ++ pad.toArray = (bytesV s ++ pad).toArray := by simp
  let o : Obj := .cells (bytesV s ++ pad).toArray el
  let w1 : World := { w with drawn := w.drawn + 1 }
  have hsh : (w1.alloc o).shape? w.heap.size = some (el, (bytesV s ++ pad).toArray.size) := by simp [World.shape?, World.alloc, w1, o]
  refine ⟨cap, pad, ((bytesV s ++ pad).toArray.size, (bytesV s ++ pad).toArray.size + 1), (w1.alloc o).freeze { block := w.heap.size, off := (bytesV s ++ pad).toArray.size } 1, ?_, ?_, ?_⟩
  · have hnew : (newRow el ((bytesV s).toArray ++ pad.toArray)).run P w1 = .ok ⟨w.heap.size, 0, none⟩ (w1.alloc o) := by rw [hrow]; rfl
    have hmark : (markStringish ⟨w.heap.size, 0, none⟩).run P (w1.alloc o) = .ok () ((w1.alloc o).freeze { block := w.heap.size, off := (bytesV s ++ pad).toArray.size } 1) := by
      simp only [markStringish, Sem.run_bind, run_shape, hsh, Result.andThen_ok, run_freeze]
    have hch : (choose (.appendCap s.size 0 el)).run P w = .ok cap w1 := by rw [run_choose, hnf, hc]; rfl
    simp only [Conv.stringToBytes, Sem.run_bind, hch, Result.andThen_ok, hel, hpad, hnew, hmark, Sem.run_pure]
  · have e : w1.heap.size = w.heap.size := rfl
    simp only [World.freeze, World.alloc, o, w1]
    rw [if_neg (by decide)]
    dsimp only
    rw [modify_push]
    rfl
  constructor <;> (simp only [World.freeze]; split <;> rfl)

/-- '[]byte(s)' -/
theorem w_bytes {x : Operand} {st t el : TypeId} {s : ByteArray} (hs : X.P.underlying st = some .string) (ht : X.P.underlying t = some (.slice el)) (he : X.P.underlying el = some (.int .u8)) (ho : o.op = .convert st t x) (hx : ρ.ev x = some (.string s)) :
    WrA X ρ H o fun v H' => ∃ b cap pad fr, X.w0.heap.size ≤ b ∧ v = .slice (some ⟨b, 0, none⟩) s.size cap ∧ H' = (b, .cells (bytesV s ++ pad).toArray el fr) :: H :=
  wr_value (fun c h => (by rw [ho] at h; cases h)) fun e w hev hg => by
    obtain ⟨cap, pad, fr, w', hrun, hheap, hio⟩ := run_stb (P := X.P) w el s
    refine ⟨_, w', _, .inl ?_, hg.push hheap hio, w.heap.size, cap, pad, fr, hg.size, rfl, rfl⟩
    simp only [execOp, ho, hev _ _ hx, convert, Sem.run_bind, run_underlying' hs, run_underlying' ht, run_underlying' he, Result.andThen_ok, hrun, Sem.run_pure]

def byteAt (s : ByteArray) (i : Nat) : Int := ((s.data.toList.getD i 0).toNat : Int)

/-! ### parts of slices -/

theorem run_bound {P : Program} {w : World} {k : Int} {y : Nat} {c : BoundsCode} (h0 : 0 ≤ k) (h1 : k ≤ y) : (Instr.sliceBound (.int .i64 k) y c).run P w = .ok k.toNat w := by
  simp [Instr.sliceBound, asIntOf, h0, h1]

theorem map_add0 (a : Option Addr) (size : Nat) : a.map (·.add (0 * size)) = a := by cases a <;> simp [Addr.add]

/-- 's[:k]' -/
theorem p_slTo {x y : Operand} {t len cap size : Nat} {a : Option Addr} {k : Int} (hs : elemSz X.P t = some size) (ho : o.op = .slice t x none (some y) none) (hx : ρ.ev x = some (.slice a len cap)) (hy : ρ.ev y = some (.int .i64 k))
    (h0 : 0 ≤ k) (h1 : k ≤ cap) : RdP X ρ o (.slice a k.toNat cap) := by
  refine ⟨fun c h => (by rw [ho] at h; cases h), fun e w he => ?_⟩
  unfold elemSz at hs
  cases hu : X.P.underlying t with
  | none => simp [hu] at hs
  | some d =>
    cases d with
    | slice el =>
      simp only [hu] at hs
      have e1 : (if cap = 0 then a else a.map (·.add (0 * size))) = a := by rw [map_add0]; split <;> rfl
      simp only [execOp, ho, he _ _ hx, Option.map_none, Option.map_some, he _ _ hy, Instr.sliceAt, Instr.slice, Sem.run_bind, run_underlying' hu, Result.andThen_ok, Instr.sliceBounds, Sem.run_pure, run_bound h0 h1, if_true, run_sizeOf' hs, e1]
      simp
    | _ => simp [hu] at hs

/-- 's[k:]' -/
theorem p_slFrom {x y : Operand} {t len cap size : Nat} {a : Option Addr} {k : Int} (hs : elemSz X.P t = some size) (ho : o.op = .slice t x (some y) none none) (hx : ρ.ev x = some (.slice a len cap)) (hy : ρ.ev y = some (.int .i64 k))
    (h0 : 0 ≤ k) (h1 : k ≤ len) (h2 : len ≤ cap) : RdP X ρ o (.slice (if cap = k.toNat then a else a.map (·.add (k.toNat * size))) (len - k.toNat) (cap - k.toNat)) := by
  refine ⟨fun c h => (by rw [ho] at h; cases h), fun e w he => ?_⟩
  unfold elemSz at hs
  cases hu : X.P.underlying t with
  | none => simp [hu] at hs
  | some d =>
    cases d with
    | slice el =>
      simp only [hu] at hs
      simp only [execOp, ho, he _ _ hx, Option.map_none, Option.map_some, he _ _ hy, Instr.sliceAt, Instr.slice, Sem.run_bind, run_underlying' hu, Result.andThen_ok, Instr.sliceBounds, Sem.run_pure, run_bound h0 h1, run_sizeOf' hs]
    | _ => simp [hu] at hs

/-! ### maps whose keys are structs of numbers, strings and bools -/

structure MapIs (es : Array MapEntry) (l : List (List Value × Value)) : Prop where
  eq : es.toList.map (fun e => (e.key, e.val)) = l.map fun p => (Value.agg p.1.toArray, p.2)

theorem MapIs.nil : MapIs #[] [] := ⟨rfl⟩

def keyEq (k : List Value) (p : List Value × Value) : Bool := eqL k p.1

def found (l : List (List Value × Value)) (k : List Value) (z : Value) : Value := ((l.find? (keyEq k)).map (·.2)).getD z

end

end Go.Vc

/- The plain part of layer 5: what its functions compute. -/
set_option linter.all false
namespace Go.Tk
open Go.Vc

structure Tracker where
  name : ByteArray
  x : Int
  y : Int
  error : Int
  grow : Int
  late : Int
structure Plot where
  tracker : Int
  tick : Int
  x : Int
  y : Int
  z : Int
structure Task where
  frm : Int
  speed : Int
  accel : Int
  trackers : List Tracker
  plots : List Plot
structure Span where
  lo : Int
  hi : Int
  deriving DecidableEq
structure Box where
  at_ : Int
  x : Span
  y : Span
  z : Span
  vx : Span
  vy : Span
  vz : Span

def ii (n : Int) : Value := .int .i64 n
def Tracker.cells (t : Tracker) : List Value := [.string t.name, .int .i64 t.x, .int .i64 t.y, .int .i64 t.error, .int .i64 t.grow, .int .i64 t.late]
def Plot.cells (p : Plot) : List Value := [.int .i64 p.tracker, .int .i64 p.tick, .int .i64 p.x, .int .i64 p.y, .int .i64 p.z]
def Span.cells (s : Span) : List Value := [.int .i64 s.lo, .int .i64 s.hi]

def trZ : Tracker := ⟨ByteArray.empty, 0, 0, 0, 0, 0⟩
def plZ : Plot := ⟨0, 0, 0, 0, 0⟩
def Task.tr (t : Task) (i : Nat) : Tracker := t.trackers.getD i trZ
def Task.pl (t : Task) (i : Nat) : Plot := t.plots.getD i plZ

/-! ### slices in memory -/

/-- v is a slice whose elements, of size cells each, read els. -/
structure SliceR (w : World) (size : Nat) (v : Value) (els : List (List Value)) : Prop where
  ex : ∃ a cap, v = .slice a els.length cap ∧ els.length ≤ cap ∧ ∀ i e, els[i]? = some e → ∃ b, a = some b ∧ cellsAt w (b.add (i * size)) e

theorem SliceR.ext {w w' : World} {size : Nat} {v : Value} {els : List (List Value)} (h : SliceR w size v els) (he : Ext w w') : SliceR w' size v els := by
  obtain ⟨a, cap, hv, hl, hc⟩ := h.ex
  exact ⟨a, cap, hv, hl, fun i e hi => let ⟨b, hb, hcb⟩ := hc i e hi; ⟨b, hb, he.cells hcb⟩⟩

theorem SliceR.good {w0 w : World} {H : Heap} {size : Nat} {v : Value} {els : List (List Value)} (h : SliceR w0 size v els) (hg : Vc.Good w0 [] H w) : SliceR w size v els := h.ext hg.toExt

theorem own_ints {w : World} {b n cap ty : Nat} {fr : Nat × Nat} {l : List Int} (h : w.heap[b]? = some (.cells (l.map fun n => Value.int .i64 n).toArray ty fr)) (hn : n = l.length) (hc : n ≤ cap) :
    SliceR w 1 (.slice (some ⟨b, 0, none⟩) n cap) (l.map fun n => [Value.int .i64 n]) := by
  subst hn
  refine ⟨some ⟨b, 0, none⟩, cap, by simp, by simpa using hc, fun i e hi => ⟨_, rfl, fun j v hj => ?_⟩⟩
  simp only [List.getElem?_map] at hi
  cases hl : l[i]? with
  | none => simp [hl] at hi
  | some x =>
    rw [hl] at hi
    simp only [Option.map_some, Option.some.injEq] at hi
    subst hi
    cases j with
    | succ j => simp at hj
    | zero =>
      simp only [List.getElem?_cons_zero, Option.some.injEq] at hj
      subst hj
      rw [add_none, add_none, own_cell h]
      simp [hl]

theorem SliceR.take {w : World} {size : Nat} {a : Option Addr} {n cap k : Nat} {els : List (List Value)} (h : SliceR w size (.slice a n cap) els) (hk : k ≤ els.length) : SliceR w size (.slice a k cap) (els.take k) := by
  obtain ⟨a', cap', hv, hl, hc⟩ := h.ex
  injection hv with h1 h2 h3
  subst h1 h2 h3
  refine ⟨a, cap, by simp; omega, by simp; omega, fun i e hi => hc i e ?_⟩
  rw [List.getElem?_take] at hi
  split at hi
  · exact hi
  cases hi

theorem SliceR.takeM {α : Type} {w : World} {size : Nat} {a : Option Addr} {n cap k : Nat} {l : List α} {f : α → List Value} (h : SliceR w size (.slice a n cap) (l.map f)) (hk : k ≤ l.length) : SliceR w size (.slice a k cap) ((l.take k).map f) := by
  have := h.take (k := k) (by rw [List.length_map]; exact hk)
  rwa [← List.map_take] at this

structure TaskR (w : World) (v : Value) (t : Task) : Prop where
  names : ∀ x ∈ t.trackers, (x.name.size : Int) ≤ 9223372036854775807
  ltr : (t.trackers.length : Int) ≤ 9223372036854775807
  lpl : (t.plots.length : Int) ≤ 9223372036854775807
  ex : ∃ tv pv, v = .agg #[.int .i64 t.frm, .int .i64 t.speed, .int .i64 t.accel, tv, pv] ∧ SliceR w 6 tv (t.trackers.map Tracker.cells) ∧ SliceR w 5 pv (t.plots.map Plot.cells)

theorem TaskR.ext {w w' : World} {v : Value} {t : Task} (h : TaskR w v t) (he : Ext w w') : TaskR w' v t := by
  obtain ⟨tv, pv, hv, h1, h2⟩ := h.ex
  exact ⟨h.names, h.ltr, h.lpl, tv, pv, hv, h1.ext he, h2.ext he⟩

theorem TaskR.good {w0 w : World} {H : Heap} {v : Value} {t : Task} (h : TaskR w0 v t) (hg : Vc.Good w0 [] H w) : TaskR w v t := h.ext hg.toExt

theorem TaskR.name {w : World} {v : Value} {t : Task} (h : TaskR w v t) (i : Nat) : ((t.tr i).name.size : Int) ≤ 9223372036854775807 := by
  rw [Task.tr, List.getD_eq_getElem?_getD]
  cases hx : t.trackers[i]? with
  | none => exact (by decide : ((ByteArray.empty.size : Nat) : Int) ≤ 9223372036854775807)
  | some x => exact h.names x (List.mem_of_getElem? hx)

/-! ### the checks -/

def oP (n lo hi : Int) : Bool := decide (n < lo) || decide (hi < n)

theorem oP_false {n lo hi : Int} : oP n lo hi = false ↔ lo ≤ n ∧ n ≤ hi := by simp [oP]

/-- the first index that meets p; -1: none -/
def firstIdx (p : Nat → Bool) : Nat → Nat → Int
  | _, 0 => -1
  | k, n + 1 => bif p k then k else firstIdx p (k + 1) n

theorem firstIdx_of {p : Nat → Bool} {n : Nat} : ∀ (m k : Nat), k + m = n → (firstIdx p k m = -1 ∧ ∀ i, k ≤ i → i < n → p i = false) ∨ ∃ i, k ≤ i ∧ i < n ∧ firstIdx p k m = i ∧ p i = true ∧ ∀ j, k ≤ j → j < i → p j = false := by
  intro m
  induction m with
  | zero => intro k h; exact .inl ⟨rfl, fun i h1 h2 => by omega⟩
  | succ m ih =>
    intro k h
    simp only [firstIdx]
    cases hp : p k with
    | true => exact .inr ⟨k, by omega, by omega, rfl, hp, fun j h1 h2 => by omega⟩
    | false =>
      rcases ih (k + 1) (by omega) with ⟨h1, h2⟩ | ⟨i, h1, h2, h3, h4, h5⟩
      · refine .inl ⟨h1, fun i hi hn => ?_⟩
        by_cases e : i = k
        · rw [e]; exact hp
        exact h2 i (by omega) hn
      refine .inr ⟨i, by omega, h2, h3, h4, fun j hj hi => ?_⟩
      by_cases e : j = k
      · rw [e]; exact hp
      exact h5 j (by omega) hi

theorem firstIdx_hit {p : Nat → Bool} {n k : Nat} (hk : k < n) (hp : p k = true) (hb : ∀ j, j < k → p j = false) : firstIdx p 0 n = k := by
  rcases firstIdx_of (p := p) (n := n) n 0 (by omega) with ⟨_, h⟩ | ⟨i, _, h2, h3, h4, h5⟩
  · rw [h k (by omega) hk] at hp; cases hp
  rw [h3]
  rcases Nat.lt_trichotomy i k with h | h | h
  · rw [hb i h] at h4; cases h4
  · rw [h]
  rw [h5 k (by omega) h] at hp; cases hp

theorem firstIdx_none {p : Nat → Bool} {n : Nat} (hb : ∀ j, j < n → p j = false) : firstIdx p 0 n = -1 := by
  rcases firstIdx_of (p := p) (n := n) n 0 (by omega) with ⟨h, _⟩ | ⟨i, _, h2, _, h4, _⟩
  · exact h
  rw [hb i h2] at h4; cases h4

def anyIdx (p : Nat → Bool) (n : Nat) : Bool := (List.range n).any p

theorem firstIdx_any (p : Nat → Bool) (n : Nat) : decide (0 ≤ firstIdx p 0 n) = anyIdx p n := by
  rw [Bool.eq_iff_iff]
  simp only [decide_eq_true_eq, anyIdx, List.any_eq_true, List.mem_range]
  rcases firstIdx_of (p := p) (n := n) n 0 (by omega) with ⟨h, h1⟩ | ⟨i, _, h2, h3, h4, _⟩
  · rw [h]
    constructor
    · intro h; omega
    rintro ⟨i, hi, hp⟩; rw [h1 i (by omega) hi] at hp; cases hp
  rw [h3]; exact ⟨fun _ => ⟨i, h2, h4⟩, fun _ => by omega⟩

theorem anyIdx_list {α : Type} (p : α → Bool) (d : α) (l : List α) : anyIdx (fun i => p (l.getD i d)) l.length = l.any p := by
  rw [Bool.eq_iff_iff]
  simp only [anyIdx, List.any_eq_true, List.mem_range]
  constructor
  · rintro ⟨i, hi, hp⟩
    refine ⟨l.getD i d, ?_, hp⟩
    rw [List.getD_eq_getElem?_getD, List.getElem?_eq_getElem hi]
    exact List.getElem_mem hi
  rintro ⟨x, hx, hp⟩
  obtain ⟨i, hi, e⟩ := List.getElem_of_mem hx
  refine ⟨i, hi, ?_⟩
  rw [List.getD_eq_getElem?_getD, List.getElem?_eq_getElem hi]
  simpa [e] using hp

theorem anyIdx_take {α : Type} (p : α → Bool) (d : α) (l : List α) (i : Nat) (h : i ≤ l.length) : (l.take i).any p = anyIdx (fun j => p (l.getD j d)) i := by
  rw [← anyIdx_list p d (l.take i)]
  have hlen : (l.take i).length = i := by simp; omega
  rw [hlen, Bool.eq_iff_iff]
  simp only [anyIdx, List.any_eq_true, List.mem_range]
  constructor
  · rintro ⟨j, hj, hp⟩; exact ⟨j, hj, by simpa [List.getD_eq_getElem?_getD, List.getElem?_take, hj] using hp⟩
  rintro ⟨j, hj, hp⟩; exact ⟨j, hj, by simpa [List.getD_eq_getElem?_getD, List.getElem?_take, hj] using hp⟩

def small (c : Int) : Bool := decide (97 ≤ c) && decide (c ≤ 122)
def nameC (s : ByteArray) (i : Nat) : Bool := small (byteAt s i) || (decide (i ≠ 0) && (decide (byteAt s i = 45) || (decide (48 ≤ byteAt s i) && decide (byteAt s i ≤ 57))))
def nameOk (s : ByteArray) : Bool := decide (1 ≤ s.size) && decide (s.size ≤ 24) && (List.range s.size).all (nameC s)

theorem bytes_at {s : ByteArray} {k : Int} {pad : List Value} (h : 0 ≤ k ∧ k < s.size) : (bytesV s ++ pad).toArray.toList[0 + k.toNat * 1]? = some (.int .u8 (byteAt s k.toNat)) := by
  have hlt : k.toNat < s.data.toList.length := by rw [Array.length_toList]; exact (by omega : k.toNat < s.size)
  have : (bytesV s)[k.toNat]? = some (.int .u8 (byteAt s k.toNat)) := by
    simp only [bytesV, byteAt, List.getElem?_map, List.getD_eq_getElem?_getD]
    rw [List.getElem?_eq_getElem hlt]
    rfl
  simp only [Nat.zero_add, Nat.mul_one]
  rw [List.getElem?_append_left (by rw [bytesV, List.length_map]; exact hlt)]
  exact this

theorem nameOk_bad {s : ByteArray} {k : Nat} (hk : k < s.size) (h : nameC s k = false) : nameOk s = false := by
  rw [← Bool.not_eq_true]
  intro hh
  simp only [nameOk, Bool.and_eq_true, List.all_eq_true, List.mem_range] at hh
  rw [hh.2 k hk] at h; cases h
theorem nameOk_end {s : ByteArray} (h : ∀ j, j < s.size → nameC s j = true) : nameOk s = !(oP s.size 1 24) := by
  rw [Bool.eq_iff_iff]
  simp only [nameOk, Bool.and_eq_true, List.all_eq_true, List.mem_range, decide_eq_true_eq, Bool.not_eq_true', oP_false]
  constructor
  · rintro ⟨⟨h1, h2⟩, _⟩; omega
  intro hh; exact ⟨⟨by omega, by omega⟩, h⟩

/-- the first index with an error, and the error -/
def firstErr (f : Nat → Int) : Nat → Nat → Option (Nat × Int)
  | _, 0 => none
  | k, n + 1 => if f k ≠ 0 then some (k, f k) else firstErr f (k + 1) n

theorem firstErr_of {f : Nat → Int} {n : Nat} : ∀ (m k : Nat), k + m = n → (firstErr f k m = none ∧ ∀ i, k ≤ i → i < n → f i = 0) ∨ ∃ i, k ≤ i ∧ i < n ∧ firstErr f k m = some (i, f i) ∧ f i ≠ 0 ∧ ∀ j, k ≤ j → j < i → f j = 0 := by
  intro m
  induction m with
  | zero => intro k h; exact .inl ⟨rfl, fun i h1 h2 => by omega⟩
  | succ m ih =>
    intro k h
    simp only [firstErr]
    by_cases hp : f k = 0
    · rw [if_neg (by simp [hp])]
      rcases ih (k + 1) (by omega) with ⟨h1, h2⟩ | ⟨i, h1, h2, h3, h4, h5⟩
      · refine .inl ⟨h1, fun i hi hn => ?_⟩
        by_cases e : i = k
        · rw [e]; exact hp
        exact h2 i (by omega) hn
      refine .inr ⟨i, by omega, h2, h3, h4, fun j hj hi => ?_⟩
      by_cases e : j = k
      · rw [e]; exact hp
      exact h5 j (by omega) hi
    rw [if_pos hp]; exact .inr ⟨k, by omega, by omega, rfl, hp, fun j h1 h2 => by omega⟩

theorem firstErr_hit {f : Nat → Int} {n k : Nat} (hk : k < n) (hp : f k ≠ 0) (hb : ∀ j, j < k → f j = 0) : firstErr f 0 n = some (k, f k) := by
  rcases firstErr_of (f := f) (n := n) n 0 (by omega) with ⟨_, h⟩ | ⟨i, _, h2, h3, h4, h5⟩
  · exact absurd (h k (by omega) hk) hp
  rw [h3]
  rcases Nat.lt_trichotomy i k with h | h | h
  · exact absurd (hb i h) h4
  · rw [h]
  exact absurd (h5 k (by omega) h) hp

theorem firstErr_none {f : Nat → Int} {n : Nat} (hb : ∀ j, j < n → f j = 0) : firstErr f 0 n = none := by
  rcases firstErr_of (f := f) (n := n) n 0 (by omega) with ⟨h, _⟩ | ⟨i, _, h2, _, h4, _⟩
  · exact h
  exact absurd (hb i h2) h4

def seenB (t : Task) (k : Nat) (a b : Int) : Bool := anyIdx (fun j => decide ((t.pl j).tracker = a) && decide ((t.pl j).tick = b)) k
def dupB (t : Task) (i : Nat) : Bool := anyIdx (fun j => decide ((t.tr j).name = (t.tr i).name)) i
def trOut (x : Tracker) : Bool := oP x.x (-100000000) 100000000 || oP x.y (-100000000) 100000000 || oP x.error 0 10000000 || oP x.grow 0 10000 || oP x.late 0 600
def errTr (t : Task) (i : Nat) : Int :=
  if nameOk (t.tr i).name = false then 6 else if dupB t i = true then 5 else if trOut (t.tr i) = true then 7 else 0
def plOut (t : Task) (x : Plot) : Bool := oP x.tick t.frm 100000 || (oP x.x (-2000000000) 2000000000 || (oP x.y (-2000000000) 2000000000 || oP x.z (-2000000000) 2000000000))
def errPl (t : Task) (i : Nat) : Int :=
  if oP (t.pl i).tracker 0 (t.trackers.length - 1) = true then 4 else if plOut t (t.pl i) = true then 7
  else if seenB t i (t.pl i).tracker (t.pl i).tick = true then 5 else 0

def checkT (t : Task) : Int × Int × Int :=
  if t.trackers.length > 5 ∨ t.plots.length > 60 then (1, 0, 3)
  else if oP t.frm 0 100000 = true ∨ oP t.speed 1 1000000 = true ∨ oP t.accel 1 1000000 = true then (1, 0, 7)
  else match firstErr (errTr t) 0 t.trackers.length with
    | some (i, e) => (2, i, e)
    | none => match firstErr (errPl t) 0 t.plots.length with
      | some (i, e) => (3, i, e)
      | none => (0, 0, 0)

section
variable {t : Task}
theorem seenB_hit {i k : Nat} {a b : Int} (hk : k < i) (h : (t.pl k).tracker = a) (h2 : (t.pl k).tick = b) : seenB t i a b = true := by
  simp only [seenB, anyIdx, List.any_eq_true, List.mem_range, Bool.and_eq_true, decide_eq_true_eq]; exact ⟨k, hk, h, h2⟩
theorem seenB_none {i : Nat} {a b : Int} (h : ∀ j, j < i → ¬ ((t.pl j).tracker = a ∧ (t.pl j).tick = b)) : seenB t i a b = false := by
  rw [← Bool.not_eq_true]
  simp only [seenB, anyIdx, List.any_eq_true, List.mem_range, Bool.and_eq_true, decide_eq_true_eq]
  rintro ⟨k, hk, e⟩; exact h k hk e

theorem errTr_ok {i : Nat} (h : nameOk (t.tr i).name = true) (h2 : dupB t i = false) (h3 : trOut (t.tr i) = false) : errTr t i = 0 := by simp [errTr, h, h2, h3]
theorem errPl_ok {i : Nat} (h : oP (t.pl i).tracker 0 (t.trackers.length - 1) = false) (h2 : plOut t (t.pl i) = false) (h3 : seenB t i (t.pl i).tracker (t.pl i).tick = false) : errPl t i = 0 := by simp [errPl, h, h2, h3]

/-- The first numbers of a task are good. -/
structure Head (t : Task) : Prop where
  h1 : t.trackers.length ≤ 5
  h2 : t.plots.length ≤ 60
  h3 : oP t.frm 0 100000 = false
  h4 : oP t.speed 1 1000000 = false
  h5 : oP t.accel 1 1000000 = false

theorem checkT_head (h : Head t) : checkT t = match firstErr (errTr t) 0 t.trackers.length with
    | some (i, e) => (2, (i : Int), e)
    | none => match firstErr (errPl t) 0 t.plots.length with
      | some (i, e) => (3, (i : Int), e)
      | none => (0, 0, 0) := by
  have h1 := h.h1
  have h2 := h.h2
  rw [checkT, if_neg (by omega), if_neg (by simp [h.h3, h.h4, h.h5])]

theorem checkT_ok (h : Head t) (htr : ∀ j : Nat, j < t.trackers.length → errTr t j = 0) (hpl : ∀ j : Nat, j < t.plots.length → errPl t j = 0) : checkT t = (0, 0, 0) := by
  rw [checkT_head h, firstErr_none htr, firstErr_none hpl]

def askedT (t : Task) (l : List Int) : Int := if (checkT t).2.2 = 0 ∧ (l.any fun n => oP n 0 100000) = true then 7 else (checkT t).2.2

/-- A good task. -/
structure GoodT (t : Task) : Prop extends Head t where
  tr : ∀ j : Nat, j < t.trackers.length → errTr t j = 0
  pl : ∀ j : Nat, j < t.plots.length → errPl t j = 0

end

/-! ### the keys that were seen -/

abbrev Task.obj (t : Task) (tv pv : Value) (ty : Nat) : Obj := .cells #[.int .i64 t.frm, .int .i64 t.speed, .int .i64 t.accel, tv, pv] ty

theorem getD_cells {α : Type} {f : α → List Value} {l : List α} {i : Nat} {d : α} (h : i < l.length) : (l.map f)[i]? = some (f (l.getD i d)) := by
  simp [h]

end Go.Tk

/- The plain part of layer 5: rooms, boxes. -/
set_option linter.all false
namespace Go.Tk
open Go.Vc

def apartI (a b : Int) : Int := max (a - b) (b - a)
def partI (x : Plot) (k : Int) : Int := if k = 0 then x.x else if k = 1 then x.y else x.z
def Task.trOf (t : Task) (i : Nat) : Tracker := t.tr (t.pl i).tracker.toNat
def farT (t : Task) (i : Nat) : Int := max (max (apartI (t.pl i).x (t.trOf i).x) (apartI (t.pl i).y (t.trOf i).y)) (apartI (t.pl i).z 0)
def widthT (t : Task) (i : Nat) : Int := (t.trOf i).error + (t.trOf i).grow * ((farT t i + 1000000 - 1).tdiv 1000000)
def capT (t : Task) (n : Int) : Int := min n (t.speed.tdiv t.accel)
def reachT (t : Task) (n : Int) : Int := t.accel * ((capT t n * (capT t n + 1)).tdiv 2) + (n - capT t n) * t.speed

def Span.none (s : Span) : Bool := decide (s.hi < s.lo)
def common (a b : Span) : Span := ⟨max a.lo b.lo, min a.hi b.hi⟩
def aroundS (n d : Int) : Span := ⟨n - d, n + d⟩
def room0 (m : Int) : Span := ⟨-m, m⟩
def slackT (t : Task) (u : Int) (i : Nat) : Int := widthT t i + t.speed * apartI (t.pl i).tick u
def plotS (t : Task) (k u : Int) (i : Int) : Span := aroundS (partI (t.pl i.toNat) k) (slackT t u i.toNat)
def placeN (t : Task) (ps : List Int) (k u : Int) : Span := ps.foldl (fun s i => common s (plotS t k u i)) (room0 (min 2000000000 (reachT t (u - t.frm))))
def placeT (t : Task) (ps : List Int) (k u : Int) : Span := if u - t.frm > 0 then placeN t ps k u else ⟨0, 0⟩

def goneS (s : Span) (lo hi j : Int) : Span := ⟨max s.lo (-((-lo) / j)), min s.hi (hi / j)⟩
def moreB (t : Task) (j : Int) : Int := t.accel * ((j * (j + 1)).tdiv 2)
def moreF (t : Task) (j : Int) : Int := t.accel * ((j * (j - 1)).tdiv 2)
def fastB (t : Task) (ps : List Int) (k u j : Int) (s : Span) : Option Span :=
  if t.frm ≤ u - j then
    if (placeT t ps k (u - j)).none then none else some (goneS s ((placeT t ps k u).lo - (placeT t ps k (u - j)).hi - moreB t j) ((placeT t ps k u).hi - (placeT t ps k (u - j)).lo + moreB t j) j)
  else some s
def fastF (t : Task) (ps : List Int) (k u j : Int) (s : Span) : Option Span :=
  if u + j ≤ 100000 then
    if (placeT t ps k (u + j)).none then none else some (goneS s ((placeT t ps k (u + j)).lo - (placeT t ps k u).hi - moreF t j) ((placeT t ps k (u + j)).hi - (placeT t ps k u).lo + moreF t j) j)
  else some s
def fastN (t : Task) (ps : List Int) (k u : Int) : Nat → Option Span
  | 0 => some (room0 (min t.speed (t.accel * (u - t.frm + 1))))
  | n + 1 => ((fastN t ps k u n).bind (fastB t ps k u (n + 1))).bind (fastF t ps k u (n + 1))
def fastT (t : Task) (ps : List Int) (k u : Int) : Option Span :=
  if u < t.frm then some ⟨0, 0⟩ else (fastN t ps k u 8).bind fun s => if s.none then none else some s

def partT (t : Task) (ps : List Int) (k u : Int) : Option (Span × Span) :=
  (fastT t ps k u).bind fun v => if (placeT t ps k u).none then none else some (placeT t ps k u, v)
def boxT (t : Task) (ps : List Int) (u : Int) : Option Box :=
  (partT t ps 0 u).bind fun a => (partT t ps 1 u).bind fun b => (partT t ps 2 u).bind fun c => some ⟨u, a.1, b.1, c.1, a.2, b.2, c.2⟩

def knownB (t : Task) (now : Int) (i : Nat) : Bool := decide ((t.pl i).tick + (t.trOf i).late ≤ now)
def knownN (t : Task) (now : Int) (n : Nat) : List Int := ((List.range n).filter (knownB t now)).map Int.ofNat
def byN (t : Task) (now : Int) (want : Int → Bool) (n : Nat) : List Int := (knownN t now n).filter fun i => want (t.pl i.toNat).tracker
def byT (t : Task) (now : Int) (want : Int → Bool) : List Int := byN t now want t.plots.length

/-! ### step by step -/

theorem fastB_skip {t : Task} {ps : List Int} {k u j : Int} {s : Span} (h : ¬ t.frm ≤ u - j) : fastB t ps k u j s = some s := if_neg h
theorem fastF_skip {t : Task} {ps : List Int} {k u j : Int} {s : Span} (h : ¬ u + j ≤ 100000) : fastF t ps k u j s = some s := if_neg h
def sB (t : Task) (ps : List Int) (k u j : Int) (s : Span) : Span := goneS s ((placeT t ps k u).lo - (placeT t ps k (u - j)).hi - moreB t j) ((placeT t ps k u).hi - (placeT t ps k (u - j)).lo + moreB t j) j
def sF (t : Task) (ps : List Int) (k u j : Int) (s : Span) : Span := goneS s ((placeT t ps k (u + j)).lo - (placeT t ps k u).hi - moreF t j) ((placeT t ps k (u + j)).hi - (placeT t ps k u).lo + moreF t j) j
theorem fastB_go {t : Task} {ps : List Int} {k u j : Int} {s : Span} (h : t.frm ≤ u - j) (hn : (placeT t ps k (u - j)).none = false) : fastB t ps k u j s = some (sB t ps k u j s) := by rw [fastB, if_pos h, hn]; rfl
theorem fastF_go {t : Task} {ps : List Int} {k u j : Int} {s : Span} (h : u + j ≤ 100000) (hn : (placeT t ps k (u + j)).none = false) : fastF t ps k u j s = some (sF t ps k u j s) := by rw [fastF, if_pos h, hn]; rfl
theorem fastT_end {t : Task} {ps : List Int} {k u : Int} {s : Span} (hu : t.frm ≤ u) (h : fastN t ps k u 8 = some s) : fastT t ps k u = if s.none then none else some s := by
  rw [fastT, if_neg (by omega), h]; rfl

theorem partT_some {t : Task} {ps : List Int} {k u : Int} {v : Span} (h : fastT t ps k u = some v) (h2 : (placeT t ps k u).none = false) : partT t ps k u = some (placeT t ps k u, v) := by rw [partT, h]; simp [h2]
theorem boxT_3 {t : Task} {ps : List Int} {u : Int} {a b c : Span × Span} (h : partT t ps 0 u = some a) (h1 : partT t ps 1 u = some b) (h2 : partT t ps 2 u = some c) : boxT t ps u = some ⟨u, a.1, b.1, c.1, a.2, b.2, c.2⟩ := by
  rw [boxT, h, Option.bind_some, h1, Option.bind_some, h2]; rfl

theorem getD_mem {l : List Int} {j : Nat} {d : Int} (h : j < l.length) : l.getD j d ∈ l := by
  rw [List.getD_eq_getElem?_getD, List.getElem?_eq_getElem h]; exact List.getElem_mem h
/-! ### how great the numbers are -/

theorem oP_in {n lo hi : Int} (h : oP n lo hi = false) : lo ≤ n ∧ n ≤ hi := oP_false.1 h

structure PlotB (t : Task) (i : Nat) : Prop where
  tr0 : 0 ≤ (t.pl i).tracker
  tr1 : (t.pl i).tracker < t.trackers.length
  tick : t.frm ≤ (t.pl i).tick ∧ (t.pl i).tick ≤ 100000
  x : -2000000000 ≤ (t.pl i).x ∧ (t.pl i).x ≤ 2000000000
  y : -2000000000 ≤ (t.pl i).y ∧ (t.pl i).y ≤ 2000000000
  z : -2000000000 ≤ (t.pl i).z ∧ (t.pl i).z ≤ 2000000000

structure TrB (r : Tracker) : Prop where
  x : -100000000 ≤ r.x ∧ r.x ≤ 100000000
  y : -100000000 ≤ r.y ∧ r.y ≤ 100000000
  error : 0 ≤ r.error ∧ r.error ≤ 10000000
  grow : 0 ≤ r.grow ∧ r.grow ≤ 10000
  late : 0 ≤ r.late ∧ r.late ≤ 600

section
variable {t : Task}
theorem errPl_zero {i : Nat} (h : errPl t i = 0) : oP (t.pl i).tracker 0 (t.trackers.length - 1) = false ∧ plOut t (t.pl i) = false ∧ seenB t i (t.pl i).tracker (t.pl i).tick = false := by
  unfold errPl at h
  cases h1 : oP (t.pl i).tracker 0 (t.trackers.length - 1)
  · cases h2 : plOut t (t.pl i)
    · cases h3 : seenB t i (t.pl i).tracker (t.pl i).tick
      · exact ⟨rfl, rfl, rfl⟩
      simp [h1, h2, h3] at h
    simp [h1, h2] at h
  simp [h1] at h
theorem errTr_zero {i : Nat} (h : errTr t i = 0) : nameOk (t.tr i).name = true ∧ dupB t i = false ∧ trOut (t.tr i) = false := by
  unfold errTr at h
  cases h1 : nameOk (t.tr i).name
  · simp [h1] at h
  cases h2 : dupB t i
  · cases h3 : trOut (t.tr i)
    · exact ⟨rfl, rfl, rfl⟩
    simp [h1, h2, h3] at h
  simp [h1, h2] at h

theorem GoodT.plot (h : GoodT t) {i : Nat} (hi : i < t.plots.length) : PlotB t i := by
  obtain ⟨h1, h2, _⟩ := errPl_zero (h.pl i hi)
  simp only [plOut, Bool.or_eq_false_iff] at h2
  obtain ⟨h3, h4, h5, h6⟩ := h2
  have := oP_in h1
  exact ⟨by omega, by omega, oP_in h3, oP_in h4, oP_in h5, oP_in h6⟩
theorem GoodT.track (h : GoodT t) {i : Nat} (hi : i < t.trackers.length) : TrB (t.tr i) := by
  obtain ⟨_, _, h3⟩ := errTr_zero (h.tr i hi)
  simp only [trOut, Bool.or_eq_false_iff] at h3
  obtain ⟨⟨⟨⟨a, b⟩, c⟩, d⟩, e⟩ := h3
  exact ⟨oP_in a, oP_in b, oP_in c, oP_in d, oP_in e⟩
theorem GoodT.of (h : GoodT t) {i : Nat} (hi : i < t.plots.length) : TrB (t.trOf i) := h.track (by have p := h.plot hi; have := p.tr0; have := p.tr1; omega)
theorem GoodT.nums (h : GoodT t) : (0 ≤ t.frm ∧ t.frm ≤ 100000) ∧ (1 ≤ t.speed ∧ t.speed ≤ 1000000) ∧ (1 ≤ t.accel ∧ t.accel ≤ 1000000) := ⟨oP_in h.h3, oP_in h.h4, oP_in h.h5⟩

theorem mul_bnd {a b A B : Int} (ha : 0 ≤ a ∧ a ≤ A) (hb : 0 ≤ b ∧ b ≤ B) : 0 ≤ a * b ∧ a * b ≤ A * B :=
  ⟨Int.mul_nonneg ha.1 hb.1, Int.mul_le_mul ha.2 hb.2 hb.1 (Int.le_trans ha.1 ha.2)⟩

theorem far_bnd (h : GoodT t) {i : Nat} (hi : i < t.plots.length) : 0 ≤ farT t i ∧ farT t i ≤ 2100000000 := by
  have p := h.plot hi
  have q := h.of hi
  have := p.x; have := p.y; have := p.z; have := q.x; have := q.y
  unfold farT apartI
  omega
theorem km_bnd (h : GoodT t) {i : Nat} (hi : i < t.plots.length) : 0 ≤ (farT t i + 1000000 - 1).tdiv 1000000 ∧ (farT t i + 1000000 - 1).tdiv 1000000 ≤ 2101 := by
  have := far_bnd h hi
  rw [Int.tdiv_eq_ediv_of_nonneg (by omega)]
  omega
theorem grow_bnd (h : GoodT t) {i : Nat} (hi : i < t.plots.length) : 0 ≤ (t.trOf i).grow * ((farT t i + 1000000 - 1).tdiv 1000000) ∧ (t.trOf i).grow * ((farT t i + 1000000 - 1).tdiv 1000000) ≤ 21010000 := by
  have := mul_bnd (h.of hi).grow (km_bnd h hi)
  omega
def SpanB (B : Int) (s : Span) : Prop := (-B ≤ s.lo ∧ s.lo ≤ B) ∧ (-B ≤ s.hi ∧ s.hi ≤ B)

end

end Go.Tk
