/- Ranges over functions. -/
import Derived.Test.YtclbbchehjapjabVcG
set_option linter.all false
namespace Go.Vc

def rdy (r : Loop) : Obj := .loop { r with state := .ready, pending := none }
def bsy (r : Loop) : Obj := .loop { r with state := .busy, pending := none }
def dne (r : Loop) (c : Code) : Obj := .loop { r with state := .done, pending := some c }

/-- Behind the assignments to the left sides: the round begins; its body. -/
def AsgQ (X : Cx) (l : Nat) (r : Loop) (body : Code) (Q2 : Post) : Post := fun e ρ ds H => match e with
  | .normal => ∃ H', SetAt H l (rdy r) (bsy r) H' ∧ V X body ρ ds H' Q2
  | _ => False

/-- The round's end: it goes on. -/
def EndQ (l : Nat) (r : Loop) (K : Heap → Prop) : Post := fun e _ _ H => match e with
  | .normal => ∃ H', SetAt H l (bsy r) (rdy r) H' ∧ K H'
  | _ => False

def bindP : List Nat → List Value → PEnv → PEnv
  | t :: ts, v :: vs, ρ => bindP ts vs ((t, v) :: ρ)
  | _, _, ρ => ρ

theorem agr_bind {n : Nat} : ∀ (ts : List Nat) (vs : List Value) {ρ : PEnv} {tmps : Array Value}, (∀ t ∈ ts, t < n) → Agr n ρ [] { tmps := tmps, defers := [] } →
    Agr n (bindP ts vs ρ) [] { tmps := (ts.zip vs).foldl (fun tmps (p : Nat × Value) => tmps.setIfInBounds p.1 p.2) tmps, defers := [] } := by
  intro ts
  induction ts with
  | nil => intro vs ρ tmps _ h; simpa [bindP] using h
  | cons t ts ih =>
    intro vs ρ tmps ht h
    cases vs with
    | nil => simpa [bindP] using h
    | cons v vs =>
      simp only [bindP, List.zip_cons_cons, List.foldl_cons]
      exact ih vs (fun t ht' => ht t (.tail _ ht')) (h.put (d := some t) (fun t' e => by injection e with e; rw [← e]; exact ht t (.head _)) v)

/-- A call of yield, from outside: it asks for a round that goes on. -/
def RoundOk (P : Program) (w0 : World) (M : List Nat) (l : Nat) (Pre : List (List Value) → List Value → Prop) (I : List (List Value) → Heap → Prop) : Prop :=
  ∀ done vs Hs own w, Pre done vs → I done Hs → Good w0 M (Hs ++ own) w → ∃ f tmps assign body, (Instr.yield l vs.toArray).run P w = .ok (.round l f tmps assign body) w ∧
    RoundIn (FW none) 0 P l f tmps assign body w fun e w' => ∃ Hs', e = .returned (.bool true) ∧ Good w0 M (Hs' ++ own) w' ∧ I (done ++ [vs]) Hs'

section
variable {X : Cx} {ρ : PEnv} {ds : List Deferred} {H : Heap} {Q : Post} {o : Oper}

theorem w_yield {fo : Operand} {as : Array Operand} {tys : Array TypeId} {l : Nat} {vs : List Value} {Pre : List (List Value) → List Value → Prop} {I : List (List Value) → Heap → Prop} {done : List (List Value)} {Hs own : Heap}
    (ho : o.op = .call { callee := .value fo, args := as, argTypes := tys }) (hf : ρ.ev fo = some (.func (.yield l) #[] #[])) (hv : evL ρ as.toList = some vs) (hY : RoundOk X.P X.w0 X.M l Pre I) (hpre : Pre done vs) (hI : I done Hs)
    (hH : H = own ++ Hs) : WrA X ρ H o fun v H' => ∃ Hs', v = .bool true ∧ H' = own ++ Hs' ∧ I (done ++ [vs]) Hs' := by
  subst hH
  refine ⟨fun c hc => (by rw [ho] at hc; cases hc), fun a w he hg => ?_⟩
  obtain ⟨f, tmps, assign, body, hrun, hround⟩ := hY done vs Hs own w hpre hI (hg.perm List.perm_append_comm)
  have hargs : as.map a.eval = vs.toArray := Array.toList_inj.1 (by simp [evL_map he hv])
  have hex : (execOp a.eval o).run X.P w = .ok (.round l f tmps assign body) w := by
    simp only [execOp, ho, resolve, he _ _ hf, hargs, Deferred.ofValue, Sem.run_bind, Sem.run_pure, Result.andThen_ok, invoke, Array.empty_append, hrun]
  rw [hex]
  refine ⟨fun hd => (by simp [FW, Fence.wide] at hd), RoundIn.mono (hround : RoundIn (FW X.r) 0 X.P l f tmps assign body w _) ?_⟩
  rintro e w' ⟨Hs', rfl, hg', hI'⟩
  exact ⟨.bool true, own ++ Hs', rfl, hg'.perm List.perm_append_comm, Hs', rfl, rfl, hI'⟩

theorem getLoop_own {P : Program} {w w0 : World} {M : List Nat} {l : Nat} {r : Loop} (hg : Good w0 M H w) (h : (l, Obj.loop r) ∈ H) : w.heap[l]? = some (.loop r) := hg.own _ h

theorem roundOk_of {l : Nat} {r : Loop} {ρ0 : PEnv} {ps : Array Tmp} {Pre : List (List Value) → List Value → Prop} {I : List (List Value) → Heap → Prop} (htm : Agr X.n ρ0 [] { tmps := r.tmps, defers := [] }) (hps : r.params = ps) (hfit : ∀ t ∈ ps.toList, t < X.n)
    (hin : ∀ done Hs, I done Hs → (l, rdy r) ∈ Hs) (hlen : ∀ done vs, Pre done vs → vs.length = ps.size)
    (h : ∀ done vs Hs own, Pre done vs → I done Hs → V { X with r := some l } r.assign (bindP ps.toList vs ρ0) [] (Hs ++ own) (AsgQ { X with r := some l } l r r.body (EndQ l r fun H' => ∃ Hs', HSub (Hs' ++ own) H' ∧ I (done ++ [vs]) Hs'))) :
    RoundOk X.P X.w0 X.M l Pre I := by
  intro done vs Hs own w hpre hI hg
  have hm : (l, rdy r) ∈ Hs ++ own := List.mem_append_left _ (hin done Hs hI)
  have hl := hg.own _ hm
  refine ⟨_, _, _, _, run_yield (r := { r with state := .ready, pending := none }) hl (by simp [hlen done vs hpre, hps]), ?_⟩
  refine roundIn_of_wpIn trivial ?_
  have hag : Agr X.n (bindP ps.toList vs ρ0) [] { tmps := (r.params.zip vs.toArray).foldl (fun tmps (x : Nat × Value) => match x with | (t, a) => tmps.setIfInBounds t a) r.tmps, defers := [] } := by
    have := agr_bind ps.toList vs hfit htm
    rw [hps]
    have e : (ps.zip vs.toArray) = (ps.toList.zip vs).toArray := by apply Array.toList_inj.1; simp
    rw [e]
    simpa using this
  refine wpIn_mono (h done vs Hs own hpre hI _ w hag hg) ?_
  rintro e a₁ w₁ ⟨ρ1, ds1, H1, hag1, hg1, hq⟩
  cases e <;> first | exact hq.elim | skip
  obtain ⟨H2, hset, hbody⟩ := hq
  have hl1 : w₁.heap[l]? = some (.loop { r with state := .ready, pending := none }) := hg1.own _ hset.mem
  refine ⟨_, run_beginRound hl1 rfl, ?_⟩
  have hg2 : Good X.w0 X.M H2 (w₁.putObj l (bsy r)) := hg1.set hset rfl ⟨rfl, rfl⟩
  refine wpIn_mono (hbody a₁ _ hag1 hg2) ?_
  rintro e a₂ w₂ ⟨ρ2, ds2, H3, hag3, hg3, hq⟩
  cases e <;> first | exact hq.elim | skip
  obtain ⟨H4, hset2, Hs', hsub, hI'⟩ := hq
  have hl2 : w₂.heap[l]? = some (.loop { r with state := .busy, pending := none }) := hg3.own _ hset2.mem
  have hg4 : Good X.w0 X.M H4 (w₂.putObj l (rdy r)) := hg3.set hset2 rfl ⟨rfl, rfl⟩
  exact ⟨_, _, run_endRound none hl2, Hs', rfl, hg4.hsub hsub, hI'⟩

theorem V_range {g : Operand} {ps : Array Tmp} {assign body : Code} {f : FuncId} {cap : Array Value} {L : List (List Value)} {ks : List Nat} {ρf : PEnv} {H0 : Heap} (hr : X.r = none) (hk : Keep ρ ks ρf) (hgv : ρ.ev g = some (.func (.func f) #[] cap)) (hfit : ps.toList.all (Nat.blt · X.n) = true)
    (Pre : List (List Value) → List Value → Prop) (J : List (List Value) → Heap → Prop) (hlen : ∀ done vs, Pre done vs → vs.length = ps.size) (hsub : H0.Sublist H) (h0 : J [] H0)
    (round : ∀ l D r done vs Hr own, Pre done vs → J done Hr → V { X with r := some l } assign (bindP ps.toList vs ρf) [] ((l, rdy r) :: (D, .deferred (some [])) :: (Hr ++ own))
      (AsgQ { X with r := some l } l r body (EndQ l r fun H' => ∃ Hr', HSub ((l, rdy r) :: (D, .deferred (some [])) :: (Hr' ++ own)) H' ∧ J (done ++ [vs]) Hr')))
    (iter : ∀ l D r w, RoundOk X.P X.w0 X.M l Pre (fun done Hs => ∃ Hr, Hs = (l, rdy r) :: (D, .deferred (some [])) :: Hr ∧ J done Hr) → Good X.w0 X.M ((l, rdy r) :: (D, .deferred (some [])) :: H0) w →
      FnC X.P f (.func (.yield l) #[] #[] :: cap.toList) w fun _ w' => ∃ Hr, Good X.w0 X.M ((l, rdy r) :: (D, .deferred (some [])) :: Hr) w' ∧ J L Hr)
    (k : ∀ l D ob Hr, J L Hr → Q .normal ρf ({ target := .collected D, args := #[] } :: ds) ((l, ob) :: (D, .deferred (some [])) :: Hr)) : V X (.rangeFunc g ps assign body) ρ ds H Q := by
  intro a w ha hg
  have hg0 := hg.sub hsub
  let D := w.heap.size
  let l := w.heap.size + 1
  refine wpIn_rangeFunc fun fn _ => ?_
  let r : Loop := { state := .ready, pending := none, fn := fn, tmps := a.tmps, params := ps, assign := assign, body := body, defers := D }
  have hga : Good X.w0 X.M ((l, rdy r) :: (D, .deferred (some [])) :: H0) ((w.alloc (.deferred (some []))).alloc (.loop r)) := by
    have h1 := hg0.alloc (.deferred (some []))
    have h2 := h1.alloc (.loop r)
    have e : (w.alloc (.deferred (some []))).heap.size = w.heap.size + 1 := by simp
    rw [e] at h2
    exact h2
  have htm : Agr X.n ρf [] { tmps := r.tmps, defers := [] } := ⟨fun t v ht => (ha.sub hk.sub).at_ t v ht, ha.size, rfl⟩
  have hY : RoundOk X.P X.w0 X.M l Pre (fun done Hs => ∃ Hr, Hs = (l, rdy r) :: (D, .deferred (some [])) :: Hr ∧ J done Hr) := by
    refine roundOk_of (ps := ps) htm rfl (fun t ht => Nat.le_of_ble_eq_true (List.all_eq_true.1 hfit t ht)) ?_ hlen ?_
    · rintro done Hs ⟨Hr, rfl, _⟩; exact .head _
    · rintro done vs Hs own hp ⟨Hr, rfl, hJ⟩
      refine V.mono (round l D r done vs Hr own hp hJ) ?_
      intro e ρ1 ds1 H1 hq
      cases e <;> first | exact hq.elim | skip
      obtain ⟨H2, hs, hb⟩ := hq
      refine ⟨H2, hs, hb.mono ?_⟩
      intro e ρ2 ds2 H3 hq
      cases e <;> first | exact hq.elim | skip
      obtain ⟨H4, hs2, Hr', hh, hJ'⟩ := hq
      exact ⟨H4, hs2, _, hh, Hr', rfl, hJ'⟩
  have hc := iter l D r _ hY hga
  have hFr : (FW X.r).round = none := hr
  refine ⟨l, [{ target := .collected D, args := #[] }], (w.alloc (.deferred (some []))).alloc (.loop r), { target := .fn (.func f) cap, args := #[.func (.yield l) #[] #[]] }, (w.alloc (.deferred (some []))).alloc (.loop r), f, (.func (.yield l) #[] #[] :: cap.toList).toArray, (w.alloc (.deferred (some []))).alloc (.loop r), ?_, ?_, fun _ _ => trivial, ?_, fun hd => (by simp [FW, Fence.wide] at hd), ?_⟩
  · rw [hFr]; exact run_enterLoop_outer fn a.tmps ps assign body
  · simp only [resolve, ha.ev hgv, Deferred.ofValue]
    simp [Act.eval]
  · have e : #[Value.func (.yield l) #[] #[]] ++ cap = (.func (.yield l) #[] #[] :: cap.toList).toArray := by simp
    show (callFunc f (#[Value.func (.yield l) #[] #[]] ++ cap)).run X.P _ = _
    rw [e]; exact hc.ent _ _
  · refine callsIn_any (hc.calls.mono ?_)
    rintro e w' ⟨v, rfl, Hr, hg', hJ⟩
    have hl : w'.heap[l]? = some (.loop { r with state := .ready, pending := none }) := hg'.own _ (.head _)
    refine ⟨none, _, run_endLoop hl (by simp), ?_⟩
    refine ⟨ρf, _, _, ?_, hg'.set .head rfl ⟨rfl, rfl⟩, k l D _ Hr hJ⟩
    have h3 := ha.sub hk.sub
    exact ⟨h3.at_, h3.size, by show [({ target := .collected D, args := #[] } : Deferred)] ++ a.defers = _; rw [h3.defers]; rfl⟩

/-- 'x[i]' of an array's value, with elements of one cell -/
theorem p_at {x i : Operand} {t len el : Nat} {cs : Array Value} {k : Int} {v : Value} (hu : X.P.underlying t = some (.array len el)) (ha : tyAgg X.P el = some false) (hz : tySize X.P el = some 1) (ho : o.op = .index t x i) (hx : ρ.ev x = some (.agg cs)) (hi : ρ.ev i = some (.int .i64 k))
    (h0 : 0 ≤ k) (h1 : k < len) (hv : cs.toList[k.toNat]? = some v) : RdP X ρ o v := by
  refine ⟨fun c h => (by rw [ho] at h; cases h), fun e w he => ?_⟩
  have hv' : cs[k.toNat]? = some v := by rw [← hv]; simp
  simp [execOp, ho, he _ _ hx, he _ _ hi, Instr.index, asIntOf, run_underlying' hu, h0, h1, run_sizeOf' hz, Go.part, run_isAgg' ha, hv']

/-- the same, with elements of several cells -/
theorem p_atA {x i : Operand} {t len el n : Nat} {cs : Array Value} {k : Int} {vs : List Value} (hu : X.P.underlying t = some (.array len el)) (ha : tyAgg X.P el = some true) (hz : tySize X.P el = some n) (ho : o.op = .index t x i) (hx : ρ.ev x = some (.agg cs)) (hi : ρ.ev i = some (.int .i64 k))
    (h0 : 0 ≤ k) (h1 : k < len) (hv : (cs.toList.drop (k.toNat * n)).take n = vs) : RdP X ρ o (.agg vs.toArray) := by
  refine ⟨fun c h => (by rw [ho] at h; cases h), fun e w he => ?_⟩
  have hv' : cs.extract (k.toNat * n) (k.toNat * n + n) = vs.toArray := by
    apply Array.toList_inj.1
    rw [← hv]
    simp
  simp [execOp, ho, he _ _ hx, he _ _ hi, Instr.index, asIntOf, run_underlying' hu, h0, h1, run_sizeOf' hz, Go.part, run_isAgg' ha, hv']

/-- append, the heap taken apart -/
theorem w_app {s x : Operand} {t e size bytes n m c : Nat} {v : Value} {xs news : List Value} {pre G post : Heap} {a : Option Addr} (ht : appOf X.P t = some (e, size, bytes))
    (ho : o.op = .call { callee := .builtin .append, args := #[s, x], argTypes := #[t, t] }) (hs : ρ.ev s = some v) (hx : ρ.ev x = some (.slice a m c)) (hgr : Grow e size v n xs G) (hH : H = pre ++ (G ++ post))
    (hl : news.length = m * size) (hnews : ∀ w, Good X.w0 X.M H w → ∀ j u, news[j]? = some u → ∃ b, a = some b ∧ w.cell? (b.add j) = some u)
    (h1 : ∀ u ∈ news, u.oneCell' = true) (hb : (n + m) * bytes ≤ 140737488355328) (h63 : n + m ≤ maxLen) :
    WrA X ρ H o fun v' H' => ∃ a' cap' G', v' = .slice a' (n + m) cap' ∧ H' = pre ++ (G' ++ post) ∧ Grow e size (.slice a' (n + m) cap') (n + m) (xs ++ news) G' := by
  subst hH
  have h := w_append (HF := fun G => pre ++ (G ++ post)) ht ho hs hx hgr ⟨pre, post, fun _ => rfl⟩ hl hnews h1 hb h63
  refine ⟨h.nd, fun a w he hg => uponIn_mono ?_ (h.run a w he hg)⟩
  rintro a1 w1 ⟨v, H', h1, h2, G', h3, h4⟩
  have : ∃ a' cap', v = .slice a' (n + m) cap' := by
    generalize n + m = k at h4
    generalize xs ++ news = ys at h4
    cases h4 with
    | nil => exact ⟨_, _, rfl⟩
    | row => exact ⟨_, _, rfl⟩
  obtain ⟨a', cap', rfl⟩ := this
  exact ⟨_, H', h1, h2, a', cap', G', rfl, h3, h4⟩

theorem WrA.perm {R R' : Value → Heap → Prop} (h : WrA X ρ H o R) (hr : ∀ v H', R v H' → ∃ H'', H'.Perm H'' ∧ R' v H'') : WrA X ρ H o R' :=
  ⟨h.nd, fun a w he hg => uponIn_mono (fun a' w' ⟨v, H', h1, h2, h3⟩ => let ⟨H'', h4, h5⟩ := hr v H' h3; ⟨v, H'', h1, h2.perm h4, h5⟩) (h.run a w he hg)⟩

/-- A call that makes memory, of which part is a row that grew: it is laid behind ours. -/
theorem w_callG {fo : Operand} {as : Array Operand} {tys : Array TypeId} {f : FuncId} {cap : Array Value} {vs : List Value} {R : Value → Heap → Heap → Prop} {pre post : Heap} (ho : o.op = .call { callee := .value fo, args := as, argTypes := tys })
    (hf : ρ.ev fo = some (.func (.func f) #[] cap)) (hv : evL ρ as.toList = some vs) (hH : H = pre ++ post) (h : ∀ w, Good X.w0 X.M H w → FnC X.P f (vs ++ cap.toList) w fun v w' => ∃ Hc, Good w [] Hc w' ∧ ∃ A G, Hc = A ++ G ∧ R v A G) :
    WrA X ρ H o fun u H' => ∃ A G, H' = A ++ (pre ++ (G ++ post)) ∧ (∀ p ∈ A, X.w0.heap.size ≤ p.1) ∧ R u A G := by
  refine (w_callN ho hf hv h).perm ?_
  rintro v _ ⟨_, rfl, hfr, A, G, rfl, hR⟩
  subst hH
  refine ⟨A ++ (pre ++ (G ++ post)), ?_, A, G, rfl, fun p hp => hfr p (List.mem_append_left _ hp), hR⟩
  rw [List.append_assoc]
  refine List.Perm.append_left _ ?_
  rw [← List.append_assoc, ← List.append_assoc]
  exact List.Perm.append_right _ List.perm_append_comm

/-! ### loops, round by round -/

def LoopV (X : Cx) (c : Code) (ρ : PEnv) (ds : List Deferred) (H : Heap) (Q : Post) : Prop :=
  ∀ a w, Agr X.n ρ ds a → Good X.w0 X.M H w → ∀ (b : Frame) (k : List Item) (cs : List Frame), b.roundOf = X.r →
    ∃ e a' w', Lift X Q e a' w' ∧ ArrivesIn (Machine.fenced X.P (FW X.r)) X.P (lone (b.atR a (.code c :: .inLoop c :: k)) cs w) b k cs e a' w'

theorem V_loopU {c : Code} (h : LoopV X c ρ ds H Q) : V X (.loop c) ρ ds H Q := by
  intro a w ha hg b k cs hro hb hr
  obtain ⟨e, a', w', hq, harr⟩ := h a w ha hg b k cs hro
  exact ⟨e, a', w', hq, .of_steps (.one (fenced_calm (n := 0) (fr := b.atR a (.code (.loop c) :: k)) hb hr rfl) stepR_loop) harr⟩

theorem LU_step {c : Code} (h : V X c ρ ds H (Then (fun ρ' ds' H' => LoopV X c ρ' ds' H' Q) Q)) : LoopV X c ρ ds H Q := by
  intro a w ha hg b k cs hro
  obtain ⟨e, a₁, w₁, hq, harr⟩ := h a w ha hg b (.inLoop c :: k) cs hro trivial (FW.room _ _)
  obtain ⟨ρ', ds', H', h1, h2, h3⟩ := hq
  cases e with
  | normal =>
    obtain ⟨e₂, a₂, w₂, hq₂, harr₂⟩ := h3 a₁ w₁ h1 h2 b k cs hro
    exact ⟨e₂, a₂, w₂, hq₂, .of_steps (StepsIn.trans harr (.one (fenced_calm (n := 0) (fr := b.atR a₁ (.inLoop c :: k)) trivial (FW.room _ _) rfl) stepR_inLoop)) harr₂⟩
  | exit id => exact ⟨_, a₁, w₁, ⟨ρ', ds', H', h1, h2, h3⟩, .pass (x := .inLoop c) rfl (fun _ _ => .inl (by simp)) harr⟩
  | goto l => exact ⟨_, a₁, w₁, ⟨ρ', ds', H', h1, h2, h3⟩, .pass (x := .inLoop c) rfl (fun _ _ => .inl (by simp)) harr⟩
  | ret => exact ⟨_, a₁, w₁, ⟨ρ', ds', H', h1, h2, h3⟩, .pass (x := .inLoop c) rfl (fun _ _ => .inl (by simp)) harr⟩
  | panic ch => exact ⟨_, a₁, w₁, ⟨ρ', ds', H', h1, h2, h3⟩, .pass (x := .inLoop c) rfl (fun _ _ => .inl (by simp)) harr⟩
  | outgrown => exact ⟨_, a₁, w₁, ⟨ρ', ds', H', h1, h2, h3⟩, .pass (x := .inLoop c) rfl (fun _ _ => .inl (by simp)) harr⟩

theorem asgI {X : Cx} {l : Nat} {r : Loop} {body : Code} {Q2 : Post} {H' : Heap} (hs : SetAt H l (rdy r) (bsy r) H') (h : V X body ρ ds H' Q2) : AsgQ X l r body Q2 .normal ρ ds H := ⟨H', hs, h⟩
theorem endI {l : Nat} {r : Loop} {K : Heap → Prop} {H' : Heap} (hs : SetAt H l (bsy r) (rdy r) H') (h : K H') : EndQ l r K .normal ρ ds H := ⟨H', hs, h⟩

theorem news_own {b ty : Nat} {cur : Array Value} {fr : Nat × Nat} (hm : (b, Obj.cells cur ty fr) ∈ H) : ∀ w, Good X.w0 X.M H w → ∀ (j : Nat) u, cur.toList[j]? = some u → ∃ b', some (⟨b, 0, none⟩ : Addr) = some b' ∧ w.cell? (b'.add j) = some u := by
  intro w hg j u hj
  refine ⟨_, rfl, ?_⟩
  rw [add_none, own_cell (hg.own _ hm)]
  simpa using hj

end

/-- A function's contract, over another's memory. -/
theorem fn_bodyG {P : Program} {f : FuncId} {fn : Func} {c : Code} {args : List Value} {w0 w : World} {M : List Nat} {H0 : Heap} {n : Nat} {rs : List ResultVar} {R : Value → Heap → Prop}
    (hf : P.funcs[f]? = some fn) (hb : fn.body = some c) (hname : (fn.name == "runtime.NumGoroutine") = false) (hn : fn.ntmps = n) (hr : fn.results = rs.toArray) (hl : Nat.ble args.length n = true) (hg : Good w0 M H0 w)
    (h : V ⟨P, none, n, w0, M⟩ c (argEnv args 0) [] H0 (RetQ P rs R)) : FnC P f args w fun v w' => ∃ H, Good w0 M H w' ∧ R v H := by
  refine ⟨ent_of hf hname hb, callsIn_of_wp_marks hf hb trivial ?_⟩
  subst hn
  refine wpIn_mono (h _ w (entryAgr (Nat.le_of_ble_eq_true hl)) hg) ?_
  rintro e a w' ⟨ρ, ds, H, ha, hg', hq⟩
  cases e with
  | normal => rw [show bodyPostM (FW none) 0 P fn _ .normal a w' = LeavesInM _ _ _ _ _ _ _ _ _ from rfl, ha.defers]; exact leave_leaves hr ha hq w' hg'
  | ret => rw [show bodyPostM (FW none) 0 P fn _ .ret a w' = LeavesInM _ _ _ _ _ _ _ _ _ from rfl, ha.defers]; exact leave_leaves hr ha hq w' hg'
  | _ => exact hq.elim

end Go.Vc
