/- Joined texts. -/
import Derived.Test.YtlcccpeelombbaaGreatDoorZac
import Derived.RangeFuncIn
import Derived.RangeFuncRecord
import Derived.Laws.OwnMore
import Derived.KernelRfl
/- Joints; append; ranges over functions. -/
set_option linter.all false
namespace Go.Vc

/-! ### parts of heaps -/

theorem Good.of_sub {w0 w : World} {M : List Nat} {H H' : Heap} (h : Good w0 M H w) (hs : ∀ p ∈ H', p ∈ H) (nd : (H'.map Prod.fst).Nodup) : Good w0 M H' w :=
  ⟨h.size, h.base, fun p hp => h.own p (hs p hp), nd, fun p hp => h.out p (hs p hp), h.io⟩

theorem Good.perm {w0 w : World} {M : List Nat} {H H' : Heap} (h : Good w0 M H w) (hp : H.Perm H') : Good w0 M H' w :=
  h.of_sub (fun _ hp' => hp.mem_iff.2 hp') ((hp.map Prod.fst).nodup_iff.1 h.nd)

inductive Take : (Nat × Obj) → Heap → Heap → Prop
  | head {x : Nat × Obj} {R : Heap} : Take x (x :: R) R
  | tail {x y : Nat × Obj} {R R' : Heap} (h : Take x R R') : Take x (y :: R) (y :: R')
  | app {x : Nat × Obj} {A R R' : Heap} (h : Take x R R') : Take x (A ++ R) (A ++ R')

theorem Take.perm {x : Nat × Obj} {R R' : Heap} (h : Take x R R') : R.Perm (x :: R') := by
  induction h with
  | head => exact List.Perm.refl _
  | tail _ ih => exact (ih.cons _).trans (List.Perm.swap _ _ _)
  | app _ ih => exact (ih.append_left _).trans List.perm_middle

inductive HSub : Heap → Heap → Prop
  | refl (H : Heap) : HSub H H
  | nil (H : Heap) : HSub [] H
  | take {x : Nat × Obj} {H1 H2 H2' : Heap} (h : Take x H2 H2') (r : HSub H1 H2') : HSub (x :: H1) H2
  | drop {y : Nat × Obj} {H1 H2 : Heap} (r : HSub H1 H2) : HSub H1 (y :: H2)
  | app {A H1 H2 : Heap} (r : HSub H1 H2) : HSub H1 (A ++ H2)

theorem HSub.perm {H1 H2 : Heap} (h : HSub H1 H2) : ∃ L, H2.Perm L ∧ H1.Sublist L := by
  induction h with
  | refl H => exact ⟨H, List.Perm.refl _, List.Sublist.refl _⟩
  | nil H => exact ⟨H, List.Perm.refl _, List.nil_sublist _⟩
  | take h _ ih =>
    obtain ⟨L, h1, h2⟩ := ih
    exact ⟨_ :: L, h.perm.trans (h1.cons _), h2.cons_cons _⟩
  | drop _ ih =>
    obtain ⟨L, h1, h2⟩ := ih
    exact ⟨_ :: L, h1.cons _, h2.cons _⟩
  | app _ ih =>
    obtain ⟨L, h1, h2⟩ := ih
    exact ⟨_ ++ L, h1.append_left _, h2.trans (List.sublist_append_right _ _)⟩

theorem Good.hsub {w0 w : World} {M : List Nat} {H H' : Heap} (h : Good w0 M H w) (hp : HSub H' H) : Good w0 M H' w := by
  obtain ⟨L, h1, h2⟩ := hp.perm
  exact (h.perm h1).sub h2

/-- One block's content becomes another, by what is read. -/
theorem Good.set2 {w0 w w' : World} {M : List Nat} {H H' : Heap} {b : Nat} {o o' : Obj} (h : Good w0 M H w) (hs : SetAt H b o o' H') (hz : w.heap.size ≤ w'.heap.size) (h1 : w'.heap[b]? = some o') (h2 : ∀ k, k < w.heap.size → k ≠ b → w'.heap[k]? = w.heap[k]?) (hio : SameIO w w') : Good w0 M H' w' where
  io := h.io.trans hio
  size := Nat.le_trans h.size hz
  base := fun c hc hM => by
    have hne : c ≠ b := fun e => hM (e ▸ h.out _ hs.mem (e ▸ hc))
    rw [h2 c (Nat.lt_of_lt_of_le hc h.size) hne]; exact h.base c hc hM
  own := fun p hp => by
    rcases hs.mem' h.nd p hp with rfl | ⟨hp', hne⟩
    · exact h1
    rw [h2 p.1 (h.lt hp') hne]; exact h.own p hp'
  nd := by rw [hs.keys]; exact h.nd
  out := fun p hp hlt => by
    rcases hs.mem' h.nd p hp with rfl | ⟨hp', _⟩
    · exact (h.out (b, o) hs.mem hlt : b ∈ M)
    exact h.out p hp' hlt

theorem setAt_mid {b : Nat} {o o' : Obj} {post : Heap} : ∀ pre : Heap, SetAt (pre ++ (b, o) :: post) b o o' (pre ++ (b, o') :: post)
  | [] => .head
  | _ :: pre => .tail (setAt_mid pre)

section
variable {X : Cx} {ρ : PEnv} {ds : List Deferred} {H : Heap} {Q : Post}

/-- A joint: what comes behind is walked once. -/
theorem V_mid {x y : Code} {γ : Type} {ks : List Nat} {ρf : PEnv} (hk : Keep ρ ks ρf) (ρI : γ → PEnv) (HI : γ → Heap) (inv : γ → Prop)
    (h : V X x ρ ds H (Then (fun ρ' ds' H' => ∃ g, inv g ∧ Sub (ρI g ++ ρf) ρ' ∧ HSub (HI g) H' ∧ ds' = ds) Q)) (k : ∀ g, inv g → V X y (ρI g ++ ρf) ds (HI g) Q) : V X (.seq x y) ρ ds H Q := by
  refine V_seq (h.mono ?_)
  intro e ρ' ds' H' hq
  cases e <;> first | exact hq | skip
  obtain ⟨g, hi, hs, hh, hd⟩ := hq
  subst hd
  exact fun a w ha hg => k g hi a w (ha.sub hs) (hg.hsub hh)

/-! ### append -/

inductive Grow (el size : Nat) : Value → Nat → List Value → Heap → Prop
  | nil : Grow el size (.slice none 0 0) 0 [] []
  | row {b n cap : Nat} {cur : Array Value} {xs : List Value} (h1 : n ≤ cap) (h2 : cap ≤ maxLen) (h3 : cur.size = cap * size) (h4 : cur.toList.take (n * size) = xs) (h5 : xs.length = n * size) :
      Grow el size (.slice (some ⟨b, 0, none⟩) n cap) n xs [(b, .cells cur el)]

def appOf (P : Program) (t : TypeId) : Option (Nat × Nat × Nat) := match P.underlying t with
  | some (.slice e) => match P.info? e with
    | some i => match i.zero with
      | some z => bif Nat.beq z.cells.size i.size && Nat.blt 0 i.size then some (e, i.size, i.bytes) else none
      | none => none
    | none => none
  | _ => none

theorem appOf_spec {P : Program} {t e size bytes : Nat} (h : appOf P t = some (e, size, bytes)) : P.underlying t = some (.slice e) ∧ ∃ i z, P.info? e = some i ∧ i.zero = some z ∧ i.size = size ∧ i.bytes = bytes ∧ z.cells.size = size ∧ 0 < size := by
  unfold appOf at h
  cases hu : P.underlying t with
  | none => simp [hu] at h
  | some d =>
    cases d with
    | slice e' =>
      simp only [hu] at h
      cases hi : P.info? e' with
      | none => simp [hi] at h
      | some i =>
        simp only [hi] at h
        cases hz : i.zero with
        | none => simp [hz] at h
        | some z =>
          simp only [hz] at h
          cases hb : (Nat.beq z.cells.size i.size && Nat.blt 0 i.size) with
          | false => rw [hb] at h; simp at h
          | true =>
            rw [hb] at h
            simp only [cond_true, Option.some.injEq, Prod.mk.injEq] at h
            obtain ⟨rfl, rfl, rfl⟩ := h
            simp only [Bool.and_eq_true] at hb
            exact ⟨rfl, i, z, hi, hz, rfl, rfl, Nat.eq_of_beq_eq_true hb.1, Nat.le_of_ble_eq_true hb.2⟩
    | _ => simp [hu] at h

theorem Grow.cells {el size n : Nat} {v : Value} {xs : List Value} {G : Heap} (h : Grow el size v n xs G) {w : World} (hg : ∀ p ∈ G, w.heap[p.1]? = some p.2) : ∃ a cap, v = .slice a n cap ∧ n ≤ cap ∧ xs.length = n * size ∧ ∀ j u, xs[j]? = some u → ∃ b, a = some b ∧ w.cell? (b.add j) = some u := by
  cases h with
  | nil => exact ⟨none, 0, rfl, Nat.le_refl _, by simp, fun j u h => by simp at h⟩
  | row h1 h2 h3 h4 h5 =>
    refine ⟨_, _, rfl, h1, h5, fun j u hu => ⟨_, rfl, ?_⟩⟩
    rw [add_none, own_cell (hg _ (.head _))]
    rw [← h4, List.getElem?_take] at hu
    split at hu
    · simpa using hu
    cases hu

variable {o : Oper}

theorem w_append {s x : Operand} {t e size bytes n m c : Nat} {v : Value} {xs news : List Value} {G : Heap} {HF : Heap → Heap} {a : Option Addr} (ht : appOf X.P t = some (e, size, bytes))
    (ho : o.op = .call { callee := .builtin .append, args := #[s, x], argTypes := #[t, t] }) (hs : ρ.ev s = some v) (hx : ρ.ev x = some (.slice a m c)) (hgr : Grow e size v n xs G)
    (hctx : ∃ pre post, ∀ G, HF G = pre ++ (G ++ post)) (hl : news.length = m * size) (hnews : ∀ w, Good X.w0 X.M (HF G) w → ∀ j u, news[j]? = some u → ∃ b, a = some b ∧ w.cell? (b.add j) = some u)
    (h1 : ∀ u ∈ news, u.oneCell' = true) (hb : (n + m) * bytes ≤ 140737488355328) (h63 : n + m ≤ maxLen) :
    WrA X ρ (HF G) o fun v' H' => ∃ G', H' = HF G' ∧ Grow e size v' (n + m) (xs ++ news) G' :=
  wr_value (fun c h => (by rw [ho] at h; cases h)) fun ev w he hg => by
    obtain ⟨hu, i, z, hi, hz, rfl, rfl, hzs, hsz⟩ := appOf_spec ht
    obtain ⟨pre, post, hHF⟩ := hctx
    have hn := hnews w hg
    have exec : ∀ v' w', (Builtin.append_ #[t, t] o.type #[v, .slice a m c]).run X.P w = .ok v' w' → (execOp ev o).run X.P w = .ok (.value v') w' := by
      intro v' w' h
      simp [execOp, ho, resolve, invoke, builtin, he _ _ hs, he _ _ hx, h]
    have same : news = [] → m = 0 → (Builtin.append_ #[t, t] o.type #[v, .slice a m c]).run X.P w = .ok v w → ∃ v' w' H', ((execOp ev o).run X.P w = .ok (.value v') w' ∨ (v' = undef ∧ (execOp ev o).run X.P w = .ok .skip w')) ∧ Good X.w0 X.M H' w' ∧ ∃ G', H' = HF G' ∧ Grow e i.size v' (n + m) (xs ++ news) G' := by
      rintro rfl rfl h
      exact ⟨v, w, HF G, .inl (exec _ _ h), hg, G, rfl, by simpa using hgr⟩
    -- a new block
    have grown : ∀ (old : Nat), Good X.w0 X.M (HF (((w.heap.size, .cells (xs.toArray ++ news.toArray ++ Builtin.zeroCells z.cells (grownCap w (n + m) old e - (n + m))) e)) :: [])) (w.drew.alloc (.cells (xs.toArray ++ news.toArray ++ Builtin.zeroCells z.cells (grownCap w (n + m) old e - (n + m))) e)) ∧
        Grow e i.size (.slice (some ⟨w.heap.size, 0, none⟩) (n + m) (grownCap w (n + m) old e)) (n + m) (xs ++ news) [(w.heap.size, .cells (xs.toArray ++ news.toArray ++ Builtin.zeroCells z.cells (grownCap w (n + m) old e - (n + m))) e)] := by
      intro old
      have hxl : xs.length = n * i.size := by cases hgr <;> first | assumption | simp
      have hge := grownCap_ge w (n + m) old e
      refine ⟨?_, .row hge (grownCap_le_maxLen w (n + m) old e h63) ?_ ?_ ?_⟩
      · have hd : Good X.w0 X.M (HF G) w.drew := hg.drew _
        have ha := hd.alloc (.cells (xs.toArray ++ news.toArray ++ Builtin.zeroCells z.cells (grownCap w (n + m) old e - (n + m))) e)
        rw [hHF] at ha
        rw [hHF]
        have hsz' : w.drew.heap.size = w.heap.size := rfl
        rw [hsz'] at ha
        refine (ha.sub (List.Sublist.cons_cons _ (List.Sublist.append_left (List.sublist_append_right G post) pre))).perm ?_
        exact List.perm_middle.symm
      · simp only [Array.size_append, List.size_toArray, size_zeroCells, hzs, hxl, hl, ← Nat.add_mul]
        congr 1
        omega
      · simp only [Array.toList_append, List.append_assoc]
        rw [← List.append_assoc, show (n + m) * i.size = (xs ++ news).length by rw [List.length_append, hxl, hl, Nat.add_mul]]
        exact List.take_left
      rw [List.length_append, hxl, hl, Nat.add_mul]
    cases a with
    | none =>
      have hnil : news = [] := by
        cases news with
        | nil => rfl
        | cons u us => obtain ⟨b, hb, _⟩ := hn 0 u rfl; cases hb
      have hm : m = 0 := by
        rw [hnil] at hl
        simp only [List.length_nil] at hl
        rcases Nat.eq_zero_or_pos m with h | h
        · exact h
        have := Nat.mul_pos h hsz; omega
      refine same hnil hm ?_
      subst hm
      cases hgr with
      | nil => simp [Builtin.append_, run_underlying hu, sizeOf, typeInfo, hi, Builtin.lenOf, Builtin.firstCells]
      | row q1 q2 q3 q4 q5 => simp [Builtin.append_, run_underlying hu, sizeOf, typeInfo, hi, Builtin.lenOf, Builtin.firstCells, q1, storeCells]
    | some b =>
      have hn' : ∀ j u, news[j]? = some u → w.cell? (b.add j) = some u := fun j u hj => by obtain ⟨b', e', h⟩ := hn j u hj; injection e' with e'; rw [e']; exact h
      have hsmall : ((n + m : Nat) : Int) ≤ 9223372036854775807 := by simp only [maxLen] at h63; omega
      cases hgr with
      | nil =>
        by_cases hm : m = 0
        · subst hm
          have hnil : news = [] := List.eq_nil_of_length_eq_zero (by simpa using hl)
          refine same hnil rfl ?_
          subst hnil
          simp [Builtin.append_, run_underlying hu, sizeOf, typeInfo, hi, Builtin.lenOf, Builtin.firstCells, loadCells, loadCellsFrom]
        have hr := run_append_nil (P := X.P) w t o.type e i z hu hi hz b m c news hl hn' (by omega) (by omega) (by have := hb; simp only [Nat.zero_add] at this; omega)
        obtain ⟨g1, g2⟩ := grown 0
        simp only [Nat.zero_add, List.nil_append, Array.empty_append] at g1 g2
        exact ⟨_, _, _, .inl (exec _ _ hr), g1, _, rfl, by simpa using g2⟩
      | row q1 q2 q3 q4 q5 =>
        rename_i g cap cur
        have hgg : w.heap[g]? = some (.cells cur e (0, 0)) := hg.own (g, .cells cur e) (by rw [hHF]; simp)
        by_cases hroom : n + m ≤ cap
        · have hfit : n * i.size + news.length ≤ cur.size := by rw [hl, q3, ← Nat.add_mul]; exact Nat.mul_le_mul_right _ hroom
          have hr := run_append_room (P := X.P) w t o.type e i hu hi g n cap cur hgg b m c news hl hn' h1 hroom hfit
          refine ⟨_, _, _, .inl (exec _ _ hr), hg.set2 (b := g) (o := .cells cur e) (H' := HF [(g, .cells (cur.toList.take (n * i.size) ++ news ++ cur.toList.drop (n * i.size + news.length)).toArray e)]) ?_ (by simp) (setRow_heap w g cur _ e _ hgg) (fun k _ hk => setRow_other w g k _ hk) ⟨rfl, rfl⟩, _, rfl, .row hroom q2 ?_ ?_ ?_⟩
          · rw [hHF, hHF]; exact setAt_mid pre
          · simp only [List.size_toArray, List.length_append, List.length_take, List.length_drop, Array.length_toList]
            omega
          · rw [q4, show (n + m) * i.size = (xs ++ news).length by rw [List.length_append, q5, hl, Nat.add_mul]]
            exact List.take_left
          rw [List.length_append, q5, hl, Nat.add_mul]
        have holds : ∀ j u, xs[j]? = some u → w.cell? ((⟨g, 0, none⟩ : Addr).add j) = some u := by
          intro j u hj
          rw [add_none, own_cell hgg]
          rw [← q4, List.getElem?_take] at hj
          split at hj
          · simpa using hj
          cases hj
        have hr := run_append_grow (P := X.P) w t o.type e i z hu hi hz ⟨g, 0, none⟩ n cap xs q5 holds b m c news hl hn' (by omega) (by omega) (growslice_fits (by omega) hb)
        obtain ⟨g1, g2⟩ := grown cap
        exact ⟨_, _, _, .inl (exec _ _ hr), g1, _, rfl, g2⟩
end

end Go.Vc

/- Ranges over functions. -/
set_option linter.all false
namespace Go.Vc

def rdy (r : Loop) : Obj := .loop { r with state := .ready, pending := none }
def bsy (r : Loop) : Obj := .loop { r with state := .busy, pending := none }
def dne (r : Loop) (c : Code) : Obj := .loop { r with state := .done, pending := some c }

/-- Behind the assignments to the left sides: the round begins; its body. -/
def AsgQ (X : Cx) (l : Nat) (r : Loop) (body : Code) (Q2 : Post) : Post := fun e ρ ds H => match e with
  | .normal => ∃ H', SetAt H l (rdy r) (bsy r) H' ∧ V X body ρ ds H' Q2
  | _ => False

/-- The round's end: it goes on. -/
def EndQ (l : Nat) (r : Loop) (K : Heap → Prop) : Post := fun e _ _ H => match e with
  | .normal => ∃ H', SetAt H l (bsy r) (rdy r) H' ∧ K H'
  | _ => False

def bindP : List Nat → List Value → PEnv → PEnv
  | t :: ts, v :: vs, ρ => bindP ts vs ((t, v) :: ρ)
  | _, _, ρ => ρ

theorem agr_bind {n : Nat} : ∀ (ts : List Nat) (vs : List Value) {ρ : PEnv} {tmps : Array Value}, (∀ t ∈ ts, t < n) → Agr n ρ [] { tmps := tmps, defers := [] } →
    Agr n (bindP ts vs ρ) [] { tmps := (ts.zip vs).foldl (fun tmps (p : Nat × Value) => tmps.setIfInBounds p.1 p.2) tmps, defers := [] } := by
  intro ts
  induction ts with
  | nil => intro vs ρ tmps _ h; simpa [bindP] using h
  | cons t ts ih =>
    intro vs ρ tmps ht h
    cases vs with
    | nil => simpa [bindP] using h
    | cons v vs =>
      simp only [bindP, List.zip_cons_cons, List.foldl_cons]
      exact ih vs (fun t ht' => ht t (.tail _ ht')) (h.put (d := some t) (fun t' e => by injection e with e; rw [← e]; exact ht t (.head _)) v)

/-- A call of yield, from outside: it asks for a round that goes on. -/
def RoundOk (P : Program) (w0 : World) (M : List Nat) (l : Nat) (Pre : List (List Value) → List Value → Prop) (I : List (List Value) → Heap → Prop) : Prop :=
  ∀ done vs Hs own w, Pre done vs → I done Hs → Good w0 M (Hs ++ own) w → ∃ f tmps assign body, (Instr.yield l vs.toArray).run P w = .ok (.round l f tmps assign body) w ∧
    RoundIn (FW none) 0 P l f tmps assign body w fun e w' => ∃ Hs', e = .returned (.bool true) ∧ Good w0 M (Hs' ++ own) w' ∧ I (done ++ [vs]) Hs'

section
variable {X : Cx} {ρ : PEnv} {ds : List Deferred} {H : Heap} {Q : Post} {o : Oper}

theorem w_yield {fo : Operand} {ags : Array Operand} {tys : Array TypeId} {l : Nat} {vs : List Value} {Pre : List (List Value) → List Value → Prop} {I : List (List Value) → Heap → Prop} {done : List (List Value)} {Hs own : Heap}
    (ho : o.op = .call { callee := .value fo, args := ags, argTypes := tys }) (hf : ρ.ev fo = some (.func (.yield l) #[] #[])) (hv : evL ρ ags.toList = some vs) (hY : RoundOk X.P X.w0 X.M l Pre I) (hpre : Pre done vs) (hI : I done Hs)
    (hH : H = own ++ Hs) : WrA X ρ H o fun v H' => ∃ Hs', v = .bool true ∧ H' = own ++ Hs' ∧ I (done ++ [vs]) Hs' := by
  subst hH
  refine ⟨fun c hc => (by rw [ho] at hc; cases hc), fun a w he hg => ?_⟩
  obtain ⟨f, tmps, assign, body, hrun, hround⟩ := hY done vs Hs own w hpre hI (hg.perm List.perm_append_comm)
  have hargs : ags.map a.eval = vs.toArray := Array.toList_inj.1 (by simp [evL_map he hv])
  have hex : (execOp a.eval o).run X.P w = .ok (.round l f tmps assign body) w := by
    simp only [execOp, ho, resolve, he _ _ hf, hargs, Deferred.ofValue, Sem.run_bind, Sem.run_pure, Result.andThen_ok, invoke, Array.empty_append, hrun]
  rw [hex]
  refine ⟨fun hd => (by simp [FW, Fence.wide] at hd), RoundIn.mono (hround : RoundIn (FW X.r) 0 X.P l f tmps assign body w _) ?_⟩
  rintro e w' ⟨Hs', rfl, hg', hI'⟩
  exact ⟨.bool true, own ++ Hs', rfl, hg'.perm List.perm_append_comm, Hs', rfl, rfl, hI'⟩

theorem roundOk_of {l : Nat} {r : Loop} {ρ0 : PEnv} {ps : Array Tmp} {Pre : List (List Value) → List Value → Prop} {I : List (List Value) → Heap → Prop} (htm : Agr X.n ρ0 [] { tmps := r.tmps, defers := [] }) (hps : r.params = ps) (hfit : ∀ t ∈ ps.toList, t < X.n)
    (hin : ∀ done Hs, I done Hs → (l, rdy r) ∈ Hs) (hlen : ∀ done vs, Pre done vs → vs.length = ps.size)
    (h : ∀ done vs Hs own, Pre done vs → I done Hs → V { X with r := some l } r.assign (bindP ps.toList vs ρ0) [] (Hs ++ own) (AsgQ { X with r := some l } l r r.body (EndQ l r fun H' => ∃ Hs', HSub (Hs' ++ own) H' ∧ I (done ++ [vs]) Hs'))) :
    RoundOk X.P X.w0 X.M l Pre I := by
  intro done vs Hs own w hpre hI hg
  have hm : (l, rdy r) ∈ Hs ++ own := List.mem_append_left _ (hin done Hs hI)
  have hl := hg.own _ hm
  refine ⟨_, _, _, _, run_yield (r := { r with state := .ready, pending := none }) hl (by simp [hlen done vs hpre, hps]), ?_⟩
  refine roundIn_of_wpIn trivial ?_
  have hag : Agr X.n (bindP ps.toList vs ρ0) [] { tmps := (r.params.zip vs.toArray).foldl (fun tmps (x : Nat × Value) => match x with | (t, a) => tmps.setIfInBounds t a) r.tmps, defers := [] } := by
    have := agr_bind ps.toList vs hfit htm
    rw [hps]
    have e : (ps.zip vs.toArray) = (ps.toList.zip vs).toArray := by apply Array.toList_inj.1; simp
    rw [e]
    simpa using this
  refine wpIn_mono (h done vs Hs own hpre hI _ w hag hg) ?_
  rintro e a₁ w₁ ⟨ρ1, ds1, H1, hag1, hg1, hq⟩
  cases e <;> first | exact hq.elim | skip
  obtain ⟨H2, hset, hbody⟩ := hq
  have hl1 : w₁.heap[l]? = some (.loop { r with state := .ready, pending := none }) := hg1.own _ hset.mem
  refine ⟨_, run_beginRound hl1 rfl, ?_⟩
  have hg2 : Good X.w0 X.M H2 (w₁.putObj l (bsy r)) := hg1.set hset rfl ⟨rfl, rfl⟩
  refine wpIn_mono (hbody a₁ _ hag1 hg2) ?_
  rintro e a₂ w₂ ⟨ρ2, ds2, H3, hag3, hg3, hq⟩
  cases e <;> first | exact hq.elim | skip
  obtain ⟨H4, hset2, Hs', hsub, hI'⟩ := hq
  have hl2 : w₂.heap[l]? = some (.loop { r with state := .busy, pending := none }) := hg3.own _ hset2.mem
  have hg4 : Good X.w0 X.M H4 (w₂.putObj l (rdy r)) := hg3.set hset2 rfl ⟨rfl, rfl⟩
  exact ⟨_, _, run_endRound none hl2, Hs', rfl, hg4.hsub hsub, hI'⟩

theorem V_range {g : Operand} {ps : Array Tmp} {assign body : Code} {f : FuncId} {cap : Array Value} {L : List (List Value)} {ks : List Nat} {ρf : PEnv} {H0 : Heap} (hr : X.r = none) (hk : Keep ρ ks ρf) (hgv : ρ.ev g = some (.func (.func f) #[] cap)) (hfit : ps.toList.all (Nat.blt · X.n) = true)
    (Pre : List (List Value) → List Value → Prop) (J : List (List Value) → Heap → Prop) (hlen : ∀ done vs, Pre done vs → vs.length = ps.size) (hsub : H0.Sublist H) (h0 : J [] H0)
    (round : ∀ l D r done vs Hr own, Pre done vs → J done Hr → V { X with r := some l } assign (bindP ps.toList vs ρf) [] ((l, rdy r) :: (D, .deferred (some [])) :: (Hr ++ own))
      (AsgQ { X with r := some l } l r body (EndQ l r fun H' => ∃ Hr', HSub ((l, rdy r) :: (D, .deferred (some [])) :: (Hr' ++ own)) H' ∧ J (done ++ [vs]) Hr')))
    (iter : ∀ l D r w, RoundOk X.P X.w0 X.M l Pre (fun done Hs => ∃ Hr, Hs = (l, rdy r) :: (D, .deferred (some [])) :: Hr ∧ J done Hr) → Good X.w0 X.M ((l, rdy r) :: (D, .deferred (some [])) :: H0) w →
      FnC X.P f (.func (.yield l) #[] #[] :: cap.toList) w fun _ w' => ∃ Hr, Good X.w0 X.M ((l, rdy r) :: (D, .deferred (some [])) :: Hr) w' ∧ J L Hr)
    (k : ∀ l D ob Hr, J L Hr → Q .normal ρf ({ target := .collected D, args := #[] } :: ds) ((l, ob) :: (D, .deferred (some [])) :: Hr)) : V X (.rangeFunc g ps assign body) ρ ds H Q := by
  intro a w ha hg
  have hg0 := hg.sub hsub
  let D := w.heap.size
  let l := w.heap.size + 1
  refine wpIn_rangeFunc fun fn _ => ?_
  let r : Loop := { state := .ready, pending := none, fn := fn, tmps := a.tmps, params := ps, assign := assign, body := body, defers := D }
  have hga : Good X.w0 X.M ((l, rdy r) :: (D, .deferred (some [])) :: H0) ((w.alloc (.deferred (some []))).alloc (.loop r)) := by
    have h1 := hg0.alloc (.deferred (some []))
    have h2 := h1.alloc (.loop r)
    have e : (w.alloc (.deferred (some []))).heap.size = w.heap.size + 1 := by simp
    rw [e] at h2
    exact h2
  have htm : Agr X.n ρf [] { tmps := r.tmps, defers := [] } := ⟨fun t v ht => (ha.sub hk.sub).at_ t v ht, ha.size, rfl⟩
  have hY : RoundOk X.P X.w0 X.M l Pre (fun done Hs => ∃ Hr, Hs = (l, rdy r) :: (D, .deferred (some [])) :: Hr ∧ J done Hr) := by
    refine roundOk_of (ps := ps) htm rfl (fun t ht => Nat.le_of_ble_eq_true (List.all_eq_true.1 hfit t ht)) ?_ hlen ?_
    · rintro done Hs ⟨Hr, rfl, _⟩; exact .head _
    rintro done vs Hs own hp ⟨Hr, rfl, hJ⟩
    refine V.mono (round l D r done vs Hr own hp hJ) ?_
    intro e ρ1 ds1 H1 hq
    cases e <;> first | exact hq.elim | skip
    obtain ⟨H2, hs, hb⟩ := hq
    refine ⟨H2, hs, hb.mono ?_⟩
    intro e ρ2 ds2 H3 hq
    cases e <;> first | exact hq.elim | skip
    obtain ⟨H4, hs2, Hr', hh, hJ'⟩ := hq
    exact ⟨H4, hs2, _, hh, Hr', rfl, hJ'⟩
  have hc := iter l D r _ hY hga
  have hFr : (FW X.r).round = none := hr
  refine ⟨l, [{ target := .collected D, args := #[] }], (w.alloc (.deferred (some []))).alloc (.loop r), { target := .fn (.func f) cap, args := #[.func (.yield l) #[] #[]] }, (w.alloc (.deferred (some []))).alloc (.loop r), f, (.func (.yield l) #[] #[] :: cap.toList).toArray, (w.alloc (.deferred (some []))).alloc (.loop r), ?_, ?_, fun _ _ => trivial, ?_, fun hd => (by simp [FW, Fence.wide] at hd), ?_⟩
  · rw [hFr]; exact run_enterLoop_outer fn a.tmps ps assign body
  · simp only [resolve, ha.ev hgv, Deferred.ofValue]
    simp [Act.eval]
  · have e : #[Value.func (.yield l) #[] #[]] ++ cap = (.func (.yield l) #[] #[] :: cap.toList).toArray := by simp
    show (callFunc f (#[Value.func (.yield l) #[] #[]] ++ cap)).run X.P _ = _
    rw [e]; exact hc.ent _ _
  refine callsIn_any (hc.calls.mono ?_)
  rintro e w' ⟨v, rfl, Hr, hg', hJ⟩
  have hl : w'.heap[l]? = some (.loop { r with state := .ready, pending := none }) := hg'.own _ (.head _)
  refine ⟨none, _, run_endLoop hl (by simp), ?_⟩
  refine ⟨ρf, _, _, ?_, hg'.set .head rfl ⟨rfl, rfl⟩, k l D _ Hr hJ⟩
  have h3 := ha.sub hk.sub
  exact ⟨h3.at_, h3.size, by show [({ target := .collected D, args := #[] } : Deferred)] ++ a.defers = _; rw [h3.defers]; rfl⟩

/-- 'x[i]' of an array's value, with elements of one cell -/
theorem p_at {x i : Operand} {t len el : Nat} {cs : Array Value} {k : Int} {v : Value} (hu : X.P.underlying t = some (.array len el)) (ha : tyAgg X.P el = some false) (hz : tySize X.P el = some 1) (ho : o.op = .index t x i) (hx : ρ.ev x = some (.agg cs)) (hi : ρ.ev i = some (.int .i64 k))
    (h0 : 0 ≤ k) (h1 : k < len) (hv : cs.toList[k.toNat]? = some v) : RdP X ρ o v := by
  refine ⟨fun c h => (by rw [ho] at h; cases h), fun e w he => ?_⟩
  have hv' : cs[k.toNat]? = some v := by rw [← hv]; simp
  simp [execOp, ho, he _ _ hx, he _ _ hi, Instr.index, asIntOf, run_underlying' hu, h0, h1, run_sizeOf' hz, Go.part, run_isAgg' ha, hv']

/-- append, the heap taken apart -/
theorem w_app {s x : Operand} {t e size bytes n m c : Nat} {v : Value} {xs news : List Value} {pre G post : Heap} {a : Option Addr} (ht : appOf X.P t = some (e, size, bytes))
    (ho : o.op = .call { callee := .builtin .append, args := #[s, x], argTypes := #[t, t] }) (hs : ρ.ev s = some v) (hx : ρ.ev x = some (.slice a m c)) (hgr : Grow e size v n xs G) (hH : H = pre ++ (G ++ post))
    (hl : news.length = m * size) (hnews : ∀ w, Good X.w0 X.M H w → ∀ j u, news[j]? = some u → ∃ b, a = some b ∧ w.cell? (b.add j) = some u)
    (h1 : ∀ u ∈ news, u.oneCell' = true) (hb : (n + m) * bytes ≤ 140737488355328) (h63 : n + m ≤ maxLen) :
    WrA X ρ H o fun v' H' => ∃ a' cap' G', v' = .slice a' (n + m) cap' ∧ H' = pre ++ (G' ++ post) ∧ Grow e size (.slice a' (n + m) cap') (n + m) (xs ++ news) G' := by
  subst hH
  have h := w_append (HF := fun G => pre ++ (G ++ post)) ht ho hs hx hgr ⟨pre, post, fun _ => rfl⟩ hl hnews h1 hb h63
  refine ⟨h.nd, fun a w he hg => uponIn_mono ?_ (h.run a w he hg)⟩
  rintro a1 w1 ⟨v, H', h1, h2, G', h3, h4⟩
  have : ∃ a' cap', v = .slice a' (n + m) cap' := by
    generalize n + m = k at h4
    generalize xs ++ news = ys at h4
    cases h4 with
    | nil => exact ⟨_, _, rfl⟩
    | row => exact ⟨_, _, rfl⟩
  obtain ⟨a', cap', rfl⟩ := this
  exact ⟨_, H', h1, h2, a', cap', G', rfl, h3, h4⟩

theorem WrA.perm {R R' : Value → Heap → Prop} (h : WrA X ρ H o R) (hr : ∀ v H', R v H' → ∃ H'', H'.Perm H'' ∧ R' v H'') : WrA X ρ H o R' :=
  ⟨h.nd, fun a w he hg => uponIn_mono (fun a' w' ⟨v, H', h1, h2, h3⟩ => let ⟨H'', h4, h5⟩ := hr v H' h3; ⟨v, H'', h1, h2.perm h4, h5⟩) (h.run a w he hg)⟩

/-- A call that makes memory, of which part is a row that grew: it is laid behind ours. -/
theorem w_callG {fo : Operand} {ags : Array Operand} {tys : Array TypeId} {f : FuncId} {cap : Array Value} {vs : List Value} {R : Value → Heap → Heap → Prop} {pre post : Heap} (ho : o.op = .call { callee := .value fo, args := ags, argTypes := tys })
    (hf : ρ.ev fo = some (.func (.func f) #[] cap)) (hv : evL ρ ags.toList = some vs) (hH : H = pre ++ post) (h : ∀ w, Good X.w0 X.M H w → FnC X.P f (vs ++ cap.toList) w fun v w' => ∃ Hc, Good w [] Hc w' ∧ ∃ A G, Hc = A ++ G ∧ R v A G) :
    WrA X ρ H o fun u H' => ∃ A G, H' = A ++ (pre ++ (G ++ post)) ∧ (∀ p ∈ A, X.w0.heap.size ≤ p.1) ∧ R u A G := by
  refine (w_callN ho hf hv h).perm ?_
  rintro v _ ⟨_, rfl, hfr, A, G, rfl, hR⟩
  subst hH
  refine ⟨A ++ (pre ++ (G ++ post)), ?_, A, G, rfl, fun p hp => hfr p (List.mem_append_left _ hp), hR⟩
  rw [List.append_assoc]
  refine List.Perm.append_left _ ?_
  rw [← List.append_assoc, ← List.append_assoc]
  exact List.Perm.append_right _ List.perm_append_comm

/-! ### loops, round by round -/

def LoopV (X : Cx) (c : Code) (ρ : PEnv) (ds : List Deferred) (H : Heap) (Q : Post) : Prop :=
  ∀ a w, Agr X.n ρ ds a → Good X.w0 X.M H w → ∀ (b : Frame) (k : List Item) (cs : List Frame), b.roundOf = X.r →
    ∃ e a' w', Lift X Q e a' w' ∧ ArrivesIn (Machine.fenced X.P (FW X.r)) X.P (lone (b.atR a (.code c :: .inLoop c :: k)) cs w) b k cs e a' w'

theorem V_loopU {c : Code} (h : LoopV X c ρ ds H Q) : V X (.loop c) ρ ds H Q := by
  intro a w ha hg b k cs hro hb hr
  obtain ⟨e, a', w', hq, harr⟩ := h a w ha hg b k cs hro
  exact ⟨e, a', w', hq, .of_steps (.one (fenced_calm (n := 0) (fr := b.atR a (.code (.loop c) :: k)) hb hr rfl) stepR_loop) harr⟩

theorem LU_step {c : Code} (h : V X c ρ ds H (Then (fun ρ' ds' H' => LoopV X c ρ' ds' H' Q) Q)) : LoopV X c ρ ds H Q := by
  intro a w ha hg b k cs hro
  obtain ⟨e, a₁, w₁, hq, harr⟩ := h a w ha hg b (.inLoop c :: k) cs hro trivial (FW.room _ _)
  obtain ⟨ρ', ds', H', h1, h2, h3⟩ := hq
  cases e with
  | normal =>
    obtain ⟨e₂, a₂, w₂, hq₂, harr₂⟩ := h3 a₁ w₁ h1 h2 b k cs hro
    exact ⟨e₂, a₂, w₂, hq₂, .of_steps (StepsIn.trans harr (.one (fenced_calm (n := 0) (fr := b.atR a₁ (.inLoop c :: k)) trivial (FW.room _ _) rfl) stepR_inLoop)) harr₂⟩
  | exit id => exact ⟨_, a₁, w₁, ⟨ρ', ds', H', h1, h2, h3⟩, .pass (x := .inLoop c) rfl (fun _ _ => .inl (by simp)) harr⟩
  | goto l => exact ⟨_, a₁, w₁, ⟨ρ', ds', H', h1, h2, h3⟩, .pass (x := .inLoop c) rfl (fun _ _ => .inl (by simp)) harr⟩
  | ret => exact ⟨_, a₁, w₁, ⟨ρ', ds', H', h1, h2, h3⟩, .pass (x := .inLoop c) rfl (fun _ _ => .inl (by simp)) harr⟩
  | panic ch => exact ⟨_, a₁, w₁, ⟨ρ', ds', H', h1, h2, h3⟩, .pass (x := .inLoop c) rfl (fun _ _ => .inl (by simp)) harr⟩
  | outgrown => exact ⟨_, a₁, w₁, ⟨ρ', ds', H', h1, h2, h3⟩, .pass (x := .inLoop c) rfl (fun _ _ => .inl (by simp)) harr⟩

theorem asgI {X : Cx} {l : Nat} {r : Loop} {body : Code} {Q2 : Post} {H' : Heap} (hs : SetAt H l (rdy r) (bsy r) H') (h : V X body ρ ds H' Q2) : AsgQ X l r body Q2 .normal ρ ds H := ⟨H', hs, h⟩
theorem endI {l : Nat} {r : Loop} {K : Heap → Prop} {H' : Heap} (hs : SetAt H l (bsy r) (rdy r) H') (h : K H') : EndQ l r K .normal ρ ds H := ⟨H', hs, h⟩

theorem news_own {b ty : Nat} {cur : Array Value} {fr : Nat × Nat} (hm : (b, Obj.cells cur ty fr) ∈ H) : ∀ w, Good X.w0 X.M H w → ∀ (j : Nat) u, cur.toList[j]? = some u → ∃ b', some (⟨b, 0, none⟩ : Addr) = some b' ∧ w.cell? (b'.add j) = some u := by
  intro w hg j u hj
  refine ⟨_, rfl, ?_⟩
  rw [add_none, own_cell (hg.own _ hm)]
  simpa using hj

end

/-- A function's contract, over another's memory. -/
theorem fn_bodyG {P : Program} {f : FuncId} {fn : Func} {c : Code} {args : List Value} {w0 w : World} {M : List Nat} {H0 : Heap} {n : Nat} {rs : List ResultVar} {R : Value → Heap → Prop}
    (hf : P.funcs[f]? = some fn) (hb : fn.body = some c) (hname : (fn.name == "runtime.NumGoroutine") = false) (hn : fn.ntmps = n) (hr : fn.results = rs.toArray) (hl : Nat.ble args.length n = true) (hg : Good w0 M H0 w)
    (h : V ⟨P, none, n, w0, M⟩ c (argEnv args 0) [] H0 (RetQ P rs R)) : FnC P f args w fun v w' => ∃ H, Good w0 M H w' ∧ R v H := by
  refine ⟨ent_of hf hname hb, callsIn_of_wp_marks hf hb trivial ?_⟩
  subst hn
  refine wpIn_mono (h _ w (entryAgr (Nat.le_of_ble_eq_true hl)) hg) ?_
  rintro e a w' ⟨ρ, ds, H, ha, hg', hq⟩
  cases e with
  | normal => rw [show bodyPostM (FW none) 0 P fn _ .normal a w' = LeavesInM _ _ _ _ _ _ _ _ _ from rfl, ha.defers]; exact leave_leaves hr ha hq w' hg'
  | ret => rw [show bodyPostM (FW none) 0 P fn _ .ret a w' = LeavesInM _ _ _ _ _ _ _ _ _ from rfl, ha.defers]; exact leave_leaves hr ha hq w' hg'
  | _ => exact hq.elim

end Go.Vc

/- Short forms of the rules. -/
set_option linter.all false
namespace Go.Vc

/-- these slots, as they are known -/
def keepL (ρ : PEnv) : List Nat → Option PEnv
  | [] => some []
  | k :: ks => match ρ.get k, keepL ρ ks with
    | some v, some r => some ((k, v) :: r)
    | _, _ => none
theorem kp {ρ ρ' : PEnv} (ks : List Nat) (h : keepL ρ ks = some ρ') : Keep ρ ks ρ' := by
  induction ks generalizing ρ' with
  | nil => simp only [keepL, Option.some.injEq] at h; subst h; exact .nil
  | cons k ks ih =>
    unfold keepL at h
    cases hg : ρ.get k with
    | none => rw [hg] at h; cases h
    | some v =>
      cases hr : keepL ρ ks with
      | none => rw [hg, hr] at h; cases h
      | some r =>
        rw [hg, hr] at h
        simp only [Option.some.injEq] at h
        subst h
        exact .cons hg (ih hr)

section
variable {X : Cx} {ρ : PEnv} {ds : List Deferred} {H : Heap} {Q : Post} {ops : Array Oper} {l : List Oper} {o : Oper}

theorem Vs {id : Nat} {y : Code} (hf : l.all (dstLt X.n) = true) (h : LL X l.toArray l ρ ds H (Then (fun ρ ds H => V X y ρ ds H Q) Q)) : V X (.seq (.region id l.toArray false) y) ρ ds H Q := V_seq (V_region hf h)
theorem Lp {v : Value} (hg : o.guard = none) (h : RdP X ρ o v) (k : LL X ops l (ρ.put o.dst v) ds H Q) : LL X ops (o :: l) ρ ds H Q := L_go hg (X_p h k)
theorem Lr {v : Value} (hg : o.guard = none) (h : RdA X ρ H o v) (k : LL X ops l (ρ.put o.dst v) ds H Q) : LL X ops (o :: l) ρ ds H Q := L_go hg (X_rd h k)
theorem Lw {R : Value → Heap → Prop} (hg : o.guard = none) (h : WrA X ρ H o R) (k : ∀ v H', R v H' → LL X ops l (ρ.put o.dst v) ds H' Q) : LL X ops (o :: l) ρ ds H Q := L_go hg (X_wr h k)
theorem Lm {x : Operand} {v : Value} (hg : o.guard = none) (ho : o.op = .move x) (hx : ρ.ev x = some v) (k : LL X ops l (ρ.put o.dst v) ds H Q) : LL X ops (o :: l) ρ ds H Q := L_go hg (X_p (p_move ho hx) k)
theorem La {x : Operand} {v : Value} (hg : o.guard = none) (ho : o.op = .assign x) (hx : ρ.ev x = some v) (k : LL X ops l (ρ.put o.dst v) ds H Q) : LL X ops (o :: l) ρ ds H Q := L_go hg (X_p (p_assign ho hx) k)
theorem Ln {x : Operand} {a : Addr} (hg : o.guard = none) (ho : o.op = .nilCheck x) (hx : ρ.ev x = some (.pointer (some a))) (k : LL X ops l (ρ.put o.dst (.pointer (some a))) ds H Q) : LL X ops (o :: l) ρ ds H Q := L_go hg (X_p (p_nil ho hx) k)
theorem Lc {fo : Operand} {ags : Array Operand} {tys : Array TypeId} {f : FuncId} {cap : Array Value} {vs : List Value} {v : Value} (hg : o.guard = none) (ho : o.op = .call { callee := .value fo, args := ags, argTypes := tys })
    (hf : ρ.ev fo = some (.func (.func f) #[] cap)) (hv : evL ρ ags.toList = some vs) (h : ∀ w, Good X.w0 X.M H w → FnP X.P f (vs ++ cap.toList) w v) (k : LL X ops l (ρ.put o.dst v) ds H Q) : LL X ops (o :: l) ρ ds H Q :=
  L_go hg (X_wr (w_callP ho hf hv h) (by rintro _ _ ⟨rfl, rfl⟩; exact k))

theorem rl {x : Operand} {t ty b off : Nat} {cs : Array Value} {fr : Nat × Nat} {v : Value} (ha : tyAgg X.P t = some false) (ho : o.op = .load t x) (hx : ρ.ev x = some (.pointer (some ⟨b, off, none⟩)))
    (hv : cs.toList[off]? = some v) (hm : (b, Obj.cells cs ty fr) ∈ H := by repeat first | exact mH | apply mT | apply List.mem_append_right) : RdA X ρ H o v := r_load ha ho hx hm hv
theorem rlA {x : Operand} {t ty b off n : Nat} {cs : Array Value} {fr : Nat × Nat} {vs : List Value} (ha : tyAgg X.P t = some true) (hs : tySize X.P t = some n) (ho : o.op = .load t x) (hx : ρ.ev x = some (.pointer (some ⟨b, off, none⟩)))
    (hv : sliceL cs.toList off n = some vs) (hm : (b, Obj.cells cs ty fr) ∈ H := by repeat first | exact mH | apply mT | apply List.mem_append_right) : RdA X ρ H o (.agg vs.toArray) := r_loadA ha hs ho hx hm hv
theorem ws {x y : Operand} {t ty b off n : Nat} {cs : Array Value} {v : Value} {cs' : List Value} {H' : Heap} (hs : tySize X.P t = some n) (ho : o.op = .store t x y) (hx : ρ.ev x = some (.pointer (some ⟨b, off, none⟩)))
    (hy : ρ.ev y = some v) (hn : v.cells.toList.length = n) (hone : oneL v.cells.toList = true) (hl : Nat.ble (off + n) cs.toList.length = true) (hcs : setL cs.toList off v.cells.toList = cs')
    (hset : SetAt H b (.cells cs ty) (.cells cs'.toArray ty) H' := by repeat first | exact .head | apply SetAt.tail) : WrA X ρ H o fun u H'' => u = undef ∧ H'' = H' :=
  w_store hs ho hx hy hn hone hset (Nat.le_of_ble_eq_true hl) hcs
theorem Ls {x y : Operand} {t ty b off n : Nat} {cs : Array Value} {v : Value} {cs' : List Value} {H' : Heap} (hg : o.guard = none) (hs : tySize X.P t = some n) (ho : o.op = .store t x y) (hx : ρ.ev x = some (.pointer (some ⟨b, off, none⟩)))
    (hy : ρ.ev y = some v) (hn : v.cells.toList.length = n) (hone : oneL v.cells.toList = true) (hl : Nat.ble (off + n) cs.toList.length = true) (hcs : setL cs.toList off v.cells.toList = cs') (k : LL X ops l (ρ.put o.dst undef) ds H' Q)
    (hset : SetAt H b (.cells cs ty) (.cells cs'.toArray ty) H' := by repeat first | exact .head | apply SetAt.tail) : LL X ops (o :: l) ρ ds H Q :=
  L_go hg (X_wr (w_store hs ho hx hy hn hone hset (Nat.le_of_ble_eq_true hl) hcs) (by rintro _ _ ⟨rfl, rfl⟩; exact k))
end
section
variable {X : Cx} {l : List Oper} {pl : Plan} {E : List (Nat × Value)} {L : Array Bool} {ρ : PEnv} {ds : List Deferred} {H : Heap} {Q : Post}
theorem Dp {i : Nat} {o : Oper} {v : Value} (ho : l[i]? = some o) (hg : o.guard = none) (h : RdP X ρ o v) (k : DD X l pl E (L.setIfInBounds i true) (ρ.put o.dst v) ds H Q) : DD X l (.rd i pl) E L ρ ds H Q := D_p ho (.plain hg) h k
theorem Dr {i : Nat} {o : Oper} {v : Value} (ho : l[i]? = some o) (hg : o.guard = none) (h : RdA X ρ H o v) (k : DD X l pl ((i, v) :: E) (L.setIfInBounds i true) (ρ.put o.dst v) ds H Q) : DD X l (.rd i pl) E L ρ ds H Q := D_rd ho (.plain hg) h k
theorem Dm {i : Nat} {o : Oper} {x : Operand} {v : Value} (ho : l[i]? = some o) (hg : o.guard = none) (hp : o.op = .move x) (hx : ρ.ev x = some v) (k : DD X l pl E (L.setIfInBounds i true) (ρ.put o.dst v) ds H Q) : DD X l (.rd i pl) E L ρ ds H Q := D_p ho (.plain hg) (p_move hp hx) k
end
end Go.Vc

/- Calls that panic; ranges over functions that are left early, or by a panic. -/
set_option linter.all false
namespace Go.Vc

/-! ### contracts with panics -/

/-- It returns as R says, or panics as S says. -/
structure FnX (P : Program) (f : FuncId) (args : List Value) (w : World) (R : Value → World → Prop) (S : List PanicEntry → World → Prop) : Prop where
  ent : Ent P f
  calls : CallsIn (FW none) 0 P f args.toArray w fun e w' => (∃ v, e = .returned v ∧ R v w') ∨ ∃ ch, e = .panicked ch ∧ S ch w'

section
variable {P : Program} {f : FuncId} {args : List Value} {w : World}

theorem FnC.x {R : Value → World → Prop} {S : List PanicEntry → World → Prop} (h : FnC P f args w R) : FnX P f args w R S := ⟨h.ent, h.calls.mono fun _ _ h => .inl h⟩
theorem FnX.c {R : Value → World → Prop} (h : FnX P f args w R fun _ _ => False) : FnC P f args w R := ⟨h.ent, h.calls.mono fun _ _ h => h.elim id fun ⟨_, _, h⟩ => h.elim⟩
theorem FnX.mono {R R' : Value → World → Prop} {S S' : List PanicEntry → World → Prop} (h : FnX P f args w R S) (hr : ∀ v w', R v w' → R' v w') (hs : ∀ ch w', S ch w' → S' ch w') : FnX P f args w R' S' :=
  ⟨h.ent, h.calls.mono fun _ _ h => h.elim (fun ⟨v, e, r⟩ => .inl ⟨v, e, hr _ _ r⟩) fun ⟨ch, e, s⟩ => .inr ⟨ch, e, hs _ _ s⟩⟩
end

/-- A panic leaves: marks are cleared. -/
inductive LeaveP (S : Heap → Prop) : List Deferred → Heap → Prop
  | nil {H : Heap} (h : S H) : LeaveP S [] H
  | mark {D : Nat} {ds : List Deferred} {H H' : Heap} (hs : SetAt H D (.deferred (some [])) (.deferred none) H') (h : LeaveP S ds H') : LeaveP S ({ target := .collected D, args := #[] } :: ds) H

section
variable {X : Cx} {ρ : PEnv} {ds : List Deferred} {H : Heap} {Q : Post} {o : Oper} {ops : Array Oper} {l : List Oper}

end

/-! ### ranges over functions -/

/-- The round's end: it goes on, or it ends the loop. -/
def EndX (l : Nat) (r : Loop) (K : Heap → Prop) (KE : Code → Heap → Prop) : Post := fun e _ _ H => match e with
  | .normal => ∃ H', SetAt H l (bsy r) (rdy r) H' ∧ K H'
  | .ret => ∃ H', SetAt H l (bsy r) (dne r .ret) H' ∧ KE .ret H'
  | .exit id => ∃ H', SetAt H l (bsy r) (dne r (.exit id)) H' ∧ KE (.exit id) H'
  | _ => False

/-- A call of yield, from outside: a round that goes on, or the last one. -/
def RoundX (P : Program) (w0 : World) (M : List Nat) (l : Nat) (Pre : List (List Value) → List Value → Prop) (I E : List (List Value) → Heap → Prop) : Prop :=
  ∀ done vs Hs own w, Pre done vs → I done Hs → Good w0 M (Hs ++ own) w → ∃ f tmps assign body, (Instr.yield l vs.toArray).run P w = .ok (.round l f tmps assign body) w ∧
    RoundIn (FW none) 0 P l f tmps assign body w fun e w' => ∃ Hs' go, e = .returned (.bool go) ∧ Good w0 M (Hs' ++ own) w' ∧ ((go = true ∧ I (done ++ [vs]) Hs') ∨ (go = false ∧ E (done ++ [vs]) Hs'))

section
variable {X : Cx} {ρ : PEnv} {ds : List Deferred} {H : Heap} {Q : Post} {o : Oper}

theorem w_yieldX {fo : Operand} {ags : Array Operand} {tys : Array TypeId} {l : Nat} {vs : List Value} {Pre : List (List Value) → List Value → Prop} {I E : List (List Value) → Heap → Prop} {done : List (List Value)} {Hs own : Heap}
    (ho : o.op = .call { callee := .value fo, args := ags, argTypes := tys }) (hf : ρ.ev fo = some (.func (.yield l) #[] #[])) (hv : evL ρ ags.toList = some vs) (hY : RoundX X.P X.w0 X.M l Pre I E) (hpre : Pre done vs) (hI : I done Hs)
    (hH : H = own ++ Hs) : WrA X ρ H o fun v H' => ∃ Hs' go, v = .bool go ∧ H' = own ++ Hs' ∧ ((go = true ∧ I (done ++ [vs]) Hs') ∨ (go = false ∧ E (done ++ [vs]) Hs')) := by
  subst hH
  refine ⟨fun c hc => (by rw [ho] at hc; cases hc), fun a w he hg => ?_⟩
  obtain ⟨f, tmps, assign, body, hrun, hround⟩ := hY done vs Hs own w hpre hI (hg.perm List.perm_append_comm)
  have hargs : ags.map a.eval = vs.toArray := Array.toList_inj.1 (by simp [evL_map he hv])
  have hex : (execOp a.eval o).run X.P w = .ok (.round l f tmps assign body) w := by
    simp only [execOp, ho, resolve, he _ _ hf, hargs, Deferred.ofValue, Sem.run_bind, Sem.run_pure, Result.andThen_ok, invoke, Array.empty_append, hrun]
  rw [hex]
  refine ⟨fun hd => (by simp [FW, Fence.wide] at hd), RoundIn.mono (hround : RoundIn (FW X.r) 0 X.P l f tmps assign body w _) ?_⟩
  rintro e w' ⟨Hs', go, rfl, hg', hI'⟩
  exact ⟨.bool go, own ++ Hs', rfl, hg'.perm List.perm_append_comm, Hs', go, rfl, rfl, hI'⟩

theorem roundX_of {l : Nat} {r : Loop} {ρ0 : PEnv} {ps : Array Tmp} {Pre : List (List Value) → List Value → Prop} {I E : List (List Value) → Heap → Prop} {EC : List (List Value) → Code → Heap → Prop} (htm : Agr X.n ρ0 [] { tmps := r.tmps, defers := [] }) (hps : r.params = ps) (hfit : ∀ t ∈ ps.toList, t < X.n)
    (hin : ∀ done Hs, I done Hs → (l, rdy r) ∈ Hs) (hlen : ∀ done vs, Pre done vs → vs.length = ps.size) (hE : ∀ done c Hs, EC done c Hs → E done Hs)
    (h : ∀ done vs Hs own, Pre done vs → I done Hs → V { X with r := some l } r.assign (bindP ps.toList vs ρ0) [] (Hs ++ own) (AsgQ { X with r := some l } l r r.body
      (EndX l r (fun H' => ∃ Hs', HSub (Hs' ++ own) H' ∧ I (done ++ [vs]) Hs') (fun c H' => ∃ Hs', HSub (Hs' ++ own) H' ∧ EC (done ++ [vs]) c Hs')))) :
    RoundX X.P X.w0 X.M l Pre I E := by
  intro done vs Hs own w hpre hI hg
  have hm : (l, rdy r) ∈ Hs ++ own := List.mem_append_left _ (hin done Hs hI)
  have hl := hg.own _ hm
  refine ⟨_, _, _, _, run_yield (r := { r with state := .ready, pending := none }) hl (by simp [hlen done vs hpre, hps]), ?_⟩
  refine roundIn_of_wpIn trivial ?_
  have hag : Agr X.n (bindP ps.toList vs ρ0) [] { tmps := (r.params.zip vs.toArray).foldl (fun tmps (x : Nat × Value) => match x with | (t, a) => tmps.setIfInBounds t a) r.tmps, defers := [] } := by
    have := agr_bind ps.toList vs hfit htm
    rw [hps]
    have e : (ps.zip vs.toArray) = (ps.toList.zip vs).toArray := by apply Array.toList_inj.1; simp
    rw [e]
    simpa using this
  refine wpIn_mono (h done vs Hs own hpre hI _ w hag hg) ?_
  rintro e a₁ w₁ ⟨ρ1, ds1, H1, hag1, hg1, hq⟩
  cases e <;> first | exact hq.elim | skip
  obtain ⟨H2, hset, hbody⟩ := hq
  have hl1 : w₁.heap[l]? = some (.loop { r with state := .ready, pending := none }) := hg1.own _ hset.mem
  refine ⟨_, run_beginRound hl1 rfl, ?_⟩
  have hg2 : Good X.w0 X.M H2 (w₁.putObj l (bsy r)) := hg1.set hset rfl ⟨rfl, rfl⟩
  refine wpIn_mono (hbody a₁ _ hag1 hg2) ?_
  rintro e a₂ w₂ ⟨ρ2, ds2, H3, hag3, hg3, hq⟩
  cases e <;> first | exact hq.elim | skip
  · obtain ⟨H4, hset2, Hs', hsub, hI'⟩ := hq
    have hl2 : w₂.heap[l]? = some (.loop { r with state := .busy, pending := none }) := hg3.own _ hset2.mem
    have hg4 : Good X.w0 X.M H4 (w₂.putObj l (rdy r)) := hg3.set hset2 rfl ⟨rfl, rfl⟩
    exact ⟨_, _, run_endRound none hl2, Hs', true, rfl, hg4.hsub hsub, .inl ⟨rfl, hI'⟩⟩
  · obtain ⟨H4, hset2, Hs', hsub, hI'⟩ := hq
    have hl2 : w₂.heap[l]? = some (.loop { r with state := .busy, pending := none }) := hg3.own _ hset2.mem
    rename_i id
    have hg4 : Good X.w0 X.M H4 (w₂.putObj l (dne r (.exit id))) := hg3.set hset2 rfl ⟨rfl, rfl⟩
    exact ⟨_, _, run_endRound (some (.exit id)) hl2, Hs', false, rfl, hg4.hsub hsub, .inr ⟨rfl, hE _ _ _ hI'⟩⟩
  obtain ⟨H4, hset2, Hs', hsub, hI'⟩ := hq
  have hl2 : w₂.heap[l]? = some (.loop { r with state := .busy, pending := none }) := hg3.own _ hset2.mem
  have hg4 : Good X.w0 X.M H4 (w₂.putObj l (dne r .ret)) := hg3.set hset2 rfl ⟨rfl, rfl⟩
  exact ⟨_, _, run_endRound (some .ret) hl2, Hs', false, rfl, hg4.hsub hsub, .inr ⟨rfl, hE _ _ _ hI'⟩⟩

theorem endX_n {l : Nat} {r : Loop} {K : Heap → Prop} {KE : Code → Heap → Prop} {H' : Heap} (hs : SetAt H l (bsy r) (rdy r) H') (h : K H') : EndX l r K KE .normal ρ ds H := ⟨H', hs, h⟩
theorem endX_r {l : Nat} {r : Loop} {K : Heap → Prop} {KE : Code → Heap → Prop} {H' : Heap} (hs : SetAt H l (bsy r) (dne r .ret) H') (h : KE .ret H') : EndX l r K KE .ret ρ ds H := ⟨H', hs, h⟩
abbrev LD (l D : Nat) (o : Obj) (Hr : Heap) : Heap := (l, o) :: (D, .deferred (some [])) :: Hr

/-- A range over a function: its rounds may leave it (by a return, or an exit), and the function may panic. Hi: what the function has for itself. -/
theorem V_rangeX {g : Operand} {ps : Array Tmp} {assign body : Code} {f : FuncId} {cap : Array Value} {ks : List Nat} {ρf : PEnv} {H0 Hi : Heap} (hr : X.r = none) (hk : Keep ρ ks ρf) (hgv : ρ.ev g = some (.func (.func f) #[] cap)) (hfit : ps.toList.all (Nat.blt · X.n) = true)
    (Pre : List (List Value) → List Value → Prop) (J : List (List Value) → Heap → Prop) (E : List (List Value) → Code → Heap → Prop) (Fin : List (List Value) → Prop) (Sp : List (List Value) → List PanicEntry → Prop)
    (hlen : ∀ done vs, Pre done vs → vs.length = ps.size) (hsub : (H0 ++ Hi).Sublist H) (h0 : J [] H0)
    (round : ∀ l D r done vs Hr own, Pre done vs → J done Hr → V { X with r := some l } assign (bindP ps.toList vs ρf) [] (LD l D (rdy r) (Hr ++ own))
      (AsgQ { X with r := some l } l r body (EndX l r (fun H' => ∃ Hr', HSub (LD l D (rdy r) (Hr' ++ own)) H' ∧ J (done ++ [vs]) Hr') (fun c H' => ∃ Hr', HSub (LD l D (dne r c) (Hr' ++ own)) H' ∧ E (done ++ [vs]) c Hr'))))
    (iter : ∀ l D r w, RoundX X.P X.w0 X.M l Pre (fun done Hs => ∃ Hr, Hs = LD l D (rdy r) Hr ∧ J done Hr) (fun done Hs => ∃ Hr c, Hs = LD l D (dne r c) Hr ∧ E done c Hr) → Good X.w0 X.M (LD l D (rdy r) (H0 ++ Hi)) w →
      FnX X.P f (.func (.yield l) #[] #[] :: cap.toList) w (fun _ w' => ∃ Hs, Good X.w0 X.M Hs w' ∧ ∃ done, (Fin done ∧ ∃ Hr, Hs = LD l D (rdy r) Hr ∧ J done Hr) ∨ ∃ Hr c, Hs = LD l D (dne r c) Hr ∧ E done c Hr)
        (fun ch w' => ∃ Hs, Good X.w0 X.M Hs w' ∧ ∃ done, Sp done ch ∧ ∃ Hr, Hs = LD l D (rdy r) Hr ∧ J done Hr))
    (k : ∀ l D ob done Hr, Fin done → J done Hr → Q .normal ρf ({ target := .collected D, args := #[] } :: ds) (LD l D ob Hr))
    (kE : ∀ l D ob done c Hr, E done c Hr → V X c ρf ({ target := .collected D, args := #[] } :: ds) (LD l D ob Hr) Q)
    (kP : ∀ l D ob done ch Hr, Sp done ch → J done Hr → Q (.panic ch) ρf ({ target := .collected D, args := #[] } :: ds) (LD l D ob Hr)) : V X (.rangeFunc g ps assign body) ρ ds H Q := by
  intro a w ha hg
  have hg0 := hg.sub hsub
  let D := w.heap.size
  let l := w.heap.size + 1
  refine wpIn_rangeFunc fun fn _ => ?_
  let r : Loop := { state := .ready, pending := none, fn := fn, tmps := a.tmps, params := ps, assign := assign, body := body, defers := D }
  have hga : Good X.w0 X.M (LD l D (rdy r) (H0 ++ Hi)) ((w.alloc (.deferred (some []))).alloc (.loop r)) := by
    have h1 := hg0.alloc (.deferred (some []))
    have h2 := h1.alloc (.loop r)
    have e : (w.alloc (.deferred (some []))).heap.size = w.heap.size + 1 := by simp
    rw [e] at h2
    exact h2
  have htm : Agr X.n ρf [] { tmps := r.tmps, defers := [] } := ⟨fun t v ht => (ha.sub hk.sub).at_ t v ht, ha.size, rfl⟩
  have hY : RoundX X.P X.w0 X.M l Pre (fun done Hs => ∃ Hr, Hs = LD l D (rdy r) Hr ∧ J done Hr) (fun done Hs => ∃ Hr c, Hs = LD l D (dne r c) Hr ∧ E done c Hr) := by
    refine roundX_of (ps := ps) (EC := fun done c Hs => ∃ Hr, Hs = LD l D (dne r c) Hr ∧ E done c Hr) htm rfl (fun t ht => Nat.le_of_ble_eq_true (List.all_eq_true.1 hfit t ht)) ?_ hlen ?_ ?_
    · rintro done Hs ⟨Hr, rfl, _⟩; exact .head _
    · rintro done c Hs ⟨Hr, rfl, hE⟩; exact ⟨Hr, c, rfl, hE⟩
    rintro done vs Hs own hp ⟨Hr, rfl, hJ⟩
    refine V.mono (round l D r done vs Hr own hp hJ) ?_
    intro e ρ1 ds1 H1 hq
    cases e <;> first | exact hq.elim | skip
    obtain ⟨H2, hs, hb⟩ := hq
    refine ⟨H2, hs, hb.mono ?_⟩
    intro e ρ2 ds2 H3 hq
    cases e <;> first | exact hq.elim | skip
    all_goals
      obtain ⟨H4, hs2, Hr', hh, hJ'⟩ := hq
      exact ⟨H4, hs2, _, hh, Hr', rfl, hJ'⟩
  have hc := iter l D r _ hY hga
  have hFr : (FW X.r).round = none := hr
  have h3 := ha.sub hk.sub
  have hag : Agr X.n ρf ({ target := .collected D, args := #[] } :: ds) { a with defers := [{ target := .collected D, args := #[] }] ++ a.defers } := ⟨h3.at_, h3.size, by show [({ target := .collected D, args := #[] } : Deferred)] ++ a.defers = _; rw [h3.defers]; rfl⟩
  refine ⟨l, [{ target := .collected D, args := #[] }], (w.alloc (.deferred (some []))).alloc (.loop r), { target := .fn (.func f) cap, args := #[.func (.yield l) #[] #[]] }, (w.alloc (.deferred (some []))).alloc (.loop r), f, (.func (.yield l) #[] #[] :: cap.toList).toArray, (w.alloc (.deferred (some []))).alloc (.loop r), ?_, ?_, fun _ _ => trivial, ?_, fun hd => (by simp [FW, Fence.wide] at hd), ?_⟩
  · rw [hFr]; exact run_enterLoop_outer fn a.tmps ps assign body
  · simp only [resolve, ha.ev hgv, Deferred.ofValue]
    simp [Act.eval]
  · have e : #[Value.func (.yield l) #[] #[]] ++ cap = (.func (.yield l) #[] #[] :: cap.toList).toArray := by simp
    show (callFunc f (#[Value.func (.yield l) #[] #[]] ++ cap)).run X.P _ = _
    rw [e]; exact hc.ent _ _
  refine callsIn_any (hc.calls.mono ?_)
  rintro e w' (⟨v, rfl, _, hg', done, h | ⟨Hr, c, rfl, hE⟩⟩ | ⟨ch, rfl, _, hg', done, hS, Hr, rfl, hJ⟩)
  · obtain ⟨hF, Hr, rfl, hJ⟩ := h
    have hl : w'.heap[l]? = some (.loop { r with state := .ready, pending := none }) := hg'.own _ (.head _)
    refine ⟨none, _, run_endLoop hl (by simp), ?_⟩
    exact ⟨ρf, _, _, hag, hg'.set .head rfl ⟨rfl, rfl⟩, k l D _ done Hr hF hJ⟩
  · have hl : w'.heap[l]? = some (.loop { r with state := .done, pending := some c }) := hg'.own _ (.head _)
    refine ⟨some c, _, run_endLoop hl (by simp), ?_⟩
    exact kE l D _ done c Hr hE _ _ hag (hg'.set .head rfl ⟨rfl, rfl⟩)
  exact ⟨ρf, _, _, hag, hg', kP l D _ done ch Hr hS hJ⟩
end
end Go.Vc

/- The memory of layer 5's program: rooms, picks, their maps. -/
set_option linter.all false
namespace Go.Tk
open Go.Vc

structure SliceN (w : World) (m size : Nat) (v : Value) (els : List (List Value)) : Prop where
  ex : ∃ a cap, v = .slice a els.length cap ∧ els.length ≤ cap ∧ ∀ i e, els[i]? = some e → ∃ b, a = some b ∧ b.block ≠ m ∧ cellsAt w (b.add (i * size)) e

theorem SliceN.good {w0 w : World} {m size : Nat} {H : Heap} {v : Value} {els : List (List Value)} (h : SliceN w0 m size v els) (hg : Vc.Good w0 [m] H w) : SliceN w m size v els := by
  obtain ⟨a, cap, hv, hl, hc⟩ := h.ex
  exact ⟨a, cap, hv, hl, fun i e hi => let ⟨b, hb, hm, hcb⟩ := hc i e hi; ⟨b, hb, hm, hg.cells hcb (by rw [Vc.add_block]; simpa using hm)⟩⟩

theorem SliceN.ext {w w' : World} {m size : Nat} {v : Value} {els : List (List Value)} (h : SliceN w m size v els) (he : Ext w w') : SliceN w' m size v els := by
  obtain ⟨a, cap, hv, hl, hc⟩ := h.ex
  exact ⟨a, cap, hv, hl, fun i e hi => let ⟨b, hb, hm, hcb⟩ := hc i e hi; ⟨b, hb, hm, he.cells hcb⟩⟩

theorem cellsAt.lt {w : World} {a : Addr} {v : Value} {vs : List Value} (h : cellsAt w a (v :: vs)) : a.block < w.heap.size := by
  have := h 0 v rfl
  have := World.block_lt_of_cell? w _ this
  rwa [Vc.add_block] at this

theorem SliceR.toN {w : World} {m size : Nat} {v : Value} {els : List (List Value)} (h : SliceR w size v els) (hne : ∀ e ∈ els, e ≠ []) (hm : w.heap.size ≤ m) : SliceN w m size v els := by
  obtain ⟨a, cap, hv, hl, hc⟩ := h.ex
  refine ⟨a, cap, hv, hl, fun i e hi => ?_⟩
  obtain ⟨b, hb, hcb⟩ := hc i e hi
  refine ⟨b, hb, ?_, hcb⟩
  cases e with
  | nil => exact absurd rfl (hne _ (List.mem_of_getElem? hi))
  | cons x e =>
    have := cellsAt.lt hcb
    rw [Vc.add_block] at this
    omega

/-- A pick at bp; its map is at bm. -/
structure PickR (w : World) (bp bm : Nat) (mv : Value) (t : Task) (ps : List Int) : Prop where
  good : GoodT t
  bnd : ∀ i ∈ ps, 0 ≤ i ∧ i < t.plots.length
  psl : ps.length ≤ 60
  ne : bp ≠ bm
  ex : ∃ tv pv sv ty fr, w.heap[bp]? = some (.cells #[.int .i64 t.frm, .int .i64 t.speed, .int .i64 t.accel, tv, pv, sv, mv] ty fr) ∧ SliceN w bm 6 tv (t.trackers.map Tracker.cells) ∧ SliceN w bm 5 pv (t.plots.map Plot.cells) ∧ SliceN w bm 1 sv (ps.map fun n => [.int .i64 n])

theorem PickR.good' {w0 w : World} {bp bm : Nat} {mv : Value} {t : Task} {ps : List Int} {H : Heap} (h : PickR w0 bp bm mv t ps) (hg : Vc.Good w0 [bm] H w) : PickR w bp bm mv t ps := by
  obtain ⟨tv, pv, sv, ty, fr, h1, h2, h3, h4⟩ := h.ex
  have hb : w.heap[bp]? = w0.heap[bp]? := hg.base bp (lt_of_some h1) (by simpa using h.ne)
  exact ⟨h.good, h.bnd, h.psl, h.ne, tv, pv, sv, ty, fr, hb.trans h1, h2.good hg, h3.good hg, h4.good hg⟩

theorem PickR.ext {w w' : World} {bp bm : Nat} {mv : Value} {t : Task} {ps : List Int} (h : PickR w bp bm mv t ps) (he : Ext w w') : PickR w' bp bm mv t ps := by
  obtain ⟨tv, pv, sv, ty, fr, h1, h2, h3, h4⟩ := h.ex
  exact ⟨h.good, h.bnd, h.psl, h.ne, tv, pv, sv, ty, fr, he.heap h1, h2.ext he, h3.ext he, h4.ext he⟩

/-! ### the cache -/

def Cache (t : Task) (ps : List Int) (es : Array MapEntry) : Prop :=
  ∃ l, MapIs es l ∧ ∀ p ∈ l, ∃ k u, p = ([ii k, ii u], Value.agg #[.int .i64 (placeT t ps k u).lo, .int .i64 (placeT t ps k u).hi])

theorem Cache.nil (t : Task) (ps : List Int) : Cache t ps #[] := ⟨[], MapIs.nil, fun p hp => by cases hp⟩

theorem eqL_ii {a b c d : Int} : eqL [ii a, ii b] [ii c, ii d] = true ↔ a = c ∧ b = d := by
  simp [eqL, ii, eqv]

theorem cache_look {t : Task} {ps : List Int} {l : List (List Value × Value)} (h : ∀ p ∈ l, ∃ k u, p = ([ii k, ii u], Value.agg #[.int .i64 (placeT t ps k u).lo, .int .i64 (placeT t ps k u).hi])) (k u : Int) :
    ∃ lo hi is, found l [ii k, ii u] (.agg #[.int .i64 0, .int .i64 0]) = .agg #[.int .i64 lo, .int .i64 hi] ∧ (l.find? (keyEq [ii k, ii u])).isSome = is ∧ (is = true → lo = (placeT t ps k u).lo ∧ hi = (placeT t ps k u).hi) ∧ (is = false → l.find? (keyEq [ii k, ii u]) = none) := by
  unfold found
  cases hf : l.find? (keyEq [ii k, ii u]) with
  | none => exact ⟨0, 0, false, rfl, rfl, fun e => (by cases e), fun _ => rfl⟩
  | some p =>
    obtain ⟨k', u', rfl⟩ := h p (List.mem_of_find?_eq_some hf)
    have hk := List.find?_some hf
    obtain ⟨rfl, rfl⟩ := eqL_ii.1 hk
    exact ⟨_, _, true, rfl, rfl, fun _ => ⟨rfl, rfl⟩, fun e => by cases e⟩

theorem cache_fit {t : Task} {ps : List Int} {l : List (List Value × Value)} (h : ∀ p ∈ l, ∃ k u, p = ([ii k, ii u], Value.agg #[.int .i64 (placeT t ps k u).lo, .int .i64 (placeT t ps k u).hi])) : ∀ p ∈ l, fitsL [.int .i64, .int .i64] p.1 = true := by
  intro p hp
  obtain ⟨k, u, rfl⟩ := h p hp
  rfl

theorem Cache.add {t : Task} {ps : List Int} {es : Array MapEntry} {l : List (List Value × Value)} {k u : Int} {v : Value} (h : ∀ p ∈ l, ∃ k u, p = ([ii k, ii u], Value.agg #[.int .i64 (placeT t ps k u).lo, .int .i64 (placeT t ps k u).hi]))
    (hm : MapIs es (l ++ [([ii k, ii u], v)])) (hv : v = .agg #[.int .i64 (placeT t ps k u).lo, .int .i64 (placeT t ps k u).hi]) : Cache t ps es := by
  subst hv
  refine ⟨_, hm, fun p hp => ?_⟩
  rcases List.mem_append.1 hp with hp | hp
  · exact h p hp
  rw [List.mem_singleton] at hp; exact ⟨k, u, hp⟩

/-- what fast returns -/
def FastV (o : Option Span) (v : Value) : Prop := ∃ lo hi ok, v = .tuple #[.agg #[.int .i64 lo, .int .i64 hi], .bool ok] ∧ ((ok = true ∧ o = some ⟨lo, hi⟩) ∨ (ok = false ∧ o = none))
theorem fv_none {ok : Bool} {o : Option Span} {s : Span} (h : (ok = true ∧ o = some s) ∨ (ok = false ∧ o = none)) (h1 : ok = false) : o = none := by
  rcases h with ⟨h, _⟩ | ⟨_, h⟩
  · rw [h1] at h; cases h
  exact h
theorem fv_some {ok : Bool} {o : Option Span} {s : Span} (h : (ok = true ∧ o = some s) ∨ (ok = false ∧ o = none)) (h1 : ok = true) : o = some s := by
  rcases h with ⟨_, h⟩ | ⟨h, _⟩
  · exact h
  rw [h1] at h; cases h

def Box.cells (b : Box) : List Value := [.int .i64 b.at_, .int .i64 b.x.lo, .int .i64 b.x.hi, .int .i64 b.y.lo, .int .i64 b.y.hi, .int .i64 b.z.lo, .int .i64 b.z.hi, .int .i64 b.vx.lo, .int .i64 b.vx.hi, .int .i64 b.vy.lo, .int .i64 b.vy.hi, .int .i64 b.vz.lo, .int .i64 b.vz.hi]
def boxZ : Box := ⟨0, ⟨0, 0⟩, ⟨0, 0⟩, ⟨0, 0⟩, ⟨0, 0⟩, ⟨0, 0⟩, ⟨0, 0⟩⟩
def boxV (o : Option Box) : Value := .tuple #[.agg (Box.cells (o.getD boxZ)).toArray, .bool o.isSome]

theorem down_eq {a b : Int} (hb : 0 < b) : (if a.tmod b < 0 then a.tdiv b - 1 else a.tdiv b) = a / b := by
  have h1 := Int.mul_tdiv_add_tmod a b
  have h2 := Int.mul_ediv_add_emod a b
  have h3 := Int.emod_nonneg a (by omega : b ≠ 0)
  have h4 := Int.emod_lt_of_pos a hb
  have h5 : -b < a.tmod b ∧ a.tmod b < b := by
    have := Int.tmod_lt_of_pos a hb
    have := Int.lt_tmod_of_pos a hb
    omega
  have key : ∀ q r q' r' : Int, b * q + r = a → b * q' + r' = a → 0 ≤ r → r < b → 0 ≤ r' → r' < b → q = q' := by
    intro q r q' r' e1 e2 r1 r2 r3 r4
    rcases Int.lt_trichotomy q q' with h | h | h
    · have := Int.mul_le_mul_of_nonneg_left (show q + 1 ≤ q' by omega) (by omega : 0 ≤ b)
      rw [Int.mul_add] at this; omega
    · exact h
    have := Int.mul_le_mul_of_nonneg_left (show q' + 1 ≤ q by omega) (by omega : 0 ≤ b)
    rw [Int.mul_add] at this; omega
  split
  · exact key _ (a.tmod b + b) _ _ (by rw [Int.mul_sub]; omega) h2 (by omega) (by omega) h3 h4
  exact key _ (a.tmod b) _ _ (by omega) h2 (by omega) (by omega) h3 h4

theorem ediv_abs {a b A : Int} (hb : 0 < b) (ha : -A ≤ a ∧ a ≤ A) : -A ≤ a / b ∧ a / b ≤ A := by
  constructor
  · exact Int.le_ediv_of_mul_le hb (by
      have := Int.mul_le_mul_of_nonneg_left (show 1 ≤ b by omega) (show 0 ≤ A by omega)
      rw [Int.neg_mul]; omega)
  have := Int.ediv_le_self b (a := A) (by omega)
  have := Int.ediv_le_ediv hb ha.2
  omega

theorem tdiv_abs {a b A : Int} (hb : 0 < b) (ha : -A ≤ a ∧ a ≤ A) : -A ≤ a.tdiv b ∧ a.tdiv b ≤ A := by
  have h := @down_eq a b hb
  have h1 := ediv_abs hb ha
  split at h
  · have : a.tdiv b ≤ 0 := by
      rcases Int.lt_or_le a 0 with h' | h'
      · have e : a.tdiv b = -((-a).tdiv b) := by rw [Int.neg_tdiv]; omega
        have := Int.tdiv_nonneg (a := -a) (b := b) (by omega) (by omega)
        omega
      have := Int.tmod_nonneg b h'; omega
    omega
  omega

end Go.Tk

namespace Go.Vc
/-- A function that turns one block of its caller's. -/
theorem fn_mod {P : Program} {f : FuncId} {fn : Func} {c : Code} {args : List Value} {w : World} {b : Nat} {o : Obj} {n : Nat} {rs : List ResultVar} {R : Value → Obj → Prop}
    (hf : P.funcs[f]? = some fn) (hb : fn.body = some c) (hname : (fn.name == "runtime.NumGoroutine") = false) (hn : fn.ntmps = n) (hr : fn.results = rs.toArray) (hl : Nat.ble args.length n = true) (ho : w.heap[b]? = some o)
    (h : V ⟨P, none, n, w, [b]⟩ c (argEnv args 0) [] [(b, o)] (RetQ P rs fun v H => ∃ o', (b, o') ∈ H ∧ R v o')) : FnC P f args w fun v w' => ∃ o', Good w [b] [(b, o')] w' ∧ R v o' :=
  (fn_body (M := [b]) (H0 := [(b, o)]) hf hb hname hn hr hl (Good.startWith (H := [(b, o)]) (by simpa using ho) (by simp)) h).mono fun v w' ⟨H, hg, o', hm, hR⟩ =>
    ⟨o', hg.of_sub (by simpa using hm) (by simp), hR⟩

/-- A function that hands over new blocks. -/
theorem fn_new {P : Program} {f : FuncId} {fn : Func} {c : Code} {args : List Value} {w : World} {n : Nat} {rs : List ResultVar} {R : Value → Heap → Prop}
    (hf : P.funcs[f]? = some fn) (hb : fn.body = some c) (hname : (fn.name == "runtime.NumGoroutine") = false) (hn : fn.ntmps = n) (hr : fn.results = rs.toArray) (hl : Nat.ble args.length n = true)
    (h : V ⟨P, none, n, w, []⟩ c (argEnv args 0) [] [] (RetQ P rs fun v H => ∃ Hc, HSub Hc H ∧ R v Hc)) : FnC P f args w fun v w' => ∃ Hc, Good w [] Hc w' ∧ R v Hc :=
  (fn_body hf hb hname hn hr hl (Good.start w) h).mono fun v w' ⟨H, hg, Hc, hs, hR⟩ => ⟨Hc, hg.hsub hs, hR⟩

/-- A function that lives on another's memory. -/
theorem fn_over {P : Program} {f : FuncId} {fn : Func} {c : Code} {args : List Value} {w0 w : World} {M : List Nat} {H0 : Heap} {n : Nat} {rs : List ResultVar} {R : Value → Heap → Prop}
    (hf : P.funcs[f]? = some fn) (hb : fn.body = some c) (hname : (fn.name == "runtime.NumGoroutine") = false) (hn : fn.ntmps = n) (hr : fn.results = rs.toArray) (hl : Nat.ble args.length n = true) (hg : Good w0 M H0 w)
    (h : V ⟨P, none, n, w0, M⟩ c (argEnv args 0) [] H0 (RetQ P rs fun v H => ∃ Hc, HSub Hc H ∧ R v Hc)) : FnC P f args w fun v w' => ∃ Hc, Good w0 M Hc w' ∧ R v Hc :=
  (fn_bodyG hf hb hname hn hr hl hg h).mono fun v w' ⟨H, hg, Hc, hs, hR⟩ => ⟨Hc, hg.hsub hs, hR⟩

end Go.Vc

namespace Go.Tk
open Go.Vc

def iv (i : Int) : List Value := [.int .i64 i]
def knownV (t : Task) (now : Int) (n : Nat) : List (List Value) := (knownN t now n).map iv

theorem knownV_yes {t : Task} {now k : Int} (hk : 0 ≤ k) (h : knownB t now k.toNat = true) : knownV t now (k + 1).toNat = knownV t now k.toNat ++ [[.int .i64 k]] := by
  have e : (k + 1).toNat = k.toNat + 1 := by omega
  have e2 : Int.ofNat k.toNat = k := Int.toNat_of_nonneg hk
  rw [e, knownV, knownN, List.range_succ, List.filter_append, List.map_append, List.map_append]
  simp only [List.filter_cons, h, if_true, List.filter_nil, List.map_cons, List.map_nil, e2]
  rfl
theorem knownV_no {t : Task} {now k : Int} (hk : 0 ≤ k) (h : knownB t now k.toNat = false) : knownV t now (k + 1).toNat = knownV t now k.toNat := by
  have e : (k + 1).toNat = k.toNat + 1 := by omega
  rw [e, knownV, knownN, List.range_succ, List.filter_append]
  simp [h, knownV, knownN]

theorem knownV_len {t : Task} {now : Int} {n : Nat} : (knownV t now n).length ≤ n := by
  have h := List.length_filter_le (knownB t now) (List.range n)
  simp only [knownV, knownN, List.length_map, List.length_range] at h ⊢
  exact h

theorem iv_inj {a b : List Int} (h : a.map iv = b.map iv) : a = b := by
  induction a generalizing b with
  | nil => cases b with
    | nil => rfl
    | cons y b => simp at h
  | cons x a ih => cases b with
    | nil => simp at h
    | cons y b =>
      simp only [List.map_cons, List.cons.injEq, iv, Value.int.injEq, true_and, and_true] at h
      rw [h.1, ih h.2]

theorem knownN_bnd {t : Task} {now : Int} {n : Nat} : ∀ i ∈ knownN t now n, 0 ≤ i ∧ i < n := by
  intro i hi
  obtain ⟨j, hj, rfl⟩ := List.mem_map.1 hi
  have := List.mem_range.1 (List.mem_filter.1 hj).1
  simp only [Int.ofNat_eq_natCast]
  omega

def iiL (l : List Int) : List Value := l.map fun i => Value.int .i64 i

theorem filt_yes {p : Int → Bool} {is : List Int} {i : Int} (h : p i = true) : (is ++ [i]).filter p = is.filter p ++ [i] := by simp [List.filter_append, h]
theorem filt_no {p : Int → Bool} {is : List Int} {i : Int} (h : p i = false) : (is ++ [i]).filter p = is.filter p := by simp [List.filter_append, h]

end Go.Tk

namespace Go.Vc
theorem Good.uniq {w0 w : World} {M : List Nat} {H : Heap} (h : Good w0 M H w) {b : Nat} {o o' : Obj} (h1 : (b, o) ∈ H) (h2 : (b, o') ∈ H) : o = o' := by
  have e1 := h.own _ h1
  have e2 := h.own _ h2
  simp only at e1 e2
  rw [e1] at e2
  exact Option.some.inj e2

end Go.Vc

namespace Go.Tk
open Go.Vc

theorem TaskR.lit {w : World} {t : Task} {a b c : Int} {tv pv : Value} (h : TaskR w (.agg #[.int .i64 a, .int .i64 b, .int .i64 c, tv, pv]) t) :
    a = t.frm ∧ b = t.speed ∧ c = t.accel ∧ SliceR w 6 tv (t.trackers.map Tracker.cells) ∧ SliceR w 5 pv (t.plots.map Plot.cells) := by
  obtain ⟨tv', pv', e, htr, hpl⟩ := h.ex
  simp only [Value.agg.injEq, Array.mk.injEq, List.cons.injEq, Value.int.injEq, and_true, true_and] at e
  obtain ⟨rfl, rfl, rfl, rfl, rfl⟩ := e
  exact ⟨rfl, rfl, rfl, htr, hpl⟩

theorem byT_bnd {t : Task} {now : Int} {want : Int → Bool} : ∀ i ∈ byT t now want, 0 ≤ i ∧ i < t.plots.length := by
  intro i hi
  exact knownN_bnd i (List.mem_filter.1 hi).1
theorem byT_len {t : Task} {now : Int} {want : Int → Bool} : (byT t now want).length ≤ t.plots.length := by
  have h1 := List.length_filter_le (fun i : Int => want (t.pl i.toNat).tracker) (knownN t now t.plots.length)
  have h2 := knownV_len (t := t) (now := now) (n := t.plots.length)
  simp only [knownV, List.length_map] at h2
  unfold byT byN
  omega

theorem PickR.own {w0 w : World} {H G : Heap} {bp bm clk ty el : Nat} {t : Task} {now : Int} {want : Int → Bool} {tv pv sv : Value} {es : Array MapEntry} (hg : Vc.Good w0 [] H w) (hG : GoodT t) (hT : TaskR w0 (.agg #[.int .i64 t.frm, .int .i64 t.speed, .int .i64 t.accel, tv, pv]) t) (hbm : w0.heap.size ≤ bm)
    (h1 : (bp, Obj.cells #[.int .i64 t.frm, .int .i64 t.speed, .int .i64 t.accel, tv, pv, sv, .map (some bm)] ty) ∈ H) (h2 : (bm, Obj.map es clk) ∈ H) (h3 : ∀ p ∈ G, p ∈ H) (hgr : Grow el 1 sv (byT t now want).length (iiL (byT t now want)) G) :
    PickR w bp bm (.map (some bm)) t (byT t now want) := by
  obtain ⟨tv', pv', e, htr, hpl⟩ := hT.ex
  simp only [Value.agg.injEq, Array.mk.injEq, List.cons.injEq, and_true, true_and] at e
  obtain ⟨rfl, rfl⟩ := e
  have hsz : w0.heap.size ≤ w.heap.size := hg.size
  have toN : ∀ {size : Nat} {v : Value} {els : List (List Value)}, SliceR w0 size v els → (∀ e ∈ els, e ≠ []) → SliceN w bm size v els := by
    intro size v els h hne
    exact (h.toN hne hbm).ext hg.toExt
  refine ⟨hG, byT_bnd, Nat.le_trans byT_len hG.h2, ?_, tv, pv, sv, ty, _, hg.own _ h1, toN htr (by intro e he; obtain ⟨x, _, rfl⟩ := List.mem_map.1 he; simp [Tracker.cells]), toN hpl (by intro e he; obtain ⟨x, _, rfl⟩ := List.mem_map.1 he; simp [Plot.cells]), ?_⟩
  · rintro rfl
    have := hg.uniq h1 h2
    cases this
  generalize hps : byT t now want = ps at hgr
  generalize hn : ps.length = n at hgr
  generalize hxs : iiL ps = xs at hgr
  cases hgr with
  | nil =>
    have e1 := hn
    refine ⟨none, 0, ?_, ?_, ?_⟩
    · rw [List.length_map, e1]
    · rw [List.length_map, e1]; exact Nat.le_refl _
    intro i e hi
    have : ps = [] := List.eq_nil_of_length_eq_zero e1
    rw [this] at hi; simp at hi
  | row q1 q2 q3 q4 q5 =>
    rename_i b cap cur
    have hm := h3 (b, .cells cur el) (.head _)
    refine ⟨_, _, by rw [List.length_map, hn], by rw [List.length_map, hn]; exact q1, fun i e hi => ⟨_, rfl, ?_, ?_⟩⟩
    · intro h
      simp only at h
      subst h
      have := hg.uniq hm h2
      cases this
    intro j v hj
    rw [List.getElem?_map] at hi
    cases hx : ps[i]? with
    | none => rw [hx] at hi; cases hi
    | some x =>
      rw [hx] at hi
      simp only [Option.map_some, Option.some.injEq] at hi
      subst hi
      cases j with
      | succ j => simp at hj
      | zero =>
        simp only [List.getElem?_cons_zero, Option.some.injEq] at hj
        subst hj
        rw [add_none, add_none, own_cell (hg.own _ hm)]
        have h4 : xs[i]? = some (Value.int .i64 x) := by rw [← hxs, iiL, List.getElem?_map, hx]; rfl
        rw [← q4, List.getElem?_take] at h4
        split at h4
        · simpa using h4
        cases h4

def othersV (t : Task) (u now : Int) (n : Nat) : List (Int × Box) := (List.range n).filterMap fun (i : Nat) => (boxT t (byT t now (fun x => decide (x ≠ (i : Int)))) u).map fun b => ((i : Int), b)
def ov (p : Int × Box) : List Value := [.int .i64 p.1, .agg (Box.cells p.2).toArray]

theorem othersV_yes {t : Task} {u now k : Int} {b : Box} (hk : 0 ≤ k) (h : boxT t (byT t now (fun x => decide (x ≠ k))) u = some b) : othersV t u now (k + 1).toNat = othersV t u now k.toNat ++ [(k, b)] := by
  have e : (k + 1).toNat = k.toNat + 1 := by omega
  have e2 : ((k.toNat : Nat) : Int) = k := Int.toNat_of_nonneg hk
  rw [e, othersV, List.range_succ, List.filterMap_append]
  simp only [List.filterMap_cons, List.filterMap_nil, e2, h, Option.map_some]
  rfl
theorem othersV_no {t : Task} {u now k : Int} (hk : 0 ≤ k) (h : boxT t (byT t now (fun x => decide (x ≠ k))) u = none) : othersV t u now (k + 1).toNat = othersV t u now k.toNat := by
  have e : (k + 1).toNat = k.toNat + 1 := by omega
  have e2 : ((k.toNat : Nat) : Int) = k := Int.toNat_of_nonneg hk
  rw [e, othersV, List.range_succ, List.filterMap_append]
  simp only [List.filterMap_cons, List.filterMap_nil, e2, h, Option.map_none, List.append_nil]
  rfl

theorem othersV_len {t : Task} {u now : Int} {n : Nat} : ((othersV t u now n).map ov).length ≤ n := by
  have h := List.length_filterMap_le (fun (i : Nat) => (boxT t (byT t now (fun x => decide (x ≠ (i : Int)))) u).map fun b => ((i : Int), b)) (List.range n)
  rw [List.length_range] at h
  rw [List.length_map]; exact h
theorem isSome_get {o : Option Box} (h : o.isSome = true) : o = some (o.getD boxZ) := by cases o <;> simp at h ⊢
theorem isSome_none {o : Option Box} (h : o.isSome = false) : o = none := by cases o <;> simp at h ⊢

end Go.Tk

/- Layer 5: what is done with boxes. -/
set_option linter.all false
namespace Go.Tk
open Go.Vc

/-! ### boxes -/

def wideB (b : Box) : Int := max (max (b.x.hi - b.x.lo) (b.y.hi - b.y.lo)) (b.z.hi - b.z.lo)
def meetS (a b : Span) : Bool := decide (a.lo ≤ b.hi) && decide (b.lo ≤ a.hi)
def meetB (a b : Box) : Bool := meetS a.x b.x && (meetS a.y b.y && (meetS a.z b.z && (meetS a.vx b.vx && (meetS a.vy b.vy && meetS a.vz b.vz))))
structure BoxB (B : Int) (b : Box) : Prop where
  x : SpanB B b.x
  y : SpanB B b.y
  z : SpanB B b.z

def foundT (o : Option Box) : Value := .tuple #[.agg (Box.cells (o.getD boxZ)).toArray, .int .i64 (if o.isSome then 0 else 9)]

end Go.Tk

/- Layer 5: spare boxes, and the best source. -/
set_option linter.all false
namespace Go.Tk
open Go.Vc

def joinS (a b : Span) : Span := ⟨min a.lo b.lo, max a.hi b.hi⟩
def joinB (a b : Box) : Box := ⟨a.at_, joinS a.x b.x, joinS a.y b.y, joinS a.z b.z, joinS a.vx b.vx, joinS a.vy b.vy, joinS a.vz b.vz⟩
def addB (acc : Option Box) (b : Box) : Option Box := match acc with
  | none => some b
  | some a => some (joinB a b)
def foldB (l : List (Int × Box)) : Option Box := l.foldl (fun acc p => addB acc p.2) none
theorem foldB_snoc (l : List (Int × Box)) (p : Int × Box) : foldB (l ++ [p]) = addB (foldB l) p.2 := by simp [foldB]
def spareT (t : Task) (u now : Int) : Option Box := if t.trackers.length = 0 then boxT t (byT t now fun _ => true) u else foldB (othersV t u now t.trackers.length)

theorem ov_inj {a b : List (Int × Box)} (h : a.map ov = b.map ov) : a = b := by
  induction a generalizing b with
  | nil => cases b with
    | nil => rfl
    | cons y b => simp at h
  | cons x a ih => cases b with
    | nil => simp at h
    | cons y b =>
      simp only [List.map_cons, List.cons.injEq] at h
      have e : x = y := by
        obtain ⟨i, p⟩ := x
        obtain ⟨j, q⟩ := y
        have h1 := h.1
        simp only [ov, List.cons.injEq, Value.int.injEq, Value.agg.injEq, Array.mk.injEq, Box.cells, true_and, and_true] at h1
        obtain ⟨h1, h2, h3, h4, h5, h6, h7, h8, h9, h10, h11, h12, h13, h14⟩ := h1
        obtain ⟨a0, ⟨a1, a2⟩, ⟨a3, a4⟩, ⟨a5, a6⟩, ⟨a7, a8⟩, ⟨a9, a10⟩, ⟨a11, a12⟩⟩ := p
        obtain ⟨b0, ⟨b1, b2⟩, ⟨b3, b4⟩, ⟨b5, b6⟩, ⟨b7, b8⟩, ⟨b9, b10⟩, ⟨b11, b12⟩⟩ := q
        simp_all
      rw [e, ih h.2]

end Go.Tk

namespace Go.Tk
open Go.Vc

theorem SliceR.nil (w : World) (size : Nat) : SliceR w size (.slice none 0 0) [] := ⟨none, 0, rfl, Nat.le_refl _, fun i e h => by simp at h⟩

theorem asked_zero {t : Task} {l : List Int} (h : askedT t l = 0) : GoodT t ∧ ∀ n ∈ l, 0 ≤ n ∧ n ≤ 100000 := by
  unfold askedT at h
  split at h
  · cases h
  rename_i hn
  refine ⟨good_of_check h, fun n hm => ?_⟩
  have : ¬ (l.any fun n => oP n 0 100000) = true := fun ha => hn ⟨h, ha⟩
  rw [List.any_eq_true] at this
  cases ho : oP n 0 100000
  · exact oP_in ho
  exact absurd ⟨n, hm, ho⟩ this

theorem PickR.box {w0 w : World} {H : Heap} {bp ty : Nat} {t : Task} {tv pv : Value} (hg : Vc.Good w0 [] H w) (hG : GoodT t) (hT : TaskR w0 (.agg #[.int .i64 t.frm, .int .i64 t.speed, .int .i64 t.accel, tv, pv]) t)
    (h1 : (bp, Obj.cells #[.int .i64 t.frm, .int .i64 t.speed, .int .i64 t.accel, tv, pv, .slice none 0 0, .map none] ty) ∈ H) : PickR w bp w.heap.size (.map none) t [] := by
  obtain ⟨_, _, _, htr, hpl⟩ := hT.lit
  have toN : ∀ {size : Nat} {v : Value} {els : List (List Value)}, SliceR w0 size v els → (∀ e ∈ els, e ≠ []) → SliceN w w.heap.size size v els := fun h hne => (h.ext hg.toExt).toN hne (Nat.le_refl _)
  refine ⟨hG, fun i hi => (by cases hi), Nat.zero_le _, ?_, tv, pv, _, ty, _, hg.own _ h1, toN htr (by intro e he; obtain ⟨x, _, rfl⟩ := List.mem_map.1 he; simp [Tracker.cells]), toN hpl (by intro e he; obtain ⟨x, _, rfl⟩ := List.mem_map.1 he; simp [Plot.cells]), ?_⟩
  · have := hg.lt h1
    simp only at this
    omega
  exact ⟨none, 0, rfl, Nat.le_refl _, fun i e h => by simp at h⟩

def spareR (t : Task) (u now : Int) : Value := if askedT t [u, now] ≠ 0 then .tuple #[.agg (Box.cells boxZ).toArray, .int .i64 (askedT t [u, now])] else foundT (spareT t u now)
end Go.Tk

/- Layer 5: rows of an owned block as a slice; the example's task. -/
set_option linter.all false
namespace Go.Tk
open Go.Vc

theorem flat_at {α : Type} {size : Nat} : ∀ (els : List (List α)) (i j : Nat) (e : List α), (∀ e ∈ els, e.length = size) → els[i]? = some e → j < size → els.flatten[i * size + j]? = e[j]? := by
  intro els
  induction els with
  | nil => intro i j e _ h; simp at h
  | cons a els ih =>
    intro i j e hs h hj
    have ha := hs a (.head _)
    rw [List.flatten_cons]
    cases i with
    | zero =>
      simp only [List.getElem?_cons_zero, Option.some.injEq] at h
      subst h
      rw [Nat.zero_mul, Nat.zero_add, List.getElem?_append_left (by omega)]
    | succ i =>
      simp only [List.getElem?_cons_succ] at h
      rw [List.getElem?_append_right (by rw [ha, Nat.add_mul]; omega), ha, show (i + 1) * size + j - size = i * size + j by rw [Nat.add_mul]; omega]
      exact ih i j e (fun x hx => hs x (.tail _ hx)) h hj

theorem own_rows {w : World} {b n cap ty size : Nat} {cells : Array Value} {fr : Nat × Nat} {els : List (List Value)} (h : w.heap[b]? = some (.cells cells ty fr)) (hc : cells = els.flatten.toArray) (hs : ∀ e ∈ els, e.length = size) (hn : n = els.length) (hcap : n ≤ cap) :
    SliceR w size (.slice (some ⟨b, 0, none⟩) n cap) els := by
  subst hn hc
  refine ⟨some ⟨b, 0, none⟩, cap, rfl, hcap, fun i e hi => ⟨_, rfl, fun j v hj => ?_⟩⟩
  have hjl : j < size := by rw [← hs e (List.mem_of_getElem? hi)]; exact (List.getElem?_eq_some_iff.1 hj).1
  rw [add_none, add_none, own_cell h, Nat.zero_add, List.toList_toArray, flat_at els i j e hs hi hjl]
  exact hj

def exPl : List Plot := [⟨0, 120, 0, 0, 10000⟩, ⟨1, 120, 1000, 0, 8000⟩, ⟨2, 120, 200, 100, 9500⟩, ⟨2, 130, 300, 200, 19000⟩]
end Go.Tk

/- Layer 5: lists that are returned; the reference's ways to reckon. -/
set_option linter.all false
namespace Go.Tk
open Go.Vc

/-! ### lists that are returned -/

/-- The call returns a list in new memory. -/
def ListOut (ty : Nat) (xs : List Int) (f : Value → Value) (v : Value) (A G : Heap) : Prop := ∃ sv, A = [] ∧ v = f sv ∧ Grow ty 1 sv xs.length (iiL xs) G

theorem Grow.slice {el n : Nat} {v : Value} {xs : List Int} {G : Heap} (h : Grow el 1 v n (iiL xs) G) {w : World} (hg : ∀ p ∈ G, w.heap[p.1]? = some p.2) : SliceR w 1 v (xs.map fun n => [Value.int .i64 n]) := by
  obtain ⟨a, cap, rfl, hc, hl, hx⟩ := h.cells hg
  have hn : n = xs.length := by rw [iiL, List.length_map] at hl; omega
  subst hn
  refine ⟨a, cap, by simp, by simpa using hc, fun i e hi => ?_⟩
  rw [List.getElem?_map] at hi
  cases hi' : xs[i]? with
  | none => rw [hi'] at hi; cases hi
  | some x =>
    rw [hi'] at hi
    simp only [Option.map_some, Option.some.injEq] at hi
    subst hi
    obtain ⟨b, hb, hv⟩ := hx i (.int .i64 x) (by rw [iiL, List.getElem?_map, hi']; rfl)
    refine ⟨b, hb, fun j v hj => ?_⟩
    cases j with
    | succ j => simp at hj
    | zero =>
      simp only [List.getElem?_cons_zero, Option.some.injEq] at hj
      subst hj
      rw [Nat.mul_one, add_zero']
      exact hv

theorem ints_ne {a b : List Int} {k : Nat} (h : a.getD k 0 ≠ b.getD k 0) : decide (a = b) = false := by
  rw [decide_eq_false_iff_not]; rintro rfl; exact h rfl
theorem ints_eq {a b : List Int} (hl : a.length = b.length) (h : ∀ k : Nat, k < a.length → a.getD k 0 = b.getD k 0) : a = b := by
  refine List.ext_getElem hl fun i h1 h2 => ?_
  have := h i h1
  rwa [List.getD_eq_getElem?_getD, List.getD_eq_getElem?_getD, List.getElem?_eq_getElem h1, List.getElem?_eq_getElem h2] at this

/-! ### pairs -/
def foundP (o : Option Box) : Box × Int := (o.getD boxZ, if o.isSome then 0 else 9)
def spareP (t : Task) (u now : Int) : Box × Int := if askedT t [u, now] ≠ 0 then (boxZ, askedT t [u, now]) else foundP (spareT t u now)
theorem spareR_eq (t : Task) (u now : Int) : spareR t u now = .tuple #[.agg (Box.cells (spareP t u now).1).toArray, .int .i64 (spareP t u now).2] := by
  unfold spareR spareP; split <;> rfl

end Go.Tk

/- Layer 5: one tracker's box, the best source, who may fail; boxes ahead. -/
set_option linter.all false
namespace Go.Tk
open Go.Vc

/-! ### one tracker alone -/
section
variable {t : Task} {tr u now : Int}
end

/-! ### the best source -/
def bestStep (p : Int × Int) (i : Int) (o : Option Box) (s : Box) : Int × Int := match o with
  | none => p
  | some b => if meetB b s = true ∧ (p.1 < 0 ∨ wideB b < p.2) then (i, wideB b) else p
def ownT (t : Task) (u now : Int) (i : Int) : Option Box := boxT t (byT t now fun x => decide (x = i)) u
def bestN (t : Task) (s : Box) (u now : Int) : Nat → Int × Int
  | 0 => (-1, 0)
  | n + 1 => bestStep (bestN t s u now n) n (ownT t u now n) s
def bestP (t : Task) (u now : Int) : Int × Int :=
  if (spareP t u now).2 ≠ 0 then (0, (spareP t u now).2) else if (bestN t (spareP t u now).1 u now t.trackers.length).1 < 0 then (0, 4) else ((bestN t (spareP t u now).1 u now t.trackers.length).1, 0)
theorem spareP_ok {t : Task} {u now : Int} (h : (spareP t u now).2 = 0) : askedT t [u, now] = 0 ∧ spareT t u now = some (spareP t u now).1 := by
  unfold spareP at h ⊢
  split at h
  · rename_i hn; exact absurd h hn
  rename_i hn
  rw [if_neg hn]
  refine ⟨Decidable.of_not_not hn, ?_⟩
  cases hs : spareT t u now with
  | none => rw [hs] at h; cases h
  | some b => rfl
/-! ### who may fail -/
/-! ### a box's check, and boxes ahead -/
end Go.Tk

/- Layer 5: how the reference reckons boxes. -/
set_option linter.all false
namespace Go.Tk
open Go.Vc

end Go.Tk

namespace Go.Tk
open Go.Vc
end Go.Tk

/- Layer 5: boxes are not empty; spare boxes as the reference reckons them. -/
set_option linter.all false
namespace Go.Tk
open Go.Vc

/-- no span of the box is empty -/
structure BoxNe (b : Box) : Prop where
  x : b.x.lo ≤ b.x.hi
  y : b.y.lo ≤ b.y.hi
  z : b.z.lo ≤ b.z.hi
  vx : b.vx.lo ≤ b.vx.hi
  vy : b.vy.lo ≤ b.vy.hi
  vz : b.vz.lo ≤ b.vz.hi

theorem none_false {s : Span} (h : s.none = false) : s.lo ≤ s.hi := by
  simp only [Span.none, decide_eq_false_iff_not] at h; omega
theorem boxT_parts {t : Task} {ps : List Int} {u : Int} {b : Box} (h : boxT t ps u = some b) : ∃ p0 p1 p2, partT t ps 0 u = some p0 ∧ partT t ps 1 u = some p1 ∧ partT t ps 2 u = some p2 ∧ b = ⟨u, p0.1, p1.1, p2.1, p0.2, p1.2, p2.2⟩ := by
  unfold boxT at h
  cases h0 : partT t ps 0 u with
  | none => rw [h0] at h; cases h
  | some p0 =>
    cases h1 : partT t ps 1 u with
    | none => rw [h0, Option.bind_some, h1] at h; cases h
    | some p1 =>
      cases h2 : partT t ps 2 u with
      | none => rw [h0, Option.bind_some, h1, Option.bind_some, h2] at h; cases h
      | some p2 =>
        rw [h0, Option.bind_some, h1, Option.bind_some, h2] at h
        simp only [Option.bind_some, Option.some.injEq] at h
        exact ⟨p0, p1, p2, rfl, rfl, rfl, h.symm⟩
theorem foldB_yes {t : Task} {u now k : Int} {b : Box} (hk : 0 ≤ k) (h : boxT t (byT t now (fun x => decide (x ≠ k))) u = some b) : foldB (othersV t u now (k + 1).toNat) = addB (foldB (othersV t u now k.toNat)) b := by
  rw [othersV_yes hk h, foldB_snoc]
theorem foldB_no {t : Task} {u now k : Int} (hk : 0 ≤ k) (h : boxT t (byT t now (fun x => decide (x ≠ k))) u = none) : foldB (othersV t u now (k + 1).toNat) = foldB (othersV t u now k.toNat) := by
  rw [othersV_no hk h]
end Go.Tk

/- Layer 5: with less that binds, no box becomes less. -/
set_option linter.all false
namespace Go.Tk
open Go.Vc

/-- a span within another one, by its ends -/
def InS (a b : Span) : Prop := b.lo ≤ a.lo ∧ a.hi ≤ b.hi
theorem InS.none {a b : Span} (h : InS a b) (ha : a.none = false) : b.none = false := by
  have := none_false ha
  simp only [Span.none, decide_eq_false_iff_not]
  have := h.1; have := h.2; omega
structure InB (a b : Box) : Prop where
  at_ : a.at_ = b.at_
  x : InS a.x b.x
  y : InS a.y b.y
  z : InS a.z b.z
  vx : InS a.vx b.vx
  vy : InS a.vy b.vy
  vz : InS a.vz b.vz

/-- what binds (t', ps') binds (t, ps) no less -/
structure Binds (t : Task) (ps : List Int) (t' : Task) (ps' : List Int) : Prop where
  frm : t.frm = t'.frm
  speed : t.speed ≤ t'.speed
  accel : 0 ≤ t.accel ∧ t.accel ≤ t'.accel
  reach : ∀ n, 0 ≤ n → reachT t n ≤ reachT t' n
  plots : ∀ i' ∈ ps', ∃ i ∈ ps, ∀ k u, InS (plotS t k u i) (plotS t' k u i')

theorem fold_in {t : Task} {k u : Int} : ∀ (l : List Int) (s : Span), InS (l.foldl (fun s i => common s (plotS t k u i)) s) s ∧ ∀ i ∈ l, InS (l.foldl (fun s i => common s (plotS t k u i)) s) (plotS t k u i) := by
  intro l
  induction l with
  | nil => intro s; exact ⟨⟨Int.le_refl _, Int.le_refl _⟩, fun i h => by cases h⟩
  | cons i l ih =>
    intro s
    obtain ⟨h1, h2⟩ := ih (common s (plotS t k u i))
    simp only [List.foldl_cons]
    have hc : InS (common s (plotS t k u i)) s ∧ InS (common s (plotS t k u i)) (plotS t k u i) := by
      simp only [InS, common]; omega
    have tr : ∀ {a b c : Span}, InS a b → InS b c → InS a c := fun p q => ⟨Int.le_trans q.1 p.1, Int.le_trans p.2 q.2⟩
    refine ⟨tr h1 hc.1, fun j hj => ?_⟩
    rcases List.mem_cons.1 hj with rfl | hj
    · exact tr h1 hc.2
    exact h2 j hj
theorem fold_out {t : Task} {k u : Int} {a : Span} : ∀ (l : List Int) (s : Span), InS a s → (∀ i ∈ l, InS a (plotS t k u i)) → InS a (l.foldl (fun s i => common s (plotS t k u i)) s) := by
  intro l
  induction l with
  | nil => intro s h _; exact h
  | cons i l ih =>
    intro s h hp
    refine ih _ ?_ (fun j hj => hp j (.tail _ hj))
    have h2 := hp i (.head _)
    simp only [InS, common] at h h2 ⊢; omega

theorem place_mono {t t' : Task} {ps ps' : List Int} (h : Binds t ps t' ps') (k u : Int) : InS (placeT t ps k u) (placeT t' ps' k u) := by
  unfold placeT
  rw [h.frm]
  split
  · rename_i hu
    have hr := h.reach (u - t.frm) (by rw [h.frm]; omega)
    obtain ⟨h1, h2⟩ := fold_in (t := t) (k := k) (u := u) ps (room0 (min 2000000000 (reachT t (u - t.frm))))
    refine fold_out _ _ ?_ (fun i' hi' => ?_)
    · have : InS (placeN t ps k u) (room0 (min 2000000000 (reachT t (u - t.frm)))) := h1
      rw [← h.frm]
      simp only [InS, room0] at this ⊢; omega
    obtain ⟨i, hi, hin⟩ := h.plots i' hi'
    have a := h2 i hi
    have b := hin k u
    exact ⟨Int.le_trans b.1 a.1, Int.le_trans a.2 b.2⟩
  exact ⟨Int.le_refl _, Int.le_refl _⟩

theorem gone_mono {s s' : Span} {lo hi lo' hi' j : Int} (hj : 0 < j) (hs : InS s s') (hl : lo' ≤ lo) (hh : hi ≤ hi') : InS (goneS s lo hi j) (goneS s' lo' hi' j) := by
  have h1 := Int.ediv_le_ediv hj (show -lo ≤ -lo' by omega)
  have h2 := Int.ediv_le_ediv hj hh
  simp only [InS, goneS] at hs ⊢; omega
theorem more_mono {t t' : Task} (h : 0 ≤ t.accel ∧ t.accel ≤ t'.accel) {j : Int} (hj : 1 ≤ j) : moreB t j ≤ moreB t' j ∧ moreF t j ≤ moreF t' j := by
  have h1 : 0 ≤ (j * (j + 1)).tdiv 2 := Int.tdiv_nonneg (Int.mul_nonneg (by omega) (by omega)) (by omega)
  have h2 : 0 ≤ (j * (j - 1)).tdiv 2 := Int.tdiv_nonneg (Int.mul_nonneg (by omega) (by omega)) (by omega)
  exact ⟨Int.mul_le_mul_of_nonneg_right h.2 h1, Int.mul_le_mul_of_nonneg_right h.2 h2⟩

theorem fastB_mono {t t' : Task} {ps ps' : List Int} (h : Binds t ps t' ps') {k u j : Int} (hj : 1 ≤ j) {s s' r : Span} (hs : InS s s') (hr : fastB t ps k u j s = some r) : ∃ r', fastB t' ps' k u j s' = some r' ∧ InS r r' := by
  unfold fastB at hr ⊢
  rw [← h.frm]
  split at hr
  · rename_i hf
    rw [if_pos hf]
    split at hr
    · cases hr
    rename_i hn
    cases hr
    have hp := place_mono h k u
    have hv := place_mono h k (u - j)
    have hne := hv.none (by cases hh : (placeT t ps k (u - j)).none <;> simp_all)
    rw [if_neg (by rw [hne]; decide)]
    have hm := (more_mono h.accel hj).1
    exact ⟨_, rfl, gone_mono (by omega) hs (by have := hp.1; have := hv.2; omega) (by have := hp.2; have := hv.1; omega)⟩
  rename_i hf
  rw [if_neg hf]
  cases hr
  exact ⟨_, rfl, hs⟩
theorem fastF_mono {t t' : Task} {ps ps' : List Int} (h : Binds t ps t' ps') {k u j : Int} (hj : 1 ≤ j) {s s' r : Span} (hs : InS s s') (hr : fastF t ps k u j s = some r) : ∃ r', fastF t' ps' k u j s' = some r' ∧ InS r r' := by
  unfold fastF at hr ⊢
  split at hr
  · rename_i hf
    rw [if_pos hf]
    split at hr
    · cases hr
    rename_i hn
    cases hr
    have hp := place_mono h k u
    have hv := place_mono h k (u + j)
    have hne := hv.none (by cases hh : (placeT t ps k (u + j)).none <;> simp_all)
    rw [if_neg (by rw [hne]; decide)]
    have hm := (more_mono h.accel hj).2
    exact ⟨_, rfl, gone_mono (by omega) hs (by have := hp.2; have := hv.1; omega) (by have := hp.1; have := hv.2; omega)⟩
  rename_i hf
  rw [if_neg hf]
  cases hr
  exact ⟨_, rfl, hs⟩
theorem fastN_mono {t t' : Task} {ps ps' : List Int} (h : Binds t ps t' ps') {k u : Int} (hu : t.frm ≤ u) : ∀ n {r : Span}, fastN t ps k u n = some r → ∃ r', fastN t' ps' k u n = some r' ∧ InS r r' := by
  intro n
  induction n with
  | zero =>
    intro r hr
    simp only [fastN, Option.some.injEq] at hr
    subst hr
    refine ⟨_, rfl, ?_⟩
    have h1 := h.speed
    have h2 := Int.mul_le_mul_of_nonneg_right h.accel.2 (show 0 ≤ u - t.frm + 1 by omega)
    rw [← h.frm]
    simp only [InS, room0]; omega
  | succ n ih =>
    intro r hr
    simp only [fastN] at hr ⊢
    cases h0 : fastN t ps k u n with
    | none => rw [h0] at hr; cases hr
    | some a =>
      rw [h0, Option.bind_some] at hr
      obtain ⟨a', e0, i0⟩ := ih h0
      cases h1 : fastB t ps k u (n + 1) a with
      | none => rw [h1] at hr; cases hr
      | some b =>
        rw [h1, Option.bind_some] at hr
        obtain ⟨b', e1, i1⟩ := fastB_mono h (by omega) i0 h1
        obtain ⟨c', e2, i2⟩ := fastF_mono h (by omega) i1 hr
        exact ⟨c', by rw [e0, Option.bind_some, e1, Option.bind_some, e2], i2⟩
theorem fastT_mono {t t' : Task} {ps ps' : List Int} (h : Binds t ps t' ps') {k u : Int} {r : Span} (hr : fastT t ps k u = some r) : ∃ r', fastT t' ps' k u = some r' ∧ InS r r' := by
  unfold fastT at hr ⊢
  rw [← h.frm]
  split at hr
  · rename_i hu
    rw [if_pos hu]
    cases hr
    exact ⟨_, rfl, Int.le_refl _, Int.le_refl _⟩
  rename_i hu
  rw [if_neg hu]
  cases h0 : fastN t ps k u 8 with
  | none => rw [h0] at hr; cases hr
  | some a =>
    rw [h0, Option.bind_some] at hr
    obtain ⟨a', e0, i0⟩ := fastN_mono h (by omega) 8 h0
    split at hr
    · cases hr
    rename_i hn
    cases hr
    have hne := i0.none (by cases hh : r.none <;> simp_all)
    refine ⟨a', ?_, i0⟩
    rw [e0, Option.bind_some, if_neg (by rw [hne]; decide)]
theorem partT_mono {t t' : Task} {ps ps' : List Int} (h : Binds t ps t' ps') {k u : Int} {r : Span × Span} (hr : partT t ps k u = some r) : ∃ r', partT t' ps' k u = some r' ∧ InS r.1 r'.1 ∧ InS r.2 r'.2 := by
  unfold partT at hr ⊢
  cases h0 : fastT t ps k u with
  | none => rw [h0] at hr; cases hr
  | some a =>
    rw [h0, Option.bind_some] at hr
    obtain ⟨a', e0, i0⟩ := fastT_mono h h0
    split at hr
    · cases hr
    rename_i hn
    cases hr
    have hp := place_mono h k u
    have hne := hp.none (by cases hh : (placeT t ps k u).none <;> simp_all)
    refine ⟨(placeT t' ps' k u, a'), ?_, hp, i0⟩
    rw [e0, Option.bind_some, if_neg (by rw [hne]; decide)]
theorem box_mono {t t' : Task} {ps ps' : List Int} (h : Binds t ps t' ps') {u : Int} {b : Box} (hb : boxT t ps u = some b) : ∃ b', boxT t' ps' u = some b' ∧ InB b b' := by
  obtain ⟨p0, p1, p2, h0, h1, h2, rfl⟩ := boxT_parts hb
  obtain ⟨q0, e0, i0, j0⟩ := partT_mono h h0
  obtain ⟨q1, e1, i1, j1⟩ := partT_mono h h1
  obtain ⟨q2, e2, i2, j2⟩ := partT_mono h h2
  exact ⟨_, boxT_3 e0 e1 e2, rfl, i0, i1, i2, j0, j1, j2⟩

theorem InS.anti {a b : Span} (h : InS a b) (h2 : InS b a) : a = b := by
  obtain ⟨a1, a2⟩ := a
  obtain ⟨b1, b2⟩ := b
  simp only [InS] at h h2
  simp only [Span.mk.injEq]; omega
theorem InB.anti {a b : Box} (h : InB a b) (h2 : InB b a) : a = b := by
  have e1 := h.x.anti h2.x
  have e2 := h.y.anti h2.y
  have e3 := h.z.anti h2.z
  have e4 := h.vx.anti h2.vx
  have e5 := h.vy.anti h2.vy
  have e6 := h.vz.anti h2.vz
  have e0 := h.at_
  cases a; cases b
  simp_all
theorem InB.refl (a : Box) : InB a a := ⟨rfl, ⟨Int.le_refl _, Int.le_refl _⟩, ⟨Int.le_refl _, Int.le_refl _⟩, ⟨Int.le_refl _, Int.le_refl _⟩, ⟨Int.le_refl _, Int.le_refl _⟩, ⟨Int.le_refl _, Int.le_refl _⟩, ⟨Int.le_refl _, Int.le_refl _⟩⟩
theorem InS.trans {a b c : Span} (p : InS a b) (q : InS b c) : InS a c := ⟨Int.le_trans q.1 p.1, Int.le_trans p.2 q.2⟩
theorem InB.trans {a b c : Box} (p : InB a b) (q : InB b c) : InB a c := ⟨p.at_.trans q.at_, p.x.trans q.x, p.y.trans q.y, p.z.trans q.z, p.vx.trans q.vx, p.vy.trans q.vy, p.vz.trans q.vz⟩
/-- tasks that are bound alike have the same boxes -/
theorem box_same {t t' : Task} {ps ps' : List Int} (h : Binds t ps t' ps') (h2 : Binds t' ps' t ps) (u : Int) : boxT t ps u = boxT t' ps' u := by
  cases hb : boxT t ps u with
  | some b =>
    obtain ⟨b', e, i⟩ := box_mono h hb
    obtain ⟨b2, e2, i2⟩ := box_mono h2 e
    rw [hb] at e2; cases e2
    rw [e, i.anti i2]
  | none =>
    cases hb' : boxT t' ps' u with
    | none => rfl
    | some b' =>
      obtain ⟨b2, e2, _⟩ := box_mono h2 hb'
      rw [hb] at e2; cases e2

theorem joinB_in {a b c : Box} (h : InB a b) : InB a (joinB b c) := by
  obtain ⟨h0, h1, h2, h3, h4, h5, h6⟩ := h
  refine ⟨h0, ?_, ?_, ?_, ?_, ?_, ?_⟩ <;> (simp only [InS, joinB, joinS] at *; omega)
/-! ### if all agree -/
structure AgreeS (t : Task) (u now : Int) (b : Box) : Prop where
  others : ∀ k : Nat, k < t.trackers.length → (boxT t (byT t now (fun x => decide (x ≠ (k : Int)))) u).isSome = true
  own : ∀ k, ∃ a, ownT t u now k = some a ∧ InB b a
  spare : ∃ s, spareT t u now = some s ∧ InB b s

/-! ### rows that grew, opened -/
end Go.Tk
