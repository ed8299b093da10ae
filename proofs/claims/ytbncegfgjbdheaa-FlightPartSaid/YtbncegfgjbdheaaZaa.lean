/- Joined texts. -/
import Derived.CallsIn
import Derived.OrdersIn
import Derived.OwnWalkIn
import Derived.RangeFuncIn
import Derived.Laws.Sem
import Derived.Laws.World
/- The general part: a calculus of frames and owned blocks over the fenced walk. -/
set_option linter.all false
namespace Go.Vc

/-! ### the world -/

abbrev Heap := List (Nat × Obj)

theorem mH {α : Type} {x : α} {l : List α} : x ∈ x :: l := .head _
theorem mT {α : Type} {x y : α} {l : List α} (h : x ∈ l) : x ∈ y :: l := .tail _ h

/-- what tidies a condition -/
theorem td : (∀ (p : Prop) [Decidable p], (decide p = true) = p) ∧ (∀ (p : Prop) [Decidable p], (decide p = false) ↔ ¬ p) ∧ (∀ b : Bool, ((!b) = true) = (b = false)) ∧ (∀ b : Bool, ((!b) = false) = (b = true)) ∧
    ((!true) = false) ∧ ((!false) = true) ∧ (∀ (α : Type) (a b : α), (a ≠ b) = ¬ (a = b)) ∧ (∀ a b : Int, ¬ (a < b) ↔ b ≤ a) ∧ (∀ a b : Int, ¬ (a ≤ b) ↔ b < a) ∧ (∀ (p : Prop) [Decidable p], ¬ ¬ p ↔ p) ∧
    (∀ (α : Type) (f : α → Bool) (a : α) (l : List α), (a :: l).any f = (f a || l.any f)) ∧ (∀ (α : Type) (f : α → Bool), ([] : List α).any f = false) ∧ (∀ b : Bool, (b || false) = b) ∧
    (∀ a b : Bool, ((a || b) = true) = (a = true ∨ b = true)) ∧ (∀ a b : Bool, ((a || b) = false) = (a = false ∧ b = false)) :=
  ⟨fun _ => decide_eq_true_eq, fun _ => decide_eq_false_iff_not, fun b => (by cases b <;> simp), fun b => (by cases b <;> simp), rfl, rfl, fun _ _ _ => rfl, fun _ _ => Int.not_lt, fun _ _ => Int.not_le, fun _ => Decidable.not_not,
    fun _ _ _ _ => rfl, fun _ _ => rfl, fun b => (by cases b <;> rfl), fun a b => (by cases a <;> cases b <;> simp), fun a b => (by cases a <;> cases b <;> simp)⟩

/-- What is written out, and the machine around, as it was. -/
def SameIO (w0 w : World) : Prop := w.os = w0.os ∧ w.output = w0.output
theorem SameIO.trans {a b c : World} (h : SameIO a b) (k : SameIO b c) : SameIO a c := ⟨k.1.trans h.1, k.2.trans h.2⟩

structure Good (w0 : World) (M : List Nat) (H : Heap) (w : World) : Prop where
  size : w0.heap.size ≤ w.heap.size
  base : ∀ b, b < w0.heap.size → b ∉ M → w.heap[b]? = w0.heap[b]?
  own : ∀ p ∈ H, w.heap[p.1]? = some p.2
  nd : (H.map Prod.fst).Nodup
  out : ∀ p ∈ H, p.1 < w0.heap.size → p.1 ∈ M
  io : SameIO w0 w

theorem lt_of_some {α : Type} {xs : Array α} {i : Nat} {x : α} (h : xs[i]? = some x) : i < xs.size := by
  rcases Nat.lt_or_ge i xs.size with h' | h'
  · exact h'
  simp [Array.getElem?_eq_none h'] at h

theorem Good.start (w : World) : Good w [] [] w := ⟨Nat.le_refl _, fun _ _ _ => rfl, by simp, by simp, by simp, rfl, rfl⟩

theorem Good.startWith {w : World} {H : Heap} (h : ∀ p ∈ H, w.heap[p.1]? = some p.2) (hn : (H.map Prod.fst).Nodup) : Good w (H.map Prod.fst) H w :=
  ⟨Nat.le_refl _, fun _ _ _ => rfl, h, hn, fun p hp _ => List.mem_map_of_mem hp, rfl, rfl⟩

theorem Good.lt {w0 w : World} {M : List Nat} {H : Heap} (h : Good w0 M H w) {p : Nat × Obj} (hp : p ∈ H) : p.1 < w.heap.size :=
  lt_of_some (h.own p hp)

theorem Good.drew {w0 w : World} {M : List Nat} {H : Heap} (h : Good w0 M H w) (n : Nat) : Good w0 M H { w with drawn := n } :=
  ⟨h.size, h.base, h.own, h.nd, h.out, h.io⟩

theorem Good.alloc {w0 w : World} {M : List Nat} {H : Heap} (h : Good w0 M H w) (o : Obj) : Good w0 M ((w.heap.size, o) :: H) (w.alloc o) where
  size := by have := h.size; simp; omega
  base := fun b hb hM => by
    have := h.size
    rw [← h.base b hb hM]
    simp only [World.alloc]
    rw [Array.getElem?_push, if_neg (by omega)]
  own := fun p hp => by
    simp only [List.mem_cons] at hp
    simp only [World.alloc]
    rcases hp with rfl | hp
    · simp
    have := h.lt hp
    rw [Array.getElem?_push, if_neg (by omega)]; exact h.own p hp
  nd := by
    simp only [List.map_cons, List.nodup_cons]
    refine ⟨fun hm => ?_, h.nd⟩
    obtain ⟨p, hp, e⟩ := List.mem_map.1 hm
    have := h.lt hp
    omega
  out := fun p hp hlt => by
    simp only [List.mem_cons] at hp
    rcases hp with rfl | hp
    · have := h.size; simp at hlt; omega
    exact h.out p hp hlt
  io := h.io

/-- One owned block's content becomes another. -/
inductive SetAt : Heap → Nat → Obj → Obj → Heap → Prop
  | head {b : Nat} {o o' : Obj} {R : Heap} : SetAt ((b, o) :: R) b o o' ((b, o') :: R)
  | tail {x : Nat × Obj} {b : Nat} {o o' : Obj} {R R' : Heap} (h : SetAt R b o o' R') : SetAt (x :: R) b o o' (x :: R')

theorem SetAt.mem {H H' : Heap} {b : Nat} {o o' : Obj} (h : SetAt H b o o' H') : (b, o) ∈ H := by
  induction h with
  | head => exact .head _
  | tail _ ih => exact .tail _ ih

theorem SetAt.keys {H H' : Heap} {b : Nat} {o o' : Obj} (h : SetAt H b o o' H') : H'.map Prod.fst = H.map Prod.fst := by
  induction h with
  | head => rfl
  | tail _ ih => simp [ih]

theorem SetAt.mem' {H H' : Heap} {b : Nat} {o o' : Obj} (h : SetAt H b o o' H') (hn : (H.map Prod.fst).Nodup) : ∀ p ∈ H', p = (b, o') ∨ (p ∈ H ∧ p.1 ≠ b) := by
  induction h with
  | head =>
    rename_i b' o1 o1' R
    intro p hp
    simp only [List.map_cons, List.nodup_cons] at hn
    rcases List.mem_cons.1 hp with rfl | hp
    · exact .inl rfl
    exact .inr ⟨.tail _ hp, fun e => hn.1 (e ▸ List.mem_map_of_mem hp)⟩
  | tail hh ih =>
    rename_i x b' o1 o1' R R'
    intro p hp
    simp only [List.map_cons, List.nodup_cons] at hn
    rcases List.mem_cons.1 hp with rfl | hp
    · refine .inr ⟨.head _, fun e => hn.1 (e ▸ ?_)⟩
      exact List.mem_map_of_mem (f := Prod.fst) hh.mem
    rcases ih hn.2 p hp with h | h
    · exact .inl h
    exact .inr ⟨.tail _ h.1, h.2⟩

theorem Good.set {w0 w : World} {M : List Nat} {H H' : Heap} {b : Nat} {o o' : Obj} (h : Good w0 M H w) (hs : SetAt H b o o' H') {w' : World}
    (hw : w'.heap = w.heap.setIfInBounds b o') (hio : SameIO w w') : Good w0 M H' w' where
  io := h.io.trans hio
  size := by rw [hw]; simpa using h.size
  base := fun c hc hM => by
    rw [← h.base c hc hM, hw, Array.getElem?_setIfInBounds]
    have hne : b ≠ c := fun e => hM (e ▸ h.out _ hs.mem (e ▸ hc))
    rw [if_neg hne]
  own := fun p hp => by
    rw [hw, Array.getElem?_setIfInBounds]
    rcases hs.mem' h.nd p hp with rfl | ⟨hp', hne⟩
    · have := h.lt hs.mem; simp [this]
    rw [if_neg (fun e => hne e.symm)]; exact h.own p hp'
  nd := by rw [hs.keys]; exact h.nd
  out := fun p hp hlt => by
    rcases hs.mem' h.nd p hp with rfl | ⟨hp', _⟩
    · exact (h.out (b, o) hs.mem hlt : b ∈ M)
    exact h.out p hp' hlt

/-- Fewer blocks are owned. -/
theorem Good.sub {w0 w : World} {M : List Nat} {H H' : Heap} (h : Good w0 M H w) (hs : H'.Sublist H) : Good w0 M H' w :=
  ⟨h.size, h.base, fun p hp => h.own p (hs.subset hp), (hs.map Prod.fst).nodup h.nd, fun p hp => h.out p (hs.subset hp), h.io⟩

/-- A step that changed no block that lay (but may have laid new ones). -/
structure Ext (w w' : World) : Prop where
  size : w.heap.size ≤ w'.heap.size
  same : ∀ b, b < w.heap.size → w'.heap[b]? = w.heap[b]?
  io : SameIO w w'

theorem Ext.refl (w : World) : Ext w w := ⟨Nat.le_refl _, fun _ _ => rfl, rfl, rfl⟩
theorem Ext.trans {w w' w'' : World} (h : Ext w w') (h' : Ext w' w'') : Ext w w'' :=
  ⟨Nat.le_trans h.size h'.size, fun b hb => (h'.same b (Nat.lt_of_lt_of_le hb h.size)).trans (h.same b hb), h.io.trans h'.io⟩
theorem Ext.drew (w : World) (n : Nat) : Ext w { w with drawn := n } := ⟨Nat.le_refl _, fun _ _ => rfl, rfl, rfl⟩
theorem Ext.heap {w w' : World} (h : Ext w w') {b : Nat} {o : Obj} (hb : w.heap[b]? = some o) : w'.heap[b]? = some o :=
  (h.same b (lt_of_some hb)).trans hb

theorem Good.ext {w0 w w' : World} {M : List Nat} {H : Heap} (h : Good w0 M H w) (he : Ext w w') : Good w0 M H w' where
  size := Nat.le_trans h.size he.size
  base := fun b hb hM => (he.same b (Nat.lt_of_lt_of_le hb h.size)).trans (h.base b hb hM)
  own := fun p hp => (he.same _ (h.lt hp)).trans (h.own p hp)
  nd := h.nd
  out := h.out
  io := h.io.trans he.io

theorem Good.toExt {w0 w : World} {H : Heap} (h : Good w0 [] H w) : Ext w0 w := ⟨h.size, fun b hb => h.base b hb (by simp), h.io⟩

/-- Back from a callee that owned Hc (some of ours among them): what it left, and the rest of ours. -/
theorem Good.back {w0 w w' : World} {M Mc : List Nat} {H Hc H' : Heap} (h : Good w0 M H w) (hc : Good w Mc Hc w')
    (hM : ∀ b ∈ Mc, ∃ o, (b, o) ∈ H)
    (hs : ∀ p ∈ H', p ∈ Hc ∨ (p ∈ H ∧ p.1 ∉ Mc)) (hn : (H'.map Prod.fst).Nodup) : Good w0 M H' w' where
  io := h.io.trans hc.io
  size := Nat.le_trans h.size hc.size
  base := fun b hb hMb => by
    rw [hc.base b (Nat.lt_of_lt_of_le hb h.size) (fun hm => by obtain ⟨o, ho⟩ := hM b hm; exact hMb (h.out _ ho hb))]
    exact h.base b hb hMb
  own := fun p hp => by
    rcases hs p hp with hp' | ⟨hp', hn'⟩
    · exact hc.own p hp'
    rw [hc.base p.1 (h.lt hp') hn']; exact h.own p hp'
  nd := hn
  out := fun p hp hlt => by
    rcases hs p hp with hp' | ⟨hp', _⟩
    · obtain ⟨o, ho⟩ := hM p.1 (hc.out p hp' (Nat.lt_of_lt_of_le hlt h.size))
      exact (h.out (p.1, o) ho hlt : p.1 ∈ M)
    exact h.out p hp' hlt

/-! ### the frame -/

abbrev PEnv := List (Nat × Value)

def PEnv.get : PEnv → Nat → Option Value
  | [], _ => none
  | (k, v) :: r, t => bif Nat.beq k t then some v else PEnv.get r t

def PEnv.ev (ρ : PEnv) : Operand → Option Value
  | .tmp t => ρ.get t
  | .const v => some v
  | .global g => some (.pointer (some ⟨g, 0, none⟩))
  | .func f => some (.func (.func f) #[] #[])

def PEnv.put (ρ : PEnv) (d : Option Tmp) (v : Value) : PEnv :=
  match d with
  | some d => (d, v) :: ρ
  | none => ρ

/-- What is known of a frame. -/
structure Agr (n : Nat) (ρ : PEnv) (ds : List Deferred) (a : Act) : Prop where
  at_ : ∀ t v, ρ.get t = some v → a.tmps[t]? = some v
  size : a.tmps.size = n
  defers : a.defers = ds

theorem Agr.ev {n : Nat} {ρ : PEnv} {ds : List Deferred} {a : Act} (h : Agr n ρ ds a) {x : Operand} {v : Value} (hx : ρ.ev x = some v) : a.eval x = v := by
  cases x with
  | tmp t =>
    have := h.at_ t v hx
    simp [Act.eval, Array.getD_eq_getD_getElem?, this]
  | const c => simpa [PEnv.ev, Act.eval] using hx
  | global g => simpa [PEnv.ev, Act.eval] using hx
  | func f => simpa [PEnv.ev, Act.eval] using hx

theorem Agr.put {n : Nat} {ρ : PEnv} {ds : List Deferred} {a : Act} (h : Agr n ρ ds a) {d : Option Tmp} (hd : ∀ t, d = some t → t < n) (v : Value) :
    Agr n (ρ.put d v) ds (a.put d v) := by
  cases d with
  | none => exact h
  | some d =>
    refine ⟨fun t u ht => ?_, by simpa [Act.put] using h.size, by simpa [Act.put] using h.defers⟩
    simp only [PEnv.put, PEnv.get] at ht
    simp only [Act.put]
    rw [Array.getElem?_setIfInBounds]
    have hlt : d < a.tmps.size := by rw [h.size]; exact hd d rfl
    cases hb : Nat.beq d t with
    | true =>
      have e : d = t := Nat.eq_of_beq_eq_true hb
      subst e
      simp only [hb, cond_true, Option.some.injEq] at ht
      simp [hlt, ht]
    | false =>
      have e : d ≠ t := Nat.ne_of_beq_eq_false hb
      rw [if_neg e]
      simp only [hb, cond_false] at ht
      exact h.at_ t u ht

/-- The known part is cut to these slots. -/
inductive Keep (ρ : PEnv) : List Nat → PEnv → Prop
  | nil : Keep ρ [] []
  | cons {k : Nat} {ks : List Nat} {v : Value} {ρ' : PEnv} (h : ρ.get k = some v) (r : Keep ρ ks ρ') : Keep ρ (k :: ks) ((k, v) :: ρ')

def Sub (ρ' ρ : PEnv) : Prop := ∀ t v, ρ'.get t = some v → ρ.get t = some v

theorem Sub.nil (ρ : PEnv) : Sub [] ρ := fun _ _ h => by simp [PEnv.get] at h
theorem Sub.cons {k : Nat} {v : Value} {ρ' ρ : PEnv} (h : ρ.get k = some v) (r : Sub ρ' ρ) : Sub ((k, v) :: ρ') ρ := fun t u ht => by
  simp only [PEnv.get] at ht
  cases hb : Nat.beq k t with
  | true => have e := Nat.eq_of_beq_eq_true hb; subst e; simp only [hb, cond_true, Option.some.injEq] at ht; rw [h, ht]
  | false => simp only [hb, cond_false] at ht; exact r t u ht
theorem Keep.sub {ρ ρ' : PEnv} {ks : List Nat} (h : Keep ρ ks ρ') : Sub ρ' ρ := by
  induction h with
  | nil => exact .nil _
  | cons h _ ih => exact .cons h ih
theorem sub_app {a b ρ : PEnv} (ha : Sub a ρ) (hb : Sub b ρ) : Sub (a ++ b) ρ := by
  intro t v h
  cases hg : a.get t with
  | some u =>
    have : (a ++ b).get t = some u := by
      clear ha h
      induction a with
      | nil => simp [PEnv.get] at hg
      | cons p a ih =>
        obtain ⟨k, x⟩ := p
        simp only [List.cons_append, PEnv.get] at hg ⊢
        cases hb : Nat.beq k t
        · rw [hb] at hg; exact ih hg
        rw [hb] at hg; exact hg
    rw [this] at h
    rw [← h]; exact ha t u hg
  | none =>
    refine hb t v ?_
    have : (a ++ b).get t = b.get t := by
      clear ha h
      induction a with
      | nil => rfl
      | cons p a ih =>
        obtain ⟨k, x⟩ := p
        simp only [List.cons_append, PEnv.get] at hg ⊢
        cases hb : Nat.beq k t
        · rw [hb] at hg; exact ih hg
        rw [hb] at hg; cases hg
    rw [← this]; exact h
theorem Agr.sub {n : Nat} {ρ ρ' : PEnv} {ds : List Deferred} {a : Act} (h : Agr n ρ ds a) (hs : Sub ρ' ρ) : Agr n ρ' ds a :=
  ⟨fun t v ht => h.at_ t v (hs t v ht), h.size, h.defers⟩

/-! ### the judgements -/

/-- The fence: any function, any depth; in a round of loop r, or in none. -/
abbrev FW (r : Option Nat) : Fence := { Fence.wide with round := r }

theorem FW.room (r : Option Nat) (k : Nat) : (FW r).room k := fun _ h => by simp [FW, Fence.wide] at h
theorem FW.fn (r : Option Nat) (f : FuncId) : (FW r).fn f := trivial

structure Cx where
  P : Program
  r : Option Nat
  n : Nat
  w0 : World
  M : List Nat

abbrev Post := Exit → PEnv → List Deferred → Heap → Prop

def Lift (X : Cx) (Q : Post) : Exit → Act → World → Prop := fun e a w => ∃ ρ ds H, Agr X.n ρ ds a ∧ Good X.w0 X.M H w ∧ Q e ρ ds H

def V (X : Cx) (c : Code) (ρ : PEnv) (ds : List Deferred) (H : Heap) (Q : Post) : Prop :=
  ∀ a w, Agr X.n ρ ds a → Good X.w0 X.M H w → c.wpIn (FW X.r) 0 X.P (Lift X Q) a w

def Then (k : PEnv → List Deferred → Heap → Prop) (Q : Post) : Post
  | .normal, ρ, ds, H => k ρ ds H
  | e, ρ, ds, H => Q e ρ ds H

def InBlock (id : Nat) (Q : Post) : Post
  | .exit id', ρ, ds, H => bif Nat.beq id' id then Q .normal ρ ds H else Q (.exit id') ρ ds H
  | e, ρ, ds, H => Q e ρ ds H

section
variable {X : Cx} {ρ : PEnv} {ds : List Deferred} {H : Heap} {Q : Post}

theorem V.mono {c : Code} {Q' : Post} (h : V X c ρ ds H Q) (hq : ∀ e ρ ds H, Q e ρ ds H → Q' e ρ ds H) : V X c ρ ds H Q' :=
  fun a w ha hg => wpIn_mono (h a w ha hg) fun _ _ _ ⟨ρ', ds', H', h1, h2, h3⟩ => ⟨ρ', ds', H', h1, h2, hq _ _ _ _ h3⟩

theorem V_seq {x y : Code} (h : V X x ρ ds H (Then (fun ρ ds H => V X y ρ ds H Q) Q)) : V X (.seq x y) ρ ds H Q := by
  intro a w ha hg
  refine wpIn_seq (wpIn_mono (h a w ha hg) ?_)
  rintro e a' w' ⟨ρ', ds', H', h1, h2, h3⟩
  cases e <;> first | exact h3 a' w' h1 h2 | exact ⟨ρ', ds', H', h1, h2, h3⟩

theorem V_skip (h : Q .normal ρ ds H) : V X .skip ρ ds H Q := fun _ _ ha hg => wpIn_skip ⟨ρ, ds, H, ha, hg, h⟩
theorem V_exit {id : Nat} (h : Q (.exit id) ρ ds H) : V X (.exit id) ρ ds H Q := fun _ _ ha hg => wpIn_exit ⟨ρ, ds, H, ha, hg, h⟩
theorem V_ret (h : Q .ret ρ ds H) : V X .ret ρ ds H Q := fun _ _ ha hg => wpIn_ret ⟨ρ, ds, H, ha, hg, h⟩

theorem V_cond {c : Operand} {x y : Code} {t : Bool} (hc : ρ.ev c = some (.bool t)) (hx : t = true → V X x ρ ds H Q) (hy : t = false → V X y ρ ds H Q) :
    V X (.cond c x y) ρ ds H Q := fun a w ha hg => wpIn_cond_split (ha.ev hc) (fun h => hx h a w ha hg) (fun h => hy h a w ha hg)

theorem V_cond_t {c : Operand} {x y : Code} {t : Bool} (hc : ρ.ev c = some (.bool t)) (ht : t = true) (hx : V X x ρ ds H Q) : V X (.cond c x y) ρ ds H Q :=
  V_cond hc (fun _ => hx) (fun h => by rw [ht] at h; cases h)
theorem V_cond_f {c : Operand} {x y : Code} {t : Bool} (hc : ρ.ev c = some (.bool t)) (ht : t = false) (hy : V X y ρ ds H Q) : V X (.cond c x y) ρ ds H Q :=
  V_cond hc (fun h => by rw [ht] at h; cases h) (fun _ => hy)

theorem V_block {id : Nat} {c : Code} (h : V X c ρ ds H (InBlock id Q)) : V X (.block id c) ρ ds H Q := by
  intro a w ha hg
  refine wpIn_block (wpIn_mono (h a w ha hg) ?_)
  rintro e a' w' ⟨ρ', ds', H', h1, h2, h3⟩
  cases e with
  | exit id' =>
    simp only [Exit.inBlock]
    by_cases he : id' = id
    · rw [if_pos he]
      have hb : Nat.beq id' id = true := by rw [he]; exact Nat.beq_refl id
      simp only [InBlock, hb, cond_true] at h3
      exact ⟨ρ', ds', H', h1, h2, h3⟩
    rw [if_neg he]
    have hb : Nat.beq id' id = false := by
      cases hh : Nat.beq id' id with
      | false => rfl
      | true => exact absurd (Nat.eq_of_beq_eq_true hh) he
    simp only [InBlock, hb, cond_false] at h3
    exact ⟨ρ', ds', H', h1, h2, h3⟩
  | _ => exact ⟨ρ', ds', H', h1, h2, h3⟩

theorem then_n {k : PEnv → List Deferred → Heap → Prop} (h : k ρ ds H) : Then k Q .normal ρ ds H := h
theorem then_e {k : PEnv → List Deferred → Heap → Prop} {i : Nat} (h : Q (.exit i) ρ ds H) : Then k Q (.exit i) ρ ds H := h
theorem then_r {k : PEnv → List Deferred → Heap → Prop} (h : Q .ret ρ ds H) : Then k Q .ret ρ ds H := h
theorem blk_n {i : Nat} (h : Q .normal ρ ds H) : InBlock i Q .normal ρ ds H := h
theorem blk_r {i : Nat} (h : Q .ret ρ ds H) : InBlock i Q .ret ρ ds H := h
theorem blk_e {i j : Nat} (hb : Nat.beq j i = true) (h : Q .normal ρ ds H) : InBlock i Q (.exit j) ρ ds H := by simp only [InBlock, hb, cond_true]; exact h
theorem blk_o {i j : Nat} (hb : Nat.beq j i = false) (h : Q (.exit j) ρ ds H) : InBlock i Q (.exit j) ρ ds H := by simp only [InBlock, hb, cond_false]; exact h

/-- A loop: γ runs over what the rounds' heads look like. -/
theorem V_loop {c : Code} {γ : Type} (ρI : γ → PEnv) (HI : γ → Heap) (inv : γ → Prop) (μ : γ → Nat) (g0 : γ) (hs : Sub (ρI g0) ρ) (hh : (HI g0).Sublist H) (h0 : inv g0)
    (round : ∀ g, inv g → V X c (ρI g) ds (HI g) (Then (fun ρ' ds' H' => ∃ g', inv g' ∧ μ g' < μ g ∧ Sub (ρI g') ρ' ∧ (HI g').Sublist H' ∧ ds' = ds) Q)) :
    V X (.loop c) ρ ds H Q := by
  intro a w ha hg
  have key : ∀ n g a w, μ g = n → inv g → Agr X.n (ρI g) ds a → Good X.w0 X.M (HI g) w →
      ∀ (b : Frame) (k : List Item) (cs : List Frame), b.roundOf = X.r →
        ∃ e a' w', Lift X Q e a' w' ∧ ArrivesIn (Machine.fenced X.P (FW X.r)) X.P (lone (b.atR a (.code c :: .inLoop c :: k)) cs w) b k cs e a' w' := by
    intro n
    induction n using Nat.strongRecOn with
    | _ n ih =>
      intro g a w hn hI ha hg b k cs hro
      obtain ⟨e, a₁, w₁, hq, harr⟩ := round g hI a w ha hg b (.inLoop c :: k) cs hro trivial (FW.room _ _)
      obtain ⟨ρ', ds', H', h1, h2, h3⟩ := hq
      cases e with
      | normal =>
        obtain ⟨g', hi', hlt, hsub, hhs, hds⟩ := h3
        have h1' := h1.sub hsub
        rw [hds] at h1'
        obtain ⟨e₂, a₂, w₂, hq₂, harr₂⟩ := ih (μ g') (hn ▸ hlt) g' a₁ w₁ rfl hi' h1' (h2.sub hhs) b k cs hro
        exact ⟨e₂, a₂, w₂, hq₂, .of_steps (StepsIn.trans harr (.one (fenced_calm (n := 0) (fr := b.atR a₁ (.inLoop c :: k)) trivial (FW.room _ _) rfl) stepR_inLoop)) harr₂⟩
      | exit id => exact ⟨_, a₁, w₁, ⟨ρ', ds', H', h1, h2, h3⟩, .pass (x := .inLoop c) rfl (fun _ _ => .inl (by simp)) harr⟩
      | goto l => exact ⟨_, a₁, w₁, ⟨ρ', ds', H', h1, h2, h3⟩, .pass (x := .inLoop c) rfl (fun _ _ => .inl (by simp)) harr⟩
      | ret => exact ⟨_, a₁, w₁, ⟨ρ', ds', H', h1, h2, h3⟩, .pass (x := .inLoop c) rfl (fun _ _ => .inl (by simp)) harr⟩
      | panic ch => exact ⟨_, a₁, w₁, ⟨ρ', ds', H', h1, h2, h3⟩, .pass (x := .inLoop c) rfl (fun _ _ => .inl (by simp)) harr⟩
      | outgrown => exact ⟨_, a₁, w₁, ⟨ρ', ds', H', h1, h2, h3⟩, .pass (x := .inLoop c) rfl (fun _ _ => .inl (by simp)) harr⟩
  intro b k cs hro hb hr
  obtain ⟨e, a', w', hq, harr⟩ := key _ g0 a w rfl h0 (ha.sub hs) (hg.sub hh) b k cs hro
  exact ⟨e, a', w', hq, .of_steps (.one (fenced_calm (n := 0) (fr := b.atR a (.code (.loop c) :: k)) hb hr rfl) stepR_loop) harr⟩

/-- A loop that leaves the owned blocks as they are; some slots are fixed. -/
theorem V_loop0 {c : Code} {γ : Type} {ks : List Nat} {ρf : PEnv} (hk : Keep ρ ks ρf) (ρv : γ → PEnv) (inv : γ → Prop) (μ : γ → Nat) (g0 : γ) (hs : Sub (ρv g0) ρ) (h0 : inv g0)
    (round : ∀ g, inv g → V X c (ρv g ++ ρf) ds H (Then (fun ρ' ds' H' => ∃ g', inv g' ∧ μ g' < μ g ∧ Sub (ρv g' ++ ρf) ρ' ∧ H.Sublist H' ∧ ds' = ds) Q)) :
    V X (.loop c) ρ ds H Q :=
  V_loop (fun g => ρv g ++ ρf) (fun _ => H) inv μ g0 (sub_app hs hk.sub) (List.Sublist.refl _) h0 round

/-- The same where owned blocks turn, too. -/
theorem V_loop1 {c : Code} {γ : Type} {ks : List Nat} {ρf : PEnv} (hk : Keep ρ ks ρf) (ρv : γ → PEnv) (HI : γ → Heap) (inv : γ → Prop) (μ : γ → Nat) (g0 : γ) (hs : Sub (ρv g0) ρ) (hh : (HI g0).Sublist H) (h0 : inv g0)
    (round : ∀ g, inv g → V X c (ρv g ++ ρf) ds (HI g) (Then (fun ρ' ds' H' => ∃ g', inv g' ∧ μ g' < μ g ∧ Sub (ρv g' ++ ρf) ρ' ∧ (HI g').Sublist H' ∧ ds' = ds) Q)) :
    V X (.loop c) ρ ds H Q :=
  V_loop (fun g => ρv g ++ ρf) HI inv μ g0 (sub_app hs hk.sub) hh h0 round
end

end Go.Vc

/- Regions: in the order of the text, and in whatever order is drawn. -/
set_option linter.all false
namespace Go.Vc

/-! ### regions in the order of the text -/

def wl (P : Program) (r : Option Nat) (ops : Array Oper) (Q : Exit → Act → World → Prop) : List Oper → Act → World → Prop
  | [], a, w => Q .normal a w
  | o :: l, a, w =>
    if Region.wanted o (yielded ops a.tmps) then o.uponIn (FW r) 0 P a (wl P r ops Q l) Q ((o.semAt r a.eval).run P w)
    else wl P r ops Q l (a.put o.dst undef) w

theorem uponIn_mono {F : Fence} {n : Nat} {P : Program} {o : Oper} {a : Act} {K K' : Act → World → Prop} {Q : Exit → Act → World → Prop} {res : Result Next}
    (h : ∀ a w, K a w → K' a w) (hh : o.uponIn F n P a K Q res) : o.uponIn F n P a K' Q res := by
  cases res with
  | ok x w' =>
    cases x <;> simp only [Oper.uponIn] at hh ⊢ <;>
      first
        | exact h _ _ hh
        | exact ⟨hh.1, CallsIn.mono hh.2 (fun e w'' he => by cases e <;> first | exact h _ _ he | exact he)⟩
        | exact ⟨hh.1, RowsIn.mono hh.2 (fun _ _ he => h _ _ he)⟩
        | exact ⟨hh.1, RoundIn.mono hh.2 (fun e w'' he => by cases e <;> first | exact h _ _ he | exact he)⟩
  | halt x w' => cases x <;> simp only [Oper.uponIn] at hh ⊢ <;> exact hh

theorem wl_ops {P : Program} {r : Option Nat} {ops : Array Oper} {Q : Exit → Act → World → Prop} : ∀ (l : List Oper) (k : Nat), (∀ j, l[j]? = ops[k + j]?) → ∀ a w,
    wl P r ops Q l a w → wpOpsIn (FW r) 0 P ops Q (List.range' k l.length) a w := by
  intro l
  induction l with
  | nil => intro k _ a w h; exact h
  | cons o l ih =>
    intro k hk a w h
    have h0 : ops[k]? = some o := by have := hk 0; simpa using this.symm
    have hl : ∀ j, l[j]? = ops[k + 1 + j]? := fun j => by have := hk (j + 1); simp only [List.getElem?_cons_succ] at this; rw [this]; congr 1; omega
    simp only [List.length_cons, List.range'_succ, wpOpsIn, h0]
    simp only [wl] at h
    split at h
    · rename_i hw
      rw [if_pos hw]
      exact ⟨fun _ _ => trivial, uponIn_mono (ih (k + 1) hl) h⟩
    rename_i hw
    rw [if_neg hw]
    exact ⟨fun _ _ => trivial, ih (k + 1) hl _ _ h⟩

def dstLt (n : Nat) (o : Oper) : Bool := match o.dst with
  | some d => Nat.blt d n
  | none => true

theorem dstLt_iff {n : Nat} {o : Oper} (h : dstLt n o = true) : ∀ t, o.dst = some t → t < n := by
  intro t ht
  simp only [dstLt, ht] at h
  exact Nat.le_of_ble_eq_true h

/-- The operations that are left of a region that is carried out in the order of its text. -/
def LL (X : Cx) (ops : Array Oper) (l : List Oper) (ρ : PEnv) (ds : List Deferred) (H : Heap) (Q : Post) : Prop :=
  l.all (dstLt X.n) = true → ∀ a w, Agr X.n ρ ds a → Good X.w0 X.M H w → wl X.P X.r ops (Lift X Q) l a w

/-- The first of them is carried out, whatever its guard. -/
def LX (X : Cx) (ops : Array Oper) (o : Oper) (l : List Oper) (ρ : PEnv) (ds : List Deferred) (H : Heap) (Q : Post) : Prop :=
  l.all (dstLt X.n) = true → dstLt X.n o = true → ∀ a w, Agr X.n ρ ds a → Good X.w0 X.M H w →
    o.uponIn (FW X.r) 0 X.P a (wl X.P X.r ops (Lift X Q) l) (Lift X Q) ((o.semAt X.r a.eval).run X.P w)

section
variable {X : Cx} {ρ : PEnv} {ds : List Deferred} {H : Heap} {Q : Post} {ops : Array Oper}

theorem V_region {id : Nat} {l : List Oper} (hf : l.all (dstLt X.n) = true) (h : LL X l.toArray l ρ ds H Q) : V X (.region id l.toArray false) ρ ds H Q := by
  intro a w ha hg
  refine wpIn_region ?_
  have := wl_ops (P := X.P) (r := X.r) (ops := l.toArray) (Q := Lift X Q) l 0 (fun j => by simp) a w (h hf a w ha hg)
  rw [List.range_eq_range']
  simpa using this

theorem L_nil (h : Q .normal ρ ds H) : LL X ops [] ρ ds H Q := fun _ _ _ ha hg => ⟨ρ, ds, H, ha, hg, h⟩

theorem L_keep {ρ' : PEnv} {ks : List Nat} (hs : Keep ρ ks ρ') (h : Q .normal ρ' ds H) : LL X ops [] ρ ds H Q :=
  fun _ _ _ ha hg => ⟨ρ', ds, H, ha.sub hs.sub, hg, h⟩

theorem L_then {ρ' : PEnv} {ks : List Nat} {k : PEnv → List Deferred → Heap → Prop} (hs : Keep ρ ks ρ') (h : k ρ' ds H) : LL X ops [] ρ ds H (Then k Q) :=
  fun _ _ _ ha hg => ⟨ρ', ds, H, ha.sub hs.sub, hg, h⟩

theorem L_go {o : Oper} {l : List Oper} (hg : o.guard = none) (h : LX X ops o l ρ ds H Q) : LL X ops (o :: l) ρ ds H Q := by
  intro hf a w ha hgd
  simp only [List.all_cons, Bool.and_eq_true] at hf
  have hw : Region.wanted o (yielded ops a.tmps) = true := by simp [Region.wanted, hg]
  simp only [wl, if_pos hw]
  exact h hf.2 hf.1 a w ha hgd

theorem yielded_of {n : Nat} {a : Act} (ha : Agr n ρ ds a) {j d : Nat} {b : Bool} (hj : (ops[j]?).bind (·.dst) = some d) (hv : ρ.get d = some (.bool b)) :
    yielded ops a.tmps j = some b := by
  simp [yielded, hj, ha.at_ d _ hv]

theorem L_yes {o : Oper} {l : List Oper} {j d : Nat} {want b : Bool} (hg : o.guard = some (j, want)) (hj : (ops[j]?).bind (·.dst) = some d) (hv : ρ.get d = some (.bool b)) (hb : b = want)
    (h : LX X ops o l ρ ds H Q) : LL X ops (o :: l) ρ ds H Q := by
  intro hf a w ha hgd
  simp only [List.all_cons, Bool.and_eq_true] at hf
  have hw : Region.wanted o (yielded ops a.tmps) = true := by simp [Region.wanted, hg, yielded_of ha hj hv, hb]
  simp only [wl, if_pos hw]
  exact h hf.2 hf.1 a w ha hgd

theorem L_no {o : Oper} {l : List Oper} {j d : Nat} {want b : Bool} (hg : o.guard = some (j, want)) (hj : (ops[j]?).bind (·.dst) = some d) (hv : ρ.get d = some (.bool b)) (hb : b = !want)
    (h : LL X ops l (ρ.put o.dst undef) ds H Q) : LL X ops (o :: l) ρ ds H Q := by
  intro hf a w ha hgd
  simp only [List.all_cons, Bool.and_eq_true] at hf
  have hw : Region.wanted o (yielded ops a.tmps) = false := by
    rw [Region.wanted, hg]; simp only [yielded_of ha hj hv, hb]; cases want <;> rfl
  simp only [wl, hw]
  exact h hf.2 _ w (ha.put (dstLt_iff hf.1) _) hgd

theorem yielded_und {n : Nat} {a : Act} (ha : Agr n ρ ds a) {j d : Nat} (hj : (ops[j]?).bind (·.dst) = some d) (hv : ρ.get d = some undef) :
    yielded ops a.tmps j = none := by
  simp [yielded, hj, ha.at_ d _ hv, undef]

theorem L_nou {o : Oper} {l : List Oper} {j d : Nat} {want : Bool} (hg : o.guard = some (j, want)) (hj : (ops[j]?).bind (·.dst) = some d) (hv : ρ.get d = some undef)
    (h : LL X ops l (ρ.put o.dst undef) ds H Q) : LL X ops (o :: l) ρ ds H Q := by
  intro hf a w ha hgd
  simp only [List.all_cons, Bool.and_eq_true] at hf
  have hw : Region.wanted o (yielded ops a.tmps) = false := by
    rw [Region.wanted, hg]; simp only [yielded_und ha hj hv]; rfl
  simp only [wl, hw]
  exact h hf.2 _ w (ha.put (dstLt_iff hf.1) _) hgd

theorem L_cases {l : List Oper} {d : Nat} {b : Bool} (hv : ρ.get d = some (.bool b)) (h1 : b = true → LL X ops l ρ ds H Q) (h2 : b = false → LL X ops l ρ ds H Q) : LL X ops l ρ ds H Q := by
  cases b
  · exact h2 rfl
  exact h1 rfl

/-! ### what single operations do -/

def Evs (ρ : PEnv) (e : Operand → Value) : Prop := ∀ x v, ρ.ev x = some v → e x = v

theorem Agr.evs {n : Nat} {a : Act} (h : Agr n ρ ds a) : Evs ρ a.eval := fun _ _ hx => h.ev hx

/-- It only reads, and yields v, in whatever world fits. -/
structure RdA (X : Cx) (ρ : PEnv) (H : Heap) (o : Oper) (v : Value) : Prop where
  nd : ∀ c, o.op ≠ .defer c
  run : ∀ e w, Evs ρ e → Good X.w0 X.M H w → (execOp e o).run X.P w = .ok (.value v) w

/-- It reads nothing at all. -/
structure RdP (X : Cx) (ρ : PEnv) (o : Oper) (v : Value) : Prop where
  nd : ∀ c, o.op ≠ .defer c
  run : ∀ e w, Evs ρ e → (execOp e o).run X.P w = .ok (.value v) w

theorem RdP.rd {o : Oper} {v : Value} (h : RdP X ρ o v) : RdA X ρ H o v := ⟨h.nd, fun e w he _ => h.run e w he⟩

/-- It changes the world, and ends with a value and owned blocks of which R holds. -/
structure WrA (X : Cx) (ρ : PEnv) (H : Heap) (o : Oper) (R : Value → Heap → Prop) : Prop where
  nd : ∀ c, o.op ≠ .defer c
  run : ∀ (a : Act) w, Evs ρ a.eval → Good X.w0 X.M H w → o.uponIn (FW X.r) 0 X.P a (fun a' w' => ∃ v H', a' = a.put o.dst v ∧ Good X.w0 X.M H' w' ∧ R v H') (fun _ _ _ => False) ((execOp a.eval o).run X.P w)

theorem uponIn_noPanic {F : Fence} {n : Nat} {P : Program} {o : Oper} {a : Act} {K K' : Act → World → Prop} {Q : Exit → Act → World → Prop} {res : Result Next}
    (h : ∀ a w, K a w → K' a w) (hh : o.uponIn F n P a K (fun _ _ _ => False) res) : o.uponIn F n P a K' Q res := by
  cases res with
  | ok x w' =>
    cases x <;> simp only [Oper.uponIn] at hh ⊢ <;>
      first
        | exact h _ _ hh
        | exact ⟨hh.1, CallsIn.mono hh.2 (fun e w'' he => by cases e <;> first | exact h _ _ he | exact he.elim | exact (by obtain ⟨_, _, h⟩ := he; exact h.elim))⟩
        | exact ⟨hh.1, RowsIn.mono hh.2 (fun _ _ he => h _ _ he)⟩
        | exact ⟨hh.1, RoundIn.mono hh.2 (fun e w'' he => by cases e <;> first | exact h _ _ he | exact he.elim | exact (by obtain ⟨_, _, h⟩ := he; exact h.elim))⟩
  | halt x w' => cases x <;> simp only [Oper.uponIn] at hh ⊢ <;> exact hh.elim

theorem semAt_of {o : Oper} (h : ∀ c, o.op ≠ .defer c) (r : Option Nat) (e : Operand → Value) : o.semAt r e = execOp e o := Oper.semAt_eq r e o h

theorem rd_wr {o : Oper} {v : Value} (h : RdA X ρ H o v) : WrA X ρ H o fun u H' => u = v ∧ H' = H :=
  ⟨h.nd, fun a w he hg => by rw [h.run _ w he hg]; exact ⟨v, H, rfl, hg, rfl, rfl⟩⟩

theorem X_rd {o : Oper} {l : List Oper} {v : Value} (h : RdA X ρ H o v) (k : LL X ops l (ρ.put o.dst v) ds H Q) : LX X ops o l ρ ds H Q := by
  intro hf hd a w ha hg
  rw [semAt_of h.nd, h.run _ w ha.evs hg]
  exact k hf _ w (ha.put (dstLt_iff hd) v) hg

theorem X_p {o : Oper} {l : List Oper} {v : Value} (h : RdP X ρ o v) (k : LL X ops l (ρ.put o.dst v) ds H Q) : LX X ops o l ρ ds H Q := X_rd h.rd k

theorem X_wr {o : Oper} {l : List Oper} {R : Value → Heap → Prop} (h : WrA X ρ H o R) (k : ∀ v H', R v H' → LL X ops l (ρ.put o.dst v) ds H' Q) : LX X ops o l ρ ds H Q := by
  intro hf hd a w ha hg
  rw [semAt_of h.nd]
  refine uponIn_noPanic ?_ (h.run a w ha.evs hg)
  rintro a' w' ⟨v, H', rfl, hg', hR⟩
  exact k v H' hR hf _ w' (ha.put (dstLt_iff hd) v) hg'

end

/-! ### regions in whatever order is drawn -/

def directly (ops : Array Oper) (i j : Nat) : Bool := match ops[i]? with
  | none => false
  | some o => o.after.toList.any fun e => Region.binds .any e && Nat.beq e.on j

/-- o reads a slot that i writes only if it comes behind it. -/
def freeOf (ops : Array Oper) (i : Nat) (oi : Oper) : Bool :=
  (match oi.dst with | some d => !(oi.looksAt ops).contains d | none => true) && (List.range ops.size).all fun j => j == i || match ops[j]? with
    | none => true
    | some oj => match oi.dst with
      | none => true
      | some d => oj.dst != some d && (!(oj.looksAt ops).contains d || directly ops j i)

def apartAll (ops : Array Oper) (i : Nat) (oi : Oper) : Bool :=
  (List.range ops.size).all fun j => j == i || match ops[j]? with
    | none => true
    | some oj => match oi.dst with
      | none => true
      | some d => oj.dst != some d && (!(oj.looksAt ops).contains d || (directly ops j i || directly ops i j))

def memB (j : Nat) : List Nat → Bool
  | [] => false
  | k :: l => Nat.beq j k || memB j l

/-- A course: what is read (only), what writes (with what is read ahead of it and may come later). -/
inductive Plan
  | done
  | rd (i : Nat) (p : Plan)
  | wr (i : Nat) (ks : List Nat) (p : Plan)
  | wr2 (i : Nat) (ks : List Nat) (p : Plan) (j : Nat) (ls : List Nat) (q : Plan)
  | wr3 (i : Nat) (ks : List Nat) (p : Plan) (j : Nat) (ls : List Nat) (q : Plan) (k : Nat) (ms : List Nat) (s : Plan)
  | wr4 (i : Nat) (ks : List Nat) (p : Plan) (j : Nat) (ls : List Nat) (q : Plan) (k : Nat) (ms : List Nat) (s : Plan) (h : Nat) (ns : List Nat) (u : Plan)

def kept (ops : Array Oper) (i : Nat) (J ks : List Nat) : Bool := J.all fun j => directly ops i j || memB j ks

def okWr (ops : Array Oper) (i : Nat) (J ks : List Nat) : Bool := (match ops[i]? with | some o => apartAll ops i o | none => false) && kept ops i J ks

def Plan.ok (ops : Array Oper) : Plan → List Nat → Array Bool → Bool
  | .done, _, L => (Region.ready .any ops L).isEmpty
  | .rd i p, J, L => (Region.ready .any ops L).contains i && (match ops[i]? with | some o => freeOf ops i o | none => false) && p.ok ops (i :: J) (L.setIfInBounds i true)
  | .wr i ks p, J, L => (Region.ready .any ops L) == [i] && okWr ops i J ks && p.ok ops J (L.setIfInBounds i true)
  | .wr2 i ks p j ls q, J, L => (Region.ready .any ops L) == [i, j] && okWr ops i J ks && okWr ops j J ls && p.ok ops J (L.setIfInBounds i true) && q.ok ops J (L.setIfInBounds j true)
  | .wr3 i ks p j ls q k ms s, J, L => (Region.ready .any ops L) == [i, j, k] && okWr ops i J ks && okWr ops j J ls && okWr ops k J ms && p.ok ops J (L.setIfInBounds i true) && q.ok ops J (L.setIfInBounds j true) && s.ok ops J (L.setIfInBounds k true)
  | .wr4 i ks p j ls q k ms s h ns u, J, L => (Region.ready .any ops L) == [i, j, k, h] && okWr ops i J ks && okWr ops j J ls && okWr ops k J ms && okWr ops h J ns && p.ok ops J (L.setIfInBounds i true) && q.ok ops J (L.setIfInBounds j true) && s.ok ops J (L.setIfInBounds k true) && u.ok ops J (L.setIfInBounds h true)

def noSelect (ops : Array Oper) : Bool := ops.toList.all fun o => match o.op with
  | .select .. => false
  | .defer .. => false
  | _ => true

section sim
variable {P : Program} {r : Option Nat} {ops : Array Oper} {Q : Exit → Act → World → Prop}

/-- o, a mere reader, yields v here. -/
def rdv (P : Program) (ops : Array Oper) (o : Oper) (v : Value) (a : Act) (w : World) : Prop :=
  (Region.wanted o (yielded ops a.tmps) = true ∧ (execOp a.eval o).run P w = .ok (.value v) w) ∨
  (Region.wanted o (yielded ops a.tmps) = false ∧ v = undef)

theorem rdv.put {o : Oper} {v : Value} {a : Act} {w : World} (hs : ∀ cs b, o.op ≠ .select cs b) (dst : Option Tmp) (u : Value) (h : ∀ d, dst = some d → d ∉ o.looksAt ops) :
    rdv P ops o v (a.put dst u) w ↔ rdv P ops o v a w := by
  unfold rdv
  rw [execOp_put o hs a dst u h, wanted_put o a dst u h]

/-- It holds, whatever the slots hold. -/
def anyAct (Q : Exit → Act → World → Prop) (a : Act) : Exit → Act → World → Prop := fun e _ w => ∀ a' : Act, a'.tmps.size = a.tmps.size → a'.defers = a.defers → Q e a' w

/-- The canonical course: readers as soon as they are ready; E: what may be read later than it is read here. -/
inductive Stg (P : Program) (r : Option Nat) (ops : Array Oper) (Q : Exit → Act → World → Prop) : List (Nat × Value) → Array Bool → Act → World → Prop
  | done {E : List (Nat × Value)} {L : Array Bool} {a : Act} {w : World} (h : Region.ready .any ops L = []) (hq : Q .normal a w) : Stg P r ops Q E L a w
  | read {E : List (Nat × Value)} {L : Array Bool} {a : Act} {w : World} {i : Nat} {o : Oper} {v : Value} (hi : i ∈ Region.ready .any ops L) (ho : ops[i]? = some o) (hf : freeOf ops i o = true)
      (hv : rdv P ops o v a w) (k : Stg P r ops Q ((i, v) :: E) (L.setIfInBounds i true) (a.put o.dst v) w) : Stg P r ops Q E L a w
  | pure {E : List (Nat × Value)} {L : Array Bool} {a : Act} {w : World} {i : Nat} {o : Oper} {v : Value} (hi : i ∈ Region.ready .any ops L) (ho : ops[i]? = some o) (hf : freeOf ops i o = true)
      (hv : ∀ w, rdv P ops o v a w) (k : Stg P r ops Q E (L.setIfInBounds i true) (a.put o.dst v) w) : Stg P r ops Q E L a w
  | write {E : List (Nat × Value)} {L : Array Bool} {a : Act} {w : World} (hne : Region.ready .any ops L ≠ []) (R : Nat → Act → World → Prop)
      (hx : ∀ i ∈ Region.ready .any ops L, ∃ o, ops[i]? = some o ∧ apartAll ops i o = true ∧
        ((Region.wanted o (yielded ops a.tmps) = true ∧ (∀ d w', (execOp a.eval o).run P w ≠ .ok (.defer d) w') ∧ o.uponIn (FW r) 0 P a (R i) (anyAct Q a) ((execOp a.eval o).run P w)) ∨
         (Region.wanted o (yielded ops a.tmps) = false ∧ R i (a.put o.dst undef) w)))
      (E' : Nat → List (Nat × Value)) (hE : ∀ i ∈ Region.ready .any ops L, ∀ p ∈ E, directly ops i p.1 = false → p ∈ E' i)
      (hs : ∀ i ∈ Region.ready .any ops L, ∀ o, ops[i]? = some o → ∀ v w', R i (a.put o.dst v) w' → ∀ p ∈ E' i, ∀ op, ops[p.1]? = some op → rdv P ops op p.2 (a.put o.dst v) w')
      (k : ∀ i ∈ Region.ready .any ops L, ∀ o, ops[i]? = some o → ∀ v w', R i (a.put o.dst v) w' → Stg P r ops Q (E' i) (L.setIfInBounds i true) (a.put o.dst v) w') : Stg P r ops Q E L a w

def dstOf (ops : Array Oper) (i : Nat) : Option Tmp := (ops[i]?).bind (·.dst)

def puts (ops : Array Oper) : List (Nat × Value) → Act → Act
  | [], a => a
  | (i, v) :: l, a => puts ops l (a.put (dstOf ops i) v)

theorem puts_size : ∀ (l : List (Nat × Value)) (a : Act), (puts ops l a).tmps.size = a.tmps.size := by
  intro l
  induction l with
  | nil => intro a; rfl
  | cons p l ih => intro a; simp only [puts]; rw [ih]; cases dstOf ops p.1 <;> simp [Act.put]
theorem puts_defers : ∀ (l : List (Nat × Value)) (a : Act), (puts ops l a).defers = a.defers := by
  intro l
  induction l with
  | nil => intro a; rfl
  | cons p l ih => intro a; simp only [puts]; rw [ih]; cases dstOf ops p.1 <;> rfl
theorem puts_put {l : List (Nat × Value)} {d : Option Tmp} {v : Value} (h : ∀ p ∈ l, ∀ t, d = some t → dstOf ops p.1 ≠ some t) : ∀ a, puts ops l (a.put d v) = (puts ops l a).put d v := by
  induction l with
  | nil => intro a; rfl
  | cons p l ih =>
    intro a
    obtain ⟨i, u⟩ := p
    simp only [puts]
    rw [Act.put_comm a v u (h (i, u) (.head _))]
    exact ih (fun p hp => h p (.tail _ hp)) _

theorem puts_rdv {o : Oper} {v : Value} {w : World} (hs : ∀ cs b, o.op ≠ .select cs b) {l : List (Nat × Value)} (h : ∀ p ∈ l, ∀ d, dstOf ops p.1 = some d → d ∉ o.looksAt ops) :
    ∀ a, rdv P ops o v (puts ops l a) w ↔ rdv P ops o v a w := by
  induction l with
  | nil => intro a; exact Iff.rfl
  | cons p l ih =>
    intro a
    obtain ⟨i, u⟩ := p
    simp only [puts]
    rw [ih (fun p hp => h p (.tail _ hp))]
    exact rdv.put hs _ u (h (i, u) (.head _))

theorem puts_exec {o : Oper} (hs : ∀ cs b, o.op ≠ .select cs b) {l : List (Nat × Value)} (h : ∀ p ∈ l, ∀ d, dstOf ops p.1 = some d → d ∉ o.looksAt ops) :
    ∀ a, execOp (puts ops l a).eval o = execOp a.eval o ∧ Region.wanted o (yielded ops (puts ops l a).tmps) = Region.wanted o (yielded ops a.tmps) := by
  induction l with
  | nil => intro a; exact ⟨rfl, rfl⟩
  | cons p l ih =>
    intro a
    obtain ⟨i, u⟩ := p
    simp only [puts]
    have h1 := ih (fun p hp => h p (.tail _ hp)) (a.put (dstOf ops i) u)
    have h2 := h (i, u) (.head _)
    exact ⟨h1.1.trans (execOp_put o hs a _ u h2), h1.2.trans (wanted_put o a _ u h2)⟩

/-- What binds the canonical course to the true one. -/
structure Rel (P : Program) (ops : Array Oper) (E : List (Nat × Value)) (Lc La : Array Bool) (pend : List (Nat × Value)) (ac aa : Act) (w : World) : Prop where
  sc : Lc.size = ops.size
  sa : La.size = ops.size
  sub : ∀ i, La.getD i false = true → Lc.getD i false = true
  mem : ∀ i, Lc.getD i false = true → La.getD i false = true ∨ ∃ v, (i, v) ∈ pend
  pl : ∀ p ∈ pend, Lc.getD p.1 false = true ∧ La.getD p.1 false = false
  pf : ∀ p ∈ pend, ∃ o, ops[p.1]? = some o ∧ freeOf ops p.1 o = true ∧ rdv P ops o p.2 ac w ∧ (p ∈ E ∨ ∀ w, rdv P ops o p.2 ac w)
  dc : ∀ j o, Lc.getD j false = true → ops[j]? = some o → ∀ e ∈ o.after, Region.binds .any e = true → Lc.getD e.on false = true
  act : ac = puts ops pend aa
  nd : (pend.map Prod.fst).Nodup

theorem freeOf_spec {i : Nat} {oi : Oper} (h : freeOf ops i oi = true) {j : Nat} {oj : Oper} (hj : ops[j]? = some oj) (hne : j ≠ i) {d : Tmp} (hd : oi.dst = some d) :
    oj.dst ≠ some d ∧ (d ∈ oj.looksAt ops → directly ops j i = true) := by
  unfold freeOf at h
  rw [Bool.and_eq_true, List.all_eq_true] at h
  have := h.2 j (List.mem_range.2 (lt_of_some hj))
  simp only [hj, hd, Bool.or_eq_true, Bool.and_eq_true, beq_iff_eq, hne, false_or] at this
  refine ⟨by simpa using this.1, fun hm => ?_⟩
  rcases this.2 with h2 | h2
  · simp [List.contains_iff_mem, hm] at h2
  exact h2

theorem freeOf_self {i : Nat} {oi : Oper} (h : freeOf ops i oi = true) {d : Tmp} (hd : oi.dst = some d) : d ∉ oi.looksAt ops := by
  unfold freeOf at h
  rw [Bool.and_eq_true] at h
  have := h.1
  simp only [hd] at this
  intro hm
  simp [List.contains_iff_mem, hm] at this

theorem apartAll_spec {i : Nat} {oi : Oper} (h : apartAll ops i oi = true) {j : Nat} {oj : Oper} (hj : ops[j]? = some oj) (hne : j ≠ i) {d : Tmp} (hd : oi.dst = some d) :
    oj.dst ≠ some d ∧ (d ∈ oj.looksAt ops → directly ops j i = true ∨ directly ops i j = true) := by
  unfold apartAll at h
  rw [List.all_eq_true] at h
  have := h j (List.mem_range.2 (lt_of_some hj))
  simp only [hj, hd, Bool.or_eq_true, Bool.and_eq_true, beq_iff_eq, hne, false_or] at this
  refine ⟨by simpa using this.1, fun hm => ?_⟩
  rcases this.2 with h2 | h2
  · simp [List.contains_iff_mem, hm] at h2
  exact h2

theorem directly_spec {i j : Nat} (h : directly ops i j = true) : ∃ o, ops[i]? = some o ∧ ∃ e ∈ o.after, Region.binds .any e = true ∧ e.on = j := by
  unfold directly at h
  cases ho : ops[i]? with
  | none => simp [ho] at h
  | some o =>
    simp only [ho, List.any_eq_true] at h
    obtain ⟨e, he, h⟩ := h
    simp only [Bool.and_eq_true] at h
    exact ⟨o, rfl, e, Array.mem_toList_iff.1 he, h.1, Nat.eq_of_beq_eq_true h.2⟩


theorem getD_lt {L : Array Bool} {i : Nat} (h : L.getD i false = true) : i < L.size := by
  rcases Nat.lt_or_ge i L.size with h' | h'
  · exact h'
  simp [Array.getElem?_eq_none h'] at h

theorem getD_same {L : Array Bool} {i : Nat} (h : i < L.size) (d e : Bool) : L.getD i d = L.getD i e := by simp [h]

theorem getD_set {L : Array Bool} {i j : Nat} (hi : i < L.size) : (L.setIfInBounds i true).getD j false = (decide (i = j) || L.getD j false) := by
  by_cases h : i = j
  · subst h; simp [hi]
  rw [getD_set_ne false h]; simp [h]

def cnt (L : Array Bool) : Nat := L.toList.count false

theorem cnt_set {L : Array Bool} {i : Nat} (h : L.getD i true = false) : cnt (L.setIfInBounds i true) + 1 = cnt L := by
  have hlt : i < L.size := by
    rcases Nat.lt_or_ge i L.size with h' | h'
    · exact h'
    simp [Array.getElem?_eq_none h'] at h
  have hv : L.toList[i]'(by simpa using hlt) = false := by simpa [hlt] using h
  unfold cnt
  have h0 : 0 < L.toList.count false := List.count_pos_iff.2 (by rw [← hv]; exact List.getElem_mem _)
  have h1 := List.count_set (a := true) (b := false) (l := L.toList) (i := i) (by simpa using hlt)
  rw [hv] at h1
  rw [Array.toList_setIfInBounds, h1]
  have e1 : (if (false == false) = true then 1 else 0) = 1 := rfl
  have e2 : (if (true == false) = true then 1 else 0) = 0 := rfl
  rw [e1, e2]
  omega

def backB (ops : Array Oper) : Bool := (List.range ops.size).all fun i => match ops[i]? with
  | none => true
  | some o => o.after.toList.all fun e => !Region.binds .any e || Nat.blt e.on i

theorem backB_spec (h : backB ops = true) {i : Nat} {o : Oper} (ho : ops[i]? = some o) {e : Edge} (he : e ∈ o.after) (hb : Region.binds .any e = true) : e.on < i := by
  unfold backB at h
  rw [List.all_eq_true] at h
  have := h i (List.mem_range.2 (lt_of_some ho))
  simp only [ho, List.all_eq_true] at this
  have := this e (Array.mem_toList_iff.2 he)
  simp only [hb, Bool.not_true, Bool.false_or] at this
  exact Nat.le_of_ble_eq_true this

theorem ready_all (h : backB ops = true) {L : Array Bool} (hs : L.size = ops.size) (hr : Region.ready .any ops L = []) : ∀ i, i < ops.size → L.getD i false = true := by
  intro i
  induction i using Nat.strongRecOn with
  | _ i ih =>
    intro hi
    cases hL : L.getD i false with
    | true => rfl
    | false =>
      exfalso
      have hm : i ∈ Region.ready .any ops L := by
        rw [mem_ready]
        refine ⟨by rw [getD_same (by omega) true false]; exact hL, ops[i], by simp [hi], fun e he hb => ?_⟩
        have hlt := backB_spec h (i := i) (o := ops[i]) (by simp [hi]) he hb
        exact ih e.on hlt (by omega)
      rw [hr] at hm
      cases hm

theorem puts_mid {l1 l2 : List (Nat × Value)} {x : Nat} {v : Value} (h : ∀ p ∈ l1, ∀ t, dstOf ops x = some t → dstOf ops p.1 ≠ some t) :
    ∀ a, puts ops (l1 ++ (x, v) :: l2) a = puts ops (l1 ++ l2) (a.put (dstOf ops x) v) := by
  induction l1 with
  | nil => intro a; rfl
  | cons p l ih =>
    intro a
    obtain ⟨i, u⟩ := p
    simp only [List.cons_append, puts]
    rw [ih (fun p hp => h p (.tail _ hp)), Act.put_comm a v u (h (i, u) (.head _))]

theorem noSelect_spec (h : noSelect ops = true) {i : Nat} {o : Oper} (ho : ops[i]? = some o) : (∀ cs b, o.op ≠ .select cs b) ∧ (∀ c, o.op ≠ .defer c) := by
  unfold noSelect at h
  rw [List.all_eq_true] at h
  have := h o (by rw [Array.mem_toList_iff]; exact Array.mem_of_getElem? ho)
  constructor
  · intro cs b e; simp [e] at this
  intro c e; simp [e] at this

theorem pend_off {E pend : List (Nat × Value)} {Lc La : Array Bool} {ac aa : Act} {w : World} (hR : Rel P ops E Lc La pend ac aa w) {x : Nat} {o : Oper} (hx : x ∈ Region.ready .any ops La) (ho : ops[x]? = some o)
    (hxs : ∀ p ∈ pend, p.1 = x → ∀ d, o.dst = some d → d ∉ o.looksAt ops) :
    ∀ p ∈ pend, ∀ d, dstOf ops p.1 = some d → d ∉ o.looksAt ops := by
  intro p hp d hd hm
  obtain ⟨op, hop, hf, _, _⟩ := hR.pf p hp
  have hd' : op.dst = some d := by simpa [dstOf, hop] using hd
  by_cases e : x = p.1
  · have hoo : op = o := by rw [e] at ho; rw [hop] at ho; exact Option.some.inj ho
    exact hxs p hp e.symm d (hoo ▸ hd') hm
  have h2 := (freeOf_spec hf ho e hd').2 hm
  obtain ⟨o', ho', ed, hed, hb, hon⟩ := directly_spec h2
  rw [ho] at ho'
  obtain rfl := Option.some.inj ho'
  rw [mem_ready] at hx
  obtain ⟨_, o2, ho2, hall⟩ := hx
  rw [ho] at ho2
  obtain rfl := Option.some.inj ho2
  have := hall ed hed hb
  rw [hon, (hR.pl p hp).2] at this
  cases this

theorem sim_pend {fuel : Nat} {E pend : List (Nat × Value)} {Lc La : Array Bool} {ac aa : Act} {w : World} (hns : noSelect ops = true)
    (IH : ∀ La aa pend, Rel P ops E Lc La pend ac aa w → cnt La ≤ fuel → wpAnyIn (FW r) 0 P .any ops Q fuel La aa w)
    (hR : Rel P ops E Lc La pend ac aa w) (hc : cnt La ≤ fuel + 1) {x : Nat} {v : Value} (hx : x ∈ Region.ready .any ops La) (hp : (x, v) ∈ pend) :
    wpOpIn (FW r) 0 P ops Q x (wpAnyIn (FW r) 0 P .any ops Q fuel (La.setIfInBounds x true)) aa w := by
  obtain ⟨o, ho, hf, hv, _⟩ := hR.pf _ hp
  obtain ⟨hsel, hdef⟩ := noSelect_spec hns ho
  have hoff := pend_off hR hx ho (fun _ _ _ d hd => freeOf_self hf hd)
  rw [hR.act] at hv
  rw [puts_rdv hsel hoff] at hv
  have hLx : La.getD x true = false := (mem_ready.1 hx).1
  have hlt : x < La.size := by rw [hR.sa]; exact lt_of_some ho
  have next : wpAnyIn (FW r) 0 P .any ops Q fuel (La.setIfInBounds x true) (aa.put o.dst v) w := by
    obtain ⟨l1, l2, hl⟩ := List.append_of_mem hp
    have hdx : dstOf ops x = o.dst := by simp [dstOf, ho]
    have hnd := hR.nd
    rw [hl] at hnd
    simp only [List.map_append, List.map_cons, List.nodup_append, List.nodup_cons] at hnd
    have hne : ∀ p ∈ l1 ++ l2, p.1 ≠ x := by
      intro p hp' e
      rcases List.mem_append.1 hp' with h | h
      · exact hnd.2.2 p.1 (List.mem_map_of_mem h) x (by simp) e
      exact hnd.2.1.1 (e ▸ List.mem_map_of_mem h)
    have hsub : ∀ p ∈ l1 ++ l2, p ∈ pend := by
      intro p hp'
      rw [hl]
      rcases List.mem_append.1 hp' with h | h
      · exact List.mem_append_left _ h
      exact List.mem_append_right _ (.tail _ h)
    refine IH _ _ (l1 ++ l2) ⟨hR.sc, by simpa using hR.sa, ?_, ?_, ?_, ?_, hR.dc, ?_, ?_⟩ (by have := cnt_set hLx; omega)
    · intro i hi
      rw [getD_set hlt] at hi
      simp only [Bool.or_eq_true, decide_eq_true_eq] at hi
      rcases hi with rfl | hi
      · exact (hR.pl _ hp).1
      exact hR.sub i hi
    · intro i hi
      rw [getD_set hlt]
      by_cases e : x = i
      · exact .inl (by simp [e])
      rcases hR.mem i hi with h | ⟨u, hu⟩
      · exact .inl (by simp [h])
      refine .inr ⟨u, ?_⟩
      rw [hl] at hu
      rcases List.mem_append.1 hu with h | h
      · exact List.mem_append_left _ h
      rcases List.mem_cons.1 h with h | h
      · injection h with h1 _; exact absurd h1.symm e
      exact List.mem_append_right _ h
    · intro p hp'
      refine ⟨(hR.pl p (hsub p hp')).1, ?_⟩
      rw [getD_set hlt, (hR.pl p (hsub p hp')).2]
      simp [Ne.symm (hne p hp')]
    · exact fun p hp' => hR.pf p (hsub p hp')
    · rw [hR.act, hl, puts_mid (fun p hp' t ht => ?_), hdx]
      obtain ⟨op, hop, _⟩ := hR.pf p (hsub p (List.mem_append_left _ hp'))
      have := (freeOf_spec hf hop (hne p (List.mem_append_left _ hp')) (by simpa [dstOf, ho] using ht)).1
      simpa [dstOf, hop] using this
    simp only [List.map_append, List.nodup_append]
    exact ⟨hnd.1, hnd.2.1.2, fun a ha b hb => hnd.2.2 a ha b (.tail _ hb)⟩
  unfold wpOpIn
  simp only [ho]
  rcases hv with ⟨hw, hrun⟩ | ⟨hw, rfl⟩
  · rw [if_pos hw]
    exact ⟨fun _ _ => trivial, by rw [semAt_of hdef, hrun]; exact next⟩
  rw [hw]
  exact ⟨fun _ _ => trivial, next⟩

theorem uponIn_act {F : Fence} {n : Nat} {o : Oper} {a a' : Act} {R K : Act → World → Prop} {res : Result Next}
    (h : ∀ (v : Value) w, R (a.put o.dst v) w → K (a'.put o.dst v) w) (hds : ∀ d w, res ≠ .ok (.defer d) w) (hsz : a'.tmps.size = a.tmps.size) (hdf : a'.defers = a.defers)
    (hh : o.uponIn F n P a R (anyAct Q a) res) : o.uponIn F n P a' K Q res := by
  have hq : ∀ e a2 w, anyAct Q a e a2 w → Q e a' w := fun e a2 w h => h a' hsz hdf
  cases res with
  | ok x w' =>
    cases x <;> simp only [Oper.uponIn] at hh ⊢
    case value v => exact h v _ hh
    case skip => exact h _ _ hh
    case defer d => exact absurd rfl (hds d w')
    case enter f args =>
      refine ⟨hh.1, CallsIn.mono hh.2 (fun e w'' he => ?_)⟩
      cases e with
      | returned v => exact h v _ he
      | panicked c => exact hq _ _ _ he
      | outgrown => obtain ⟨x, y, h⟩ := he; exact ⟨a', y, hq _ _ _ h⟩
    case row => exact ⟨hh.1, RowsIn.mono hh.2 (fun v w'' he => h v _ he)⟩
    case round =>
      refine ⟨hh.1, RoundIn.mono hh.2 (fun e w'' he => ?_)⟩
      cases e with
      | returned v => exact h v _ he
      | panicked c => exact hq _ _ _ he
      | outgrown => obtain ⟨x, y, h⟩ := he; exact ⟨a', y, hq _ _ _ h⟩
    all_goals first | exact hh.elim | exact hq _ _ _ hh
  | halt x w' => cases x <;> simp only [Oper.uponIn] at hh ⊢ <;> first | exact hh.elim | exact hq _ _ _ hh | (obtain ⟨x, y, h⟩ := hh; exact ⟨x, y, hq _ _ _ h⟩)

theorem sim_step {fuel : Nat} (hns : noSelect ops = true)
    (IH : ∀ E Lc ac w, Stg P r ops Q E Lc ac w → ∀ La aa pend, Rel P ops E Lc La pend ac aa w → cnt La ≤ fuel → wpAnyIn (FW r) 0 P .any ops Q fuel La aa w)
    {E : List (Nat × Value)} {Lc : Array Bool} {ac : Act} {w : World} (hS : Stg P r ops Q E Lc ac w) :
    ∀ {La : Array Bool} {aa : Act} {pend : List (Nat × Value)}, Rel P ops E Lc La pend ac aa w → cnt La ≤ fuel + 1 → ∀ x ∈ Region.ready .any ops La,
      wpOpIn (FW r) 0 P ops Q x (wpAnyIn (FW r) 0 P .any ops Q fuel (La.setIfInBounds x true)) aa w := by
  -- what is ready truly and not yet met in the canonical course is ready there
  have up : ∀ {E : List (Nat × Value)} {Lc La : Array Bool} {ac aa : Act} {w : World} {pend : List (Nat × Value)}, Rel P ops E Lc La pend ac aa w → ∀ x ∈ Region.ready .any ops La, Lc.getD x false = false → x ∈ Region.ready .any ops Lc := by
    intro E Lc La ac aa w pend hR x hx hL
    rw [mem_ready] at hx ⊢
    obtain ⟨_, o, ho, hall⟩ := hx
    refine ⟨?_, o, ho, fun e he hb => hR.sub _ (hall e he hb)⟩
    rw [getD_same (by rw [hR.sc]; exact lt_of_some ho) true false]; exact hL
  have take : ∀ {E : List (Nat × Value)} {Lc : Array Bool} {ac : Act} {w : World}, Stg P r ops Q E Lc ac w → ∀ {La : Array Bool} {aa : Act} {pend : List (Nat × Value)}, Rel P ops E Lc La pend ac aa w → cnt La ≤ fuel + 1 →
      ∀ x ∈ Region.ready .any ops La, Lc.getD x false = true → wpOpIn (FW r) 0 P ops Q x (wpAnyIn (FW r) 0 P .any ops Q fuel (La.setIfInBounds x true)) aa w := by
    intro E Lc ac w hS La aa pend hR hc x hx hL
    rcases hR.mem x hL with h | ⟨v, hv⟩
    · have := (mem_ready.1 hx).1
      rw [getD_same (getD_lt h) true false, h] at this
      cases this
    exact sim_pend hns (fun La aa pend hR hc => IH _ _ _ _ hS La aa pend hR hc) hR hc hx hv
  have dcs : ∀ {E : List (Nat × Value)} {Lc La : Array Bool} {ac aa : Act} {w : World} {pend : List (Nat × Value)}, Rel P ops E Lc La pend ac aa w → ∀ {i : Nat} {o : Oper}, i ∈ Region.ready .any ops Lc → ops[i]? = some o →
      ∀ j oj, (Lc.setIfInBounds i true).getD j false = true → ops[j]? = some oj → ∀ e ∈ oj.after, Region.binds .any e = true → (Lc.setIfInBounds i true).getD e.on false = true := by
    intro E Lc La ac aa w pend hR i o hi ho j oj hj hoj e he hb
    have hlt : i < Lc.size := by rw [hR.sc]; exact lt_of_some ho
    rw [getD_set hlt] at hj ⊢
    simp only [Bool.or_eq_true, decide_eq_true_eq] at hj ⊢
    refine .inr ?_
    rcases hj with rfl | hj
    · obtain ⟨_, o2, ho2, hall⟩ := mem_ready.1 hi
      rw [hoj] at ho2
      obtain rfl := Option.some.inj ho2
      exact hall e he hb
    exact hR.dc j oj hj hoj e he hb
  -- one more reader is evaluated in the canonical course
  have more : ∀ {E E' : List (Nat × Value)} {Lc : Array Bool} {ac : Act} {w : World} {i : Nat} {o : Oper} {v : Value}, (∀ p ∈ E, p ∈ E') → i ∈ Region.ready .any ops Lc → ops[i]? = some o → freeOf ops i o = true → rdv P ops o v ac w →
      ((i, v) ∈ E' ∨ ∀ w, rdv P ops o v ac w) → ∀ {La : Array Bool} {aa : Act} {pend : List (Nat × Value)}, Rel P ops E Lc La pend ac aa w →
      Rel P ops E' (Lc.setIfInBounds i true) La ((i, v) :: pend) (ac.put o.dst v) aa w := by
    intro E E' Lc ac w i o v hEE hi ho hf hv hE La aa pend hR
    have hlt : i < Lc.size := by rw [hR.sc]; exact lt_of_some ho
    have hLi : Lc.getD i false = false := by have := (mem_ready.1 hi).1; rwa [getD_same hlt true false] at this
    have hLa : La.getD i false = false := by
      cases h : La.getD i false with
      | false => rfl
      | true => rw [hR.sub i h] at hLi; cases hLi
    have hsel := (noSelect_spec hns ho).1
    refine ⟨by simpa using hR.sc, hR.sa, ?_, ?_, ?_, ?_, dcs hR hi ho, ?_, ?_⟩
    · intro j hj; rw [getD_set hlt, hR.sub j hj]; simp
    · intro j hj
      rw [getD_set hlt] at hj
      simp only [Bool.or_eq_true, decide_eq_true_eq] at hj
      rcases hj with rfl | hj
      · exact .inr ⟨v, .head _⟩
      rcases hR.mem j hj with h | ⟨u, hu⟩
      · exact .inl h
      exact .inr ⟨u, .tail _ hu⟩
    · intro p hp
      rcases List.mem_cons.1 hp with rfl | hp
      · exact ⟨by rw [getD_set hlt]; simp, hLa⟩
      exact ⟨by rw [getD_set hlt, (hR.pl p hp).1]; simp, (hR.pl p hp).2⟩
    · -- its value stays, and what was there stays
      have offSelf : ∀ d, o.dst = some d → d ∉ o.looksAt ops := fun d hd => freeOf_self hf hd
      intro p hp
      rcases List.mem_cons.1 hp with rfl | hp
      · exact ⟨o, ho, hf, (rdv.put hsel _ _ offSelf).2 hv, hE.imp id (fun h w => (rdv.put hsel _ _ offSelf).2 (h w))⟩
      obtain ⟨op, hop, hfp, hvp, hEp⟩ := hR.pf p hp
      have hne : p.1 ≠ i := fun e => by have := (hR.pl p hp).1; rw [e, hLi] at this; cases this
      have hselp := (noSelect_spec hns hop).1
      have hoff : ∀ d, o.dst = some d → d ∉ op.looksAt ops := by
        intro d hd hm
        have h2 := (freeOf_spec hf hop hne hd).2 hm
        -- then i comes ahead of p, which is listed in the canonical course: so i is
        obtain ⟨o', ho', ed, hed, hb, hon⟩ := directly_spec h2
        have := hR.dc p.1 o' (hR.pl p hp).1 ho' ed hed hb
        rw [hon, hLi] at this
        cases this
      exact ⟨op, hop, hfp, (rdv.put hselp _ _ hoff).2 hvp, hEp.imp (hEE p) (fun h w => (rdv.put hselp _ _ hoff).2 (h w))⟩
    · have hdi : dstOf ops i = o.dst := by simp [dstOf, ho]
      simp only [puts]
      rw [puts_put, hR.act, hdi]
      intro p hp t ht
      obtain ⟨op, hop, _⟩ := hR.pf p hp
      have hne : p.1 ≠ i := fun e => by have := (hR.pl p hp).1; rw [e, hLi] at this; cases this
      have := (freeOf_spec hf hop hne (by simpa [dstOf, ho] using ht)).1
      simpa [dstOf, hop] using this
    simp only [List.map_cons, List.nodup_cons]
    refine ⟨fun hm => ?_, hR.nd⟩
    obtain ⟨p, hp, e⟩ := List.mem_map.1 hm
    have := (hR.pl p hp).1
    rw [e, hLi] at this; cases this
  induction hS with
  | done h hq =>
    intro La aa pend hR hc x hx
    rename_i L a w0
    cases hL : L.getD x false with
    | true => exact take (.done h hq) hR hc x hx hL
    | false => have := up hR x hx hL; rw [h] at this; cases this
  | read hi ho hf hv k ih =>
    intro La aa pend hR hc x hx
    exact ih (more (fun p hp => .tail _ hp) hi ho hf hv (.inl (.head _)) hR) hc x hx
  | pure hi ho hf hv k ih =>
    intro La aa pend hR hc x hx
    exact ih (more (fun p hp => hp) hi ho hf (hv _) (.inr hv) hR) hc x hx
  | write hne R hx E' hE hs k ih =>
    intro La aa pend hR hc x hxr
    rename_i E L ac w0
    cases hL : L.getD x false with
    | true => exact take (.write hne R hx E' hE hs k) hR hc x hxr hL
    | false =>
      have hxc := up hR x hxr hL
      obtain ⟨o, ho, hap, hrun⟩ := hx x hxc
      obtain ⟨hsel, hdef⟩ := noSelect_spec hns ho
      have hpx : ∀ p ∈ pend, p.1 ≠ x := fun p hp e => by have := (hR.pl p hp).1; rw [e, hL] at this; cases this
      have hoff := pend_off hR hxr ho (fun p hp e => absurd e (hpx p hp))
      obtain ⟨he, hw⟩ := puts_exec hsel hoff aa
      rw [← hR.act] at he hw
      have hltc : x < L.size := by rw [hR.sc]; exact lt_of_some ho
      have hlta : x < La.size := by rw [hR.sa]; exact lt_of_some ho
      have hLa : La.getD x true = false := (mem_ready.1 hxr).1
      have hdx : dstOf ops x = o.dst := by simp [dstOf, ho]
      -- none that is pending comes straight ahead of x
      have hdir : ∀ p ∈ pend, directly ops x p.1 = false := by
        intro p hp
        cases hd : directly ops x p.1 with
        | false => rfl
        | true =>
          obtain ⟨o', ho', ed, hed, hb, hon⟩ := directly_spec hd
          obtain ⟨_, o2, ho2, hall⟩ := mem_ready.1 hxr
          rw [ho'] at ho2
          obtain rfl := Option.some.inj ho2
          have := hall ed hed hb
          rw [hon, (hR.pl p hp).2] at this
          cases this
      have next : ∀ v w', R x (ac.put o.dst v) w' → wpAnyIn (FW r) 0 P .any ops Q fuel (La.setIfInBounds x true) (aa.put o.dst v) w' := by
        intro v w' hRx
        refine IH _ _ _ _ (k x hxc o ho v w' hRx) _ _ pend ⟨by simpa using hR.sc, by simpa using hR.sa, ?_, ?_, ?_, ?_, dcs hR hxc ho, ?_, hR.nd⟩ (by have := cnt_set hLa; omega)
        · intro i hi
          rw [getD_set hlta] at hi
          rw [getD_set hltc]
          simp only [Bool.or_eq_true, decide_eq_true_eq] at hi ⊢
          exact hi.imp id (hR.sub i)
        · intro i hi
          rw [getD_set hltc] at hi
          rw [getD_set hlta]
          simp only [Bool.or_eq_true, decide_eq_true_eq] at hi ⊢
          rcases hi with rfl | hi
          · exact .inl (.inl rfl)
          exact (hR.mem i hi).imp .inr id
        · intro p hp
          rw [getD_set hltc, getD_set hlta, (hR.pl p hp).1, (hR.pl p hp).2]
          simp [Ne.symm (hpx p hp)]
        · intro p hp
          obtain ⟨op, hop, hfp, hvp, hEp⟩ := hR.pf p hp
          have hoffp : ∀ d, o.dst = some d → d ∉ op.looksAt ops := by
            intro d hd hm
            rcases (apartAll_spec hap hop (hpx p hp) hd).2 hm with h | h
            · obtain ⟨o', ho', ed, hed, hb, hon⟩ := directly_spec h
              have := hR.dc p.1 o' (hR.pl p hp).1 ho' ed hed hb
              rw [hon, hL] at this; cases this
            rw [hdir p hp] at h; cases h
          have hselp := (noSelect_spec hns hop).1
          rcases hEp with hEp | hEp
          · exact ⟨op, hop, hfp, hs x hxc o ho v w' hRx p (hE x hxc p hEp (hdir p hp)) op hop, .inl (hE x hxc p hEp (hdir p hp))⟩
          exact ⟨op, hop, hfp, (rdv.put hselp _ _ hoffp).2 (hEp w'), .inr fun w => (rdv.put hselp _ _ hoffp).2 (hEp w)⟩
        rw [puts_put, ← hR.act]
        intro p hp t ht
        obtain ⟨op, hop, _⟩ := hR.pf p hp
        have := (apartAll_spec hap hop (hpx p hp) ht).1
        simpa [dstOf, hop] using this
      unfold wpOpIn
      simp only [ho]
      rcases hrun with ⟨hwt, hnd, hu⟩ | ⟨hwf, hu⟩
      · rw [if_pos (hw ▸ hwt)]
        refine ⟨fun _ _ => trivial, ?_⟩
        rw [semAt_of hdef, ← he]
        exact uponIn_act next hnd (by rw [hR.act, puts_size]) (by rw [hR.act, puts_defers]) hu
      rw [← hw, hwf]
      exact ⟨fun _ _ => trivial, next _ _ hu⟩

theorem sim (hns : noSelect ops = true) (hb : backB ops = true) : ∀ (fuel : Nat) E Lc ac w, Stg P r ops Q E Lc ac w → ∀ La aa pend, Rel P ops E Lc La pend ac aa w → cnt La ≤ fuel → wpAnyIn (FW r) 0 P .any ops Q fuel La aa w := by
  have fin : ∀ E Lc ac w, Stg P r ops Q E Lc ac w → ∀ La aa pend, Rel P ops E Lc La pend ac aa w → Region.ready .any ops La = [] → Q .normal aa w := by
    intro E Lc ac w hS La aa pend hR hr
    have hall := ready_all hb hR.sa hr
    have hp : pend = [] := by
      cases pend with
      | nil => rfl
      | cons p l =>
        obtain ⟨o, ho, _⟩ := hR.pf p (.head _)
        have h1 := (hR.pl p (.head _)).2
        rw [hall p.1 (lt_of_some ho)] at h1
        cases h1
    have hrc : Region.ready .any ops Lc = [] := by
      cases h : Region.ready .any ops Lc with
      | nil => rfl
      | cons i l =>
        have hm : i ∈ Region.ready .any ops Lc := by rw [h]; exact .head _
        obtain ⟨h0, o, ho, _⟩ := mem_ready.1 hm
        rw [getD_same (by rw [hR.sc]; exact lt_of_some ho) true false, hR.sub i (hall i (lt_of_some ho))] at h0
        cases h0
    have hact := hR.act
    rw [hp] at hact
    simp only [puts] at hact
    subst hact
    cases hS with
    | done h hq => exact hq
    | read hi => rw [hrc] at hi; cases hi
    | pure hi => rw [hrc] at hi; cases hi
    | write hne => exact absurd hrc hne
  intro fuel
  induction fuel with
  | zero =>
    intro E Lc ac w hS La aa pend hR hc
    have hr : Region.ready .any ops La = [] := by
      cases h : Region.ready .any ops La with
      | nil => rfl
      | cons i l =>
        have hm : i ∈ Region.ready .any ops La := by rw [h]; exact .head _
        have := cnt_set (mem_ready.1 hm).1
        omega
    exact ⟨hr, fin _ _ _ _ hS _ _ _ hR hr⟩
  | succ fuel ih =>
    intro E Lc ac w hS La aa pend hR hc
    exact ⟨fin _ _ _ _ hS _ _ _ hR, sim_step hns ih hS hR hc⟩

end sim

section
variable {X : Cx} {ρ : PEnv} {ds : List Deferred} {H : Heap} {Q : Post}

def filterE (ks : List Nat) : List (Nat × Value) → List (Nat × Value)
  | [] => []
  | (i, v) :: E => bif memB i ks then (i, v) :: filterE ks E else filterE ks E

theorem filterE_mem {ks : List Nat} {E : List (Nat × Value)} {p : Nat × Value} (h : p ∈ E) (hk : memB p.1 ks = true) : p ∈ filterE ks E := by
  induction E with
  | nil => cases h
  | cons q E ih =>
    obtain ⟨i, v⟩ := q
    simp only [filterE]
    rcases List.mem_cons.1 h with rfl | h
    · rw [hk]; exact .head _
    cases memB i ks
    · exact ih h
    exact .tail _ (ih h)

theorem filterE_sub {ks : List Nat} {E : List (Nat × Value)} : ∀ p ∈ filterE ks E, p ∈ E := by
  induction E with
  | nil => intro p hp; exact hp
  | cons q E ih =>
    obtain ⟨j, u⟩ := q
    intro p hp
    simp only [filterE] at hp
    cases h : memB j ks
    · rw [h] at hp; exact .tail _ (ih p hp)
    rw [h] at hp
    rcases List.mem_cons.1 hp with rfl | hp
    · exact .head _
    exact .tail _ (ih p hp)

theorem put_defers (a : Act) (d : Option Tmp) (v : Value) : (a.put d v).defers = a.defers := by cases d <;> rfl

/-- Its guard lets it run. -/
inductive Want (l : List Oper) (ρ : PEnv) (o : Oper) : Prop
  | plain (h : o.guard = none)
  | yes {j d : Nat} {want b : Bool} (hg : o.guard = some (j, want)) (hj : (l[j]?).bind (·.dst) = some d) (hv : ρ.get d = some (.bool b)) (hb : b = want)

/-- Its guard passes it over. -/
structure Pass (l : List Oper) (ρ : PEnv) (o : Oper) : Prop where
  ex : ∃ (j d : Nat) (want : Bool), o.guard = some (j, want) ∧ (l[j]?).bind (·.dst) = some d ∧ ((∃ b, ρ.get d = some (.bool b) ∧ b = !want) ∨ ρ.get d = some undef)

theorem Pass.mk' {l : List Oper} {o : Oper} {j d : Nat} {want b : Bool} (hg : o.guard = some (j, want)) (hj : (l[j]?).bind (·.dst) = some d) (hv : ρ.get d = some (.bool b)) (hb : b = !want) : Pass l ρ o :=
  ⟨j, d, want, hg, hj, .inl ⟨b, hv, hb⟩⟩

theorem Pass.und {l : List Oper} {o : Oper} {j d : Nat} {want : Bool} (hg : o.guard = some (j, want)) (hj : (l[j]?).bind (·.dst) = some d) (hv : ρ.get d = some undef) : Pass l ρ o :=
  ⟨j, d, want, hg, hj, .inr hv⟩

theorem Want.wanted {l : List Oper} {o : Oper} {n : Nat} {a : Act} (h : Want l ρ o) (ha : Agr n ρ ds a) : Region.wanted o (yielded l.toArray a.tmps) = true := by
  cases h with
  | plain h => simp [Region.wanted, h]
  | yes hg hj hv hb => simp [Region.wanted, hg, yielded_of (ops := l.toArray) ha (by simpa using hj) hv, hb]

theorem Pass.wanted {l : List Oper} {o : Oper} {n : Nat} {a : Act} (h : Pass l ρ o) (ha : Agr n ρ ds a) : Region.wanted o (yielded l.toArray a.tmps) = false := by
  obtain ⟨j, d, want, hg, hj, hv⟩ := h.ex
  rcases hv with ⟨b, hv, hb⟩ | hv
  · rw [Region.wanted, hg]; simp only [yielded_of (ops := l.toArray) ha (by simpa using hj) hv, hb]; cases want <;> rfl
  rw [Region.wanted, hg]; simp only [yielded_und (ops := l.toArray) ha (by simpa using hj) hv]; rfl

/-- What was read may be read later too. -/
inductive Stab (X : Cx) (l : List Oper) (ρ : PEnv) (H : Heap) : List (Nat × Value) → Prop
  | nil : Stab X l ρ H []
  | cons {i : Nat} {v : Value} {o : Oper} {E : List (Nat × Value)} (ho : l[i]? = some o) (hw : Want l ρ o) (h : RdA X ρ H o v) (t : Stab X l ρ H E) : Stab X l ρ H ((i, v) :: E)

theorem Stab.mem {l : List Oper} {E : List (Nat × Value)} (h : Stab X l ρ H E) : ∀ p ∈ E, ∃ o, l[p.1]? = some o ∧ Want l ρ o ∧ RdA X ρ H o p.2 := by
  induction h with
  | nil => intro p hp; cases hp
  | cons ho hw h _ ih =>
    intro p hp
    rcases List.mem_cons.1 hp with rfl | hp
    · exact ⟨_, ho, hw, h⟩
    exact ih p hp

/-- What is left of a region whose order is drawn. -/
def DD (X : Cx) (l : List Oper) (pl : Plan) (E : List (Nat × Value)) (L : Array Bool) (ρ : PEnv) (ds : List Deferred) (H : Heap) (Q : Post) : Prop :=
  ∀ J, pl.ok l.toArray J L = true → (∀ p ∈ E, p.1 ∈ J) → l.all (dstLt X.n) = true → ∀ a w, Agr X.n ρ ds a → Good X.w0 X.M H w → Stg X.P X.r l.toArray (Lift X Q) E L a w

theorem V_draw {id : Nat} {l : List Oper} (pl : Plan) (hm : X.P.follows .mixedOrders = true) (hok : (noSelect l.toArray && backB l.toArray && pl.ok l.toArray [] (Array.replicate l.length false)) = true)
    (hf : l.all (dstLt X.n) = true) (h : DD X l pl [] (Array.replicate l.length false) ρ ds H Q) : V X (.region id l.toArray true) ρ ds H Q := by
  intro a w ha hg
  simp only [Bool.and_eq_true] at hok
  refine wpIn_region_any hm ?_
  have hS := h [] hok.2 (fun p hp => by cases hp) hf a _ ha (hg.drew (w.drawn + 1))
  have hz : (List.toArray l).size = l.length := by simp
  rw [hz]
  refine sim hok.1.1 hok.1.2 l.length [] _ a _ hS _ a [] ⟨by simp, by simp, fun i hi => hi, fun i hi => .inl hi, fun p hp => (by cases hp), fun p hp => (by cases hp), ?_, rfl, by simp⟩ ?_
  · intro j o hj
    exfalso
    have := getD_lt hj
    simp at this
    simp [this] at hj
  simp [cnt, List.count_replicate]

variable {l : List Oper} {E : List (Nat × Value)} {L : Array Bool} {pl : Plan}

theorem D_end {ρ' : PEnv} {H' : Heap} (hs : Sub ρ' ρ) (hh : H'.Sublist H) (h : Q .normal ρ' ds H') : DD X l .done E L ρ ds H Q := by
  intro J hok _ _ a w ha hg
  simp only [Plan.ok, List.isEmpty_iff] at hok
  exact .done hok ⟨ρ', ds, H', ha.sub hs, hg.sub hh, h⟩

theorem D_keep {ρ' : PEnv} {ks : List Nat} (hs : Keep ρ ks ρ') (h : Q .normal ρ' ds H) : DD X l .done E L ρ ds H Q := D_end hs.sub (List.Sublist.refl _) h

theorem D_then {ρ' : PEnv} {ks : List Nat} {k : PEnv → List Deferred → Heap → Prop} (hs : Keep ρ ks ρ') (h : k ρ' ds H) : DD X l .done E L ρ ds H (Then k Q) := D_end hs.sub (List.Sublist.refl _) h

theorem D_cases {d : Nat} {b : Bool} (hv : ρ.get d = some (.bool b)) (h1 : b = true → DD X l pl E L ρ ds H Q) (h2 : b = false → DD X l pl E L ρ ds H Q) : DD X l pl E L ρ ds H Q := by
  cases b
  · exact h2 rfl
  exact h1 rfl

theorem okRd_spec {i : Nat} {J : List Nat} {o : Oper} (hok : (Plan.rd i pl).ok l.toArray J L = true) (ho : l[i]? = some o) :
    i ∈ Region.ready .any l.toArray L ∧ (l.toArray)[i]? = some o ∧ freeOf l.toArray i o = true ∧ pl.ok l.toArray (i :: J) (L.setIfInBounds i true) = true := by
  have ho' : (l.toArray)[i]? = some o := by simpa using ho
  simp only [Plan.ok, ho', Bool.and_eq_true] at hok
  exact ⟨by simpa [List.contains_iff_mem] using hok.1.1, ho', hok.1.2, hok.2⟩

theorem fits_of {i : Nat} {o : Oper} {n : Nat} (hf : l.all (dstLt n) = true) (ho : l[i]? = some o) : ∀ t, o.dst = some t → t < n :=
  dstLt_iff (List.all_eq_true.1 hf o (List.mem_of_getElem? ho))

theorem D_p {i : Nat} {o : Oper} {v : Value} (ho : l[i]? = some o) (hw : Want l ρ o) (h : RdP X ρ o v) (k : DD X l pl E (L.setIfInBounds i true) (ρ.put o.dst v) ds H Q) : DD X l (.rd i pl) E L ρ ds H Q := by
  intro J hok hE hf a w ha hg
  obtain ⟨h1, h2, h3, h4⟩ := okRd_spec hok ho
  exact .pure h1 h2 h3 (fun w => .inl ⟨hw.wanted ha, h.run _ w ha.evs⟩) (k (i :: J) h4 (fun p hp => .tail _ (hE p hp)) hf _ w (ha.put (fits_of hf ho) v) hg)

theorem D_rd {i : Nat} {o : Oper} {v : Value} (ho : l[i]? = some o) (hw : Want l ρ o) (h : RdA X ρ H o v) (k : DD X l pl ((i, v) :: E) (L.setIfInBounds i true) (ρ.put o.dst v) ds H Q) : DD X l (.rd i pl) E L ρ ds H Q := by
  intro J hok hE hf a w ha hg
  obtain ⟨h1, h2, h3, h4⟩ := okRd_spec hok ho
  refine .read h1 h2 h3 (.inl ⟨hw.wanted ha, h.run _ w ha.evs hg⟩) (k (i :: J) h4 (fun p hp => ?_) hf _ w (ha.put (fits_of hf ho) v) hg)
  rcases List.mem_cons.1 hp with rfl | hp
  · exact .head _
  exact .tail _ (hE p hp)

theorem D_no {i : Nat} {o : Oper} (ho : l[i]? = some o) (hw : Pass l ρ o) (k : DD X l pl E (L.setIfInBounds i true) (ρ.put o.dst undef) ds H Q) : DD X l (.rd i pl) E L ρ ds H Q := by
  intro J hok hE hf a w ha hg
  obtain ⟨h1, h2, h3, h4⟩ := okRd_spec hok ho
  exact .pure h1 h2 h3 (fun w => .inr ⟨hw.wanted ha, rfl⟩) (k (i :: J) h4 (fun p hp => .tail _ (hE p hp)) hf _ w (ha.put (fits_of hf ho) _) hg)

theorem okWr_spec {i : Nat} {J ks : List Nat} {o : Oper} (hok : okWr l.toArray i J ks = true) (ho : l[i]? = some o) :
    (l.toArray)[i]? = some o ∧ apartAll l.toArray i o = true ∧ (∀ j ∈ J, directly l.toArray i j = false → memB j ks = true) := by
  have ho' : (l.toArray)[i]? = some o := by simpa using ho
  simp only [okWr, ho', Bool.and_eq_true, kept, List.all_eq_true, Bool.or_eq_true] at hok
  exact ⟨ho', hok.1, fun j hj hd => (hok.2 j hj).resolve_left (by simp [hd])⟩

/-- It changes the world, and ends with a value and owned blocks of which R holds, or panics, and S holds. -/
structure WrX (X : Cx) (ρ : PEnv) (H : Heap) (o : Oper) (R : Value → Heap → Prop) (S : List PanicEntry → Heap → Prop) : Prop where
  nd : ∀ c, o.op ≠ .defer c
  run : ∀ (a : Act) w, Evs ρ a.eval → Good X.w0 X.M H w → o.uponIn (FW X.r) 0 X.P a (fun a' w' => ∃ v H', a' = a.put o.dst v ∧ Good X.w0 X.M H' w' ∧ R v H') (fun e _ w' => ∃ ch H', e = .panic ch ∧ Good X.w0 X.M H' w' ∧ S ch H') ((execOp a.eval o).run X.P w)

theorem uponIn_exit {F : Fence} {n : Nat} {P : Program} {o : Oper} {a : Act} {K K' : Act → World → Prop} {Q Q' : Exit → Act → World → Prop} {res : Result Next}
    (h : ∀ a w, K a w → K' a w) (hq : ∀ e a w, Q e a w → Q' e a w) (hh : o.uponIn F n P a K Q res) : o.uponIn F n P a K' Q' res := by
  cases res with
  | ok x w' =>
    cases x <;> simp only [Oper.uponIn] at hh ⊢ <;>
      first
        | exact h _ _ hh
        | exact hq _ _ _ hh
        | exact ⟨hh.1, CallsIn.mono hh.2 (fun e w'' he => by cases e <;> first | exact h _ _ he | exact hq _ _ _ he | exact (by obtain ⟨x, y, h⟩ := he; exact ⟨x, y, hq _ _ _ h⟩))⟩
        | exact ⟨hh.1, RowsIn.mono hh.2 (fun _ _ he => h _ _ he)⟩
        | exact ⟨hh.1, RoundIn.mono hh.2 (fun e w'' he => by cases e <;> first | exact h _ _ he | exact hq _ _ _ he | exact (by obtain ⟨x, y, h⟩ := he; exact ⟨x, y, hq _ _ _ h⟩))⟩
  | halt x w' => cases x <;> simp only [Oper.uponIn] at hh ⊢ <;> first | exact hh.elim | exact hq _ _ _ hh | (obtain ⟨x, y, h⟩ := hh; exact ⟨x, y, hq _ _ _ h⟩)

/-- One of the writers that may come first. -/
inductive Step (X : Cx) (l : List Oper) (E : List (Nat × Value)) (L : Array Bool) (ρ : PEnv) (ds : List Deferred) (H : Heap) (Q : Post) (i : Nat) (ks : List Nat) (pl : Plan) : Prop
  | go {o : Oper} {E' : List (Nat × Value)} {R : Value → Heap → Prop} (ho : l[i]? = some o) (hw : Want l ρ o) (h : WrA X ρ H o R) (hE' : filterE ks E = E')
      (k : ∀ v H', R v H' → Stab X l (ρ.put o.dst v) H' E' ∧ DD X l pl E' (L.setIfInBounds i true) (ρ.put o.dst v) ds H' Q)
  | goX {o : Oper} {E' : List (Nat × Value)} {R : Value → Heap → Prop} {S : List PanicEntry → Heap → Prop} (ho : l[i]? = some o) (hw : Want l ρ o) (h : WrX X ρ H o R S) (hE' : filterE ks E = E') (hP : ∀ ch H', S ch H' → Q (.panic ch) [] ds H')
      (k : ∀ v H', R v H' → Stab X l (ρ.put o.dst v) H' E' ∧ DD X l pl E' (L.setIfInBounds i true) (ρ.put o.dst v) ds H' Q)
  | pass {o : Oper} {E' : List (Nat × Value)} (ho : l[i]? = some o) (hw : Pass l ρ o) (hE' : filterE ks E = E')
      (k : Stab X l (ρ.put o.dst undef) H E' ∧ DD X l pl E' (L.setIfInBounds i true) (ρ.put o.dst undef) ds H Q)

theorem stg_steps {J : List Nat} {is : List Nat} (hr : Region.ready .any l.toArray L = is) (hne : is ≠ []) (KS : Nat → List Nat) (PL : Nat → Plan)
    (hok : ∀ i ∈ is, okWr l.toArray i J (KS i) = true) (hp : ∀ i ∈ is, (PL i).ok l.toArray J (L.setIfInBounds i true) = true) (hE : ∀ p ∈ E, p.1 ∈ J) (hf : l.all (dstLt X.n) = true)
    (h : ∀ i ∈ is, Step X l E L ρ ds H Q i (KS i) (PL i)) {a : Act} {w : World} (ha : Agr X.n ρ ds a) (hg : Good X.w0 X.M H w) : Stg X.P X.r l.toArray (Lift X Q) E L a w := by
  subst hr
  have hfil : ∀ i, ∀ p ∈ filterE (KS i) E, p ∈ E := fun i => filterE_sub
  refine .write hne (fun i a' w' => (∀ p ∈ filterE (KS i) E, ∀ op, l.toArray[p.1]? = some op → rdv X.P l.toArray op p.2 a' w') ∧ Stg X.P X.r l.toArray (Lift X Q) (filterE (KS i) E) (L.setIfInBounds i true) a' w') ?_ (fun i => filterE (KS i) E) ?_ ?_ ?_
  · intro i hi
    have stab : ∀ {ρ' : PEnv} {H' : Heap} {a' : Act} {w' : World}, Stab X l ρ' H' (filterE (KS i) E) → Agr X.n ρ' ds a' → Good X.w0 X.M H' w' → ∀ p ∈ filterE (KS i) E, ∀ op, l.toArray[p.1]? = some op → rdv X.P l.toArray op p.2 a' w' := by
      intro ρ' H' a' w' hst ha' hg' p hp op hop
      obtain ⟨op', hop', hwp, hrp⟩ := hst.mem p hp
      have : op' = op := by have h1 : (l.toArray)[p.1]? = some op' := by simpa using hop'
                            rw [hop] at h1; exact (Option.some.inj h1).symm
      subst this
      exact .inl ⟨hwp.wanted ha', hrp.run _ w' ha'.evs hg'⟩
    cases h i hi with
    | go ho hw hwr hE' k =>
      subst hE'
      obtain ⟨ho', hap, _⟩ := okWr_spec (hok i hi) ho
      refine ⟨_, ho', hap, .inl ⟨hw.wanted ha, ?_, ?_⟩⟩
      · intro d w' e
        have := hwr.run a w ha.evs hg
        rw [e] at this
        simp only [Oper.uponIn] at this
        obtain ⟨v, H', e', _⟩ := this
        have := congrArg (fun a => a.defers.length) e'
        simp [put_defers] at this
      refine uponIn_noPanic ?_ (hwr.run a w ha.evs hg)
      rintro a' w' ⟨v, H', rfl, hg', hR⟩
      obtain ⟨hst, hD⟩ := k v H' hR
      have ha' := ha.put (fits_of hf ho) v
      exact ⟨stab hst ha' hg', hD J (hp i hi) (fun p hp => hE p (hfil i p hp)) hf _ w' ha' hg'⟩
    | goX ho hw hwr hE' hP k =>
      subst hE'
      obtain ⟨ho', hap, _⟩ := okWr_spec (hok i hi) ho
      refine ⟨_, ho', hap, .inl ⟨hw.wanted ha, ?_, ?_⟩⟩
      · intro d w' e
        have := hwr.run a w ha.evs hg
        rw [e] at this
        simp only [Oper.uponIn] at this
        obtain ⟨v, H', e', _⟩ := this
        have := congrArg (fun a => a.defers.length) e'
        simp [put_defers] at this
      refine uponIn_exit ?_ ?_ (hwr.run a w ha.evs hg)
      · rintro a' w' ⟨v, H', rfl, hg', hR⟩
        obtain ⟨hst, hD⟩ := k v H' hR
        have ha' := ha.put (fits_of hf ho) v
        exact ⟨stab hst ha' hg', hD J (hp i hi) (fun p hp => hE p (hfil i p hp)) hf _ w' ha' hg'⟩
      rintro e a2 w' ⟨ch, H', rfl, hg', hS⟩ a' hsz hdf
      exact ⟨[], ds, H', ⟨fun t v h => by simp [PEnv.get] at h, by rw [hsz]; exact ha.size, by rw [hdf]; exact ha.defers⟩, hg', hP ch H' hS⟩
    | pass ho hw hE' k =>
      subst hE'
      obtain ⟨ho', hap, _⟩ := okWr_spec (hok i hi) ho
      refine ⟨_, ho', hap, .inr ⟨hw.wanted ha, ?_⟩⟩
      obtain ⟨hst, hD⟩ := k
      have ha' := ha.put (fits_of hf ho) undef
      exact ⟨stab hst ha' hg, hD J (hp i hi) (fun p hp => hE p (hfil i p hp)) hf _ w ha' hg⟩
  · intro i hi p hp hd
    have hokk := hok i hi
    have hk : ∀ j ∈ J, directly l.toArray i j = false → memB j (KS i) = true := by
      simp only [okWr, Bool.and_eq_true, kept, List.all_eq_true, Bool.or_eq_true] at hokk
      exact fun j hj hdd => (hokk.2 j hj).resolve_left (by simp [hdd])
    exact filterE_mem hp (hk p.1 (hE p hp) hd)
  · intro i hi o ho v w' hR p hp op hop
    exact hR.1 p hp op hop
  intro i hi o ho v w' hR
  exact hR.2

theorem D_wr {i : Nat} {ks : List Nat} (h : Step X l E L ρ ds H Q i ks pl) : DD X l (.wr i ks pl) E L ρ ds H Q := by
  intro J hok hE hf a w ha hg
  simp only [Plan.ok, Bool.and_eq_true, beq_iff_eq] at hok
  obtain ⟨⟨hr, hok1⟩, hok2⟩ := hok
  exact stg_steps hr (by simp) (fun _ => ks) (fun _ => pl) (by simpa using hok1) (by simpa using hok2) hE hf (by simpa using h) ha hg

theorem D_wr2 {i j : Nat} {ks ls : List Nat} {q : Plan} (hij : Nat.beq j i = false) (h1 : Step X l E L ρ ds H Q i ks pl) (h2 : Step X l E L ρ ds H Q j ls q) : DD X l (.wr2 i ks pl j ls q) E L ρ ds H Q := by
  intro J hok hE hf a w ha hg
  simp only [Plan.ok, Bool.and_eq_true, beq_iff_eq] at hok
  obtain ⟨⟨⟨⟨hr, o1⟩, o2⟩, p1⟩, p2⟩ := hok
  refine stg_steps hr (by simp) (fun x => bif Nat.beq x i then ks else ls) (fun x => bif Nat.beq x i then pl else q) ?_ ?_ hE hf ?_ ha hg
  all_goals
    intro x hx
    simp only [List.mem_cons, List.not_mem_nil, or_false] at hx
    rcases hx with rfl | rfl
    · simp only [Nat.beq_refl, cond_true]; assumption
    simp only [hij, cond_false]; assumption

end

end Go.Vc
