/- Joined texts. -/
import Derived.CallsIn
import Derived.OrdersIn
import Derived.OwnWalkIn
import Derived.RangeFuncIn
import Derived.Laws.Sem
import Derived.Laws.World
import Derived.Laws.Cells
import Derived.Laws.Build
import Derived.Laws.StructEq
import Derived.KernelRfl
import Derived.IntWalk
import Derived.Laws.Strings
import Derived.RangeFuncRecord
import Derived.RangeFuncNested
import Derived.Laws.OwnMore
import Derived.Test.YtlcccpeelombbaaDoorProg
/- The general part: a calculus of frames and owned blocks over the fenced walk. -/
set_option linter.all false
namespace Go.Vc

/-! ### the world -/

abbrev Heap := List (Nat × Obj)

theorem mH {α : Type} {x : α} {l : List α} : x ∈ x :: l := .head _
theorem mT {α : Type} {x y : α} {l : List α} (h : x ∈ l) : x ∈ y :: l := .tail _ h

/-- what tidies a condition -/
theorem td : (∀ (p : Prop) [Decidable p], (decide p = true) = p) ∧ (∀ (p : Prop) [Decidable p], (decide p = false) ↔ ¬ p) ∧ (∀ b : Bool, ((!b) = true) = (b = false)) ∧ (∀ b : Bool, ((!b) = false) = (b = true)) ∧
    ((!true) = false) ∧ ((!false) = true) ∧ (∀ (α : Type) (a b : α), (a ≠ b) = ¬ (a = b)) ∧ (∀ a b : Int, ¬ (a < b) ↔ b ≤ a) ∧ (∀ a b : Int, ¬ (a ≤ b) ↔ b < a) ∧ (∀ (p : Prop) [Decidable p], ¬ ¬ p ↔ p) ∧
    (∀ (α : Type) (f : α → Bool) (a : α) (l : List α), (a :: l).any f = (f a || l.any f)) ∧ (∀ (α : Type) (f : α → Bool), ([] : List α).any f = false) ∧ (∀ b : Bool, (b || false) = b) ∧
    (∀ a b : Bool, ((a || b) = true) = (a = true ∨ b = true)) ∧ (∀ a b : Bool, ((a || b) = false) = (a = false ∧ b = false)) :=
  ⟨fun _ => decide_eq_true_eq, fun _ => decide_eq_false_iff_not, fun b => (by cases b <;> simp), fun b => (by cases b <;> simp), rfl, rfl, fun _ _ _ => rfl, fun _ _ => Int.not_lt, fun _ _ => Int.not_le, fun _ => Decidable.not_not,
    fun _ _ _ _ => rfl, fun _ _ => rfl, fun b => (by cases b <;> rfl), fun a b => (by cases a <;> cases b <;> simp), fun a b => (by cases a <;> cases b <;> simp)⟩

/-- What is written out, and the machine around, as it was. -/
def SameIO (w0 w : World) : Prop := w.os = w0.os ∧ w.output = w0.output
theorem SameIO.trans {a b c : World} (h : SameIO a b) (k : SameIO b c) : SameIO a c := ⟨k.1.trans h.1, k.2.trans h.2⟩

structure Good (w0 : World) (M : List Nat) (H : Heap) (w : World) : Prop where
  size : w0.heap.size ≤ w.heap.size
  base : ∀ b, b < w0.heap.size → b ∉ M → w.heap[b]? = w0.heap[b]?
  own : ∀ p ∈ H, w.heap[p.1]? = some p.2
  nd : (H.map Prod.fst).Nodup
  out : ∀ p ∈ H, p.1 < w0.heap.size → p.1 ∈ M
  io : SameIO w0 w

theorem lt_of_some {α : Type} {xs : Array α} {i : Nat} {x : α} (h : xs[i]? = some x) : i < xs.size := by
  rcases Nat.lt_or_ge i xs.size with h' | h'
  · exact h'
  · simp [Array.getElem?_eq_none h'] at h

theorem Good.start (w : World) : Good w [] [] w := ⟨Nat.le_refl _, fun _ _ _ => rfl, by simp, by simp, by simp, rfl, rfl⟩

theorem Good.startWith {w : World} {H : Heap} (h : ∀ p ∈ H, w.heap[p.1]? = some p.2) (hn : (H.map Prod.fst).Nodup) : Good w (H.map Prod.fst) H w :=
  ⟨Nat.le_refl _, fun _ _ _ => rfl, h, hn, fun p hp _ => List.mem_map_of_mem hp, rfl, rfl⟩

theorem Good.lt {w0 w : World} {M : List Nat} {H : Heap} (h : Good w0 M H w) {p : Nat × Obj} (hp : p ∈ H) : p.1 < w.heap.size :=
  lt_of_some (h.own p hp)

theorem Good.drew {w0 w : World} {M : List Nat} {H : Heap} (h : Good w0 M H w) (n : Nat) : Good w0 M H { w with drawn := n } :=
  ⟨h.size, h.base, h.own, h.nd, h.out, h.io⟩

theorem Good.alloc {w0 w : World} {M : List Nat} {H : Heap} (h : Good w0 M H w) (o : Obj) : Good w0 M ((w.heap.size, o) :: H) (w.alloc o) where
  size := by have := h.size; simp; omega
  base := fun b hb hM => by
    have := h.size
    rw [← h.base b hb hM]
    simp only [World.alloc]
    rw [Array.getElem?_push, if_neg (by omega)]
  own := fun p hp => by
    simp only [List.mem_cons] at hp
    simp only [World.alloc]
    rcases hp with rfl | hp
    · simp
    · have := h.lt hp
      rw [Array.getElem?_push, if_neg (by omega)]; exact h.own p hp
  nd := by
    simp only [List.map_cons, List.nodup_cons]
    refine ⟨fun hm => ?_, h.nd⟩
    obtain ⟨p, hp, e⟩ := List.mem_map.1 hm
    have := h.lt hp
    omega
  out := fun p hp hlt => by
    simp only [List.mem_cons] at hp
    rcases hp with rfl | hp
    · have := h.size; simp at hlt; omega
    · exact h.out p hp hlt
  io := h.io

/-- One owned block's content becomes another. -/
inductive SetAt : Heap → Nat → Obj → Obj → Heap → Prop
  | head {b : Nat} {o o' : Obj} {R : Heap} : SetAt ((b, o) :: R) b o o' ((b, o') :: R)
  | tail {x : Nat × Obj} {b : Nat} {o o' : Obj} {R R' : Heap} (h : SetAt R b o o' R') : SetAt (x :: R) b o o' (x :: R')

theorem SetAt.mem {H H' : Heap} {b : Nat} {o o' : Obj} (h : SetAt H b o o' H') : (b, o) ∈ H := by
  induction h with
  | head => exact .head _
  | tail _ ih => exact .tail _ ih

theorem SetAt.keys {H H' : Heap} {b : Nat} {o o' : Obj} (h : SetAt H b o o' H') : H'.map Prod.fst = H.map Prod.fst := by
  induction h with
  | head => rfl
  | tail _ ih => simp [ih]

theorem SetAt.mem' {H H' : Heap} {b : Nat} {o o' : Obj} (h : SetAt H b o o' H') (hn : (H.map Prod.fst).Nodup) : ∀ p ∈ H', p = (b, o') ∨ (p ∈ H ∧ p.1 ≠ b) := by
  induction h with
  | head =>
    rename_i b' o1 o1' R
    intro p hp
    simp only [List.map_cons, List.nodup_cons] at hn
    rcases List.mem_cons.1 hp with rfl | hp
    · exact .inl rfl
    · exact .inr ⟨.tail _ hp, fun e => hn.1 (e ▸ List.mem_map_of_mem hp)⟩
  | tail hh ih =>
    rename_i x b' o1 o1' R R'
    intro p hp
    simp only [List.map_cons, List.nodup_cons] at hn
    rcases List.mem_cons.1 hp with rfl | hp
    · refine .inr ⟨.head _, fun e => hn.1 (e ▸ ?_)⟩
      exact List.mem_map_of_mem (f := Prod.fst) hh.mem
    · rcases ih hn.2 p hp with h | h
      · exact .inl h
      · exact .inr ⟨.tail _ h.1, h.2⟩

theorem Good.set {w0 w : World} {M : List Nat} {H H' : Heap} {b : Nat} {o o' : Obj} (h : Good w0 M H w) (hs : SetAt H b o o' H') {w' : World}
    (hw : w'.heap = w.heap.setIfInBounds b o') (hio : SameIO w w') : Good w0 M H' w' where
  io := h.io.trans hio
  size := by rw [hw]; simpa using h.size
  base := fun c hc hM => by
    rw [← h.base c hc hM, hw, Array.getElem?_setIfInBounds]
    have hne : b ≠ c := fun e => hM (e ▸ h.out _ hs.mem (e ▸ hc))
    rw [if_neg hne]
  own := fun p hp => by
    rw [hw, Array.getElem?_setIfInBounds]
    rcases hs.mem' h.nd p hp with rfl | ⟨hp', hne⟩
    · have := h.lt hs.mem; simp [this]
    · rw [if_neg (fun e => hne e.symm)]; exact h.own p hp'
  nd := by rw [hs.keys]; exact h.nd
  out := fun p hp hlt => by
    rcases hs.mem' h.nd p hp with rfl | ⟨hp', _⟩
    · exact (h.out (b, o) hs.mem hlt : b ∈ M)
    · exact h.out p hp' hlt

/-- Fewer blocks are owned. -/
theorem Good.sub {w0 w : World} {M : List Nat} {H H' : Heap} (h : Good w0 M H w) (hs : H'.Sublist H) : Good w0 M H' w :=
  ⟨h.size, h.base, fun p hp => h.own p (hs.subset hp), (hs.map Prod.fst).nodup h.nd, fun p hp => h.out p (hs.subset hp), h.io⟩

/-- A step that changed no block that lay (but may have laid new ones). -/
structure Ext (w w' : World) : Prop where
  size : w.heap.size ≤ w'.heap.size
  same : ∀ b, b < w.heap.size → w'.heap[b]? = w.heap[b]?
  io : SameIO w w'

theorem Ext.refl (w : World) : Ext w w := ⟨Nat.le_refl _, fun _ _ => rfl, rfl, rfl⟩
theorem Ext.trans {w w' w'' : World} (h : Ext w w') (h' : Ext w' w'') : Ext w w'' :=
  ⟨Nat.le_trans h.size h'.size, fun b hb => (h'.same b (Nat.lt_of_lt_of_le hb h.size)).trans (h.same b hb), h.io.trans h'.io⟩
theorem Ext.drew (w : World) (n : Nat) : Ext w { w with drawn := n } := ⟨Nat.le_refl _, fun _ _ => rfl, rfl, rfl⟩
theorem Ext.heap {w w' : World} (h : Ext w w') {b : Nat} {o : Obj} (hb : w.heap[b]? = some o) : w'.heap[b]? = some o :=
  (h.same b (lt_of_some hb)).trans hb

theorem Good.ext {w0 w w' : World} {M : List Nat} {H : Heap} (h : Good w0 M H w) (he : Ext w w') : Good w0 M H w' where
  size := Nat.le_trans h.size he.size
  base := fun b hb hM => (he.same b (Nat.lt_of_lt_of_le hb h.size)).trans (h.base b hb hM)
  own := fun p hp => (he.same _ (h.lt hp)).trans (h.own p hp)
  nd := h.nd
  out := h.out
  io := h.io.trans he.io

theorem Good.toExt {w0 w : World} {H : Heap} (h : Good w0 [] H w) : Ext w0 w := ⟨h.size, fun b hb => h.base b hb (by simp), h.io⟩

/-- Back from a callee that owned Hc (some of ours among them): what it left, and the rest of ours. -/
theorem Good.back {w0 w w' : World} {M Mc : List Nat} {H Hc H' : Heap} (h : Good w0 M H w) (hc : Good w Mc Hc w')
    (hM : ∀ b ∈ Mc, ∃ o, (b, o) ∈ H)
    (hs : ∀ p ∈ H', p ∈ Hc ∨ (p ∈ H ∧ p.1 ∉ Mc)) (hn : (H'.map Prod.fst).Nodup) : Good w0 M H' w' where
  io := h.io.trans hc.io
  size := Nat.le_trans h.size hc.size
  base := fun b hb hMb => by
    rw [hc.base b (Nat.lt_of_lt_of_le hb h.size) (fun hm => by obtain ⟨o, ho⟩ := hM b hm; exact hMb (h.out _ ho hb))]
    exact h.base b hb hMb
  own := fun p hp => by
    rcases hs p hp with hp' | ⟨hp', hn'⟩
    · exact hc.own p hp'
    · rw [hc.base p.1 (h.lt hp') hn']; exact h.own p hp'
  nd := hn
  out := fun p hp hlt => by
    rcases hs p hp with hp' | ⟨hp', _⟩
    · obtain ⟨o, ho⟩ := hM p.1 (hc.out p hp' (Nat.lt_of_lt_of_le hlt h.size))
      exact (h.out (p.1, o) ho hlt : p.1 ∈ M)
    · exact h.out p hp' hlt

/-! ### the frame -/

abbrev PEnv := List (Nat × Value)

def PEnv.get : PEnv → Nat → Option Value
  | [], _ => none
  | (k, v) :: r, t => bif Nat.beq k t then some v else PEnv.get r t

def PEnv.ev (ρ : PEnv) : Operand → Option Value
  | .tmp t => ρ.get t
  | .const v => some v
  | .global g => some (.pointer (some ⟨g, 0, none⟩))
  | .func f => some (.func (.func f) #[] #[])

def PEnv.put (ρ : PEnv) (d : Option Tmp) (v : Value) : PEnv :=
  match d with
  | some d => (d, v) :: ρ
  | none => ρ

/-- What is known of a frame. -/
structure Agr (n : Nat) (ρ : PEnv) (ds : List Deferred) (a : Act) : Prop where
  at_ : ∀ t v, ρ.get t = some v → a.tmps[t]? = some v
  size : a.tmps.size = n
  defers : a.defers = ds

theorem Agr.ev {n : Nat} {ρ : PEnv} {ds : List Deferred} {a : Act} (h : Agr n ρ ds a) {x : Operand} {v : Value} (hx : ρ.ev x = some v) : a.eval x = v := by
  cases x with
  | tmp t =>
    have := h.at_ t v hx
    simp [Act.eval, Array.getD_eq_getD_getElem?, this]
  | const c => simpa [PEnv.ev, Act.eval] using hx
  | global g => simpa [PEnv.ev, Act.eval] using hx
  | func f => simpa [PEnv.ev, Act.eval] using hx

theorem Agr.put {n : Nat} {ρ : PEnv} {ds : List Deferred} {a : Act} (h : Agr n ρ ds a) {d : Option Tmp} (hd : ∀ t, d = some t → t < n) (v : Value) :
    Agr n (ρ.put d v) ds (a.put d v) := by
  cases d with
  | none => exact h
  | some d =>
    refine ⟨fun t u ht => ?_, by simpa [Act.put] using h.size, by simpa [Act.put] using h.defers⟩
    simp only [PEnv.put, PEnv.get] at ht
    simp only [Act.put]
    rw [Array.getElem?_setIfInBounds]
    have hlt : d < a.tmps.size := by rw [h.size]; exact hd d rfl
    cases hb : Nat.beq d t with
    | true =>
      have e : d = t := Nat.eq_of_beq_eq_true hb
      subst e
      simp only [hb, cond_true, Option.some.injEq] at ht
      simp [hlt, ht]
    | false =>
      have e : d ≠ t := Nat.ne_of_beq_eq_false hb
      rw [if_neg e]
      simp only [hb, cond_false] at ht
      exact h.at_ t u ht

/-- The known part is cut to these slots. -/
inductive Keep (ρ : PEnv) : List Nat → PEnv → Prop
  | nil : Keep ρ [] []
  | cons {k : Nat} {ks : List Nat} {v : Value} {ρ' : PEnv} (h : ρ.get k = some v) (r : Keep ρ ks ρ') : Keep ρ (k :: ks) ((k, v) :: ρ')

def Sub (ρ' ρ : PEnv) : Prop := ∀ t v, ρ'.get t = some v → ρ.get t = some v

theorem Sub.nil (ρ : PEnv) : Sub [] ρ := fun _ _ h => by simp [PEnv.get] at h
theorem Sub.cons {k : Nat} {v : Value} {ρ' ρ : PEnv} (h : ρ.get k = some v) (r : Sub ρ' ρ) : Sub ((k, v) :: ρ') ρ := fun t u ht => by
  simp only [PEnv.get] at ht
  cases hb : Nat.beq k t with
  | true => have e := Nat.eq_of_beq_eq_true hb; subst e; simp only [hb, cond_true, Option.some.injEq] at ht; rw [h, ht]
  | false => simp only [hb, cond_false] at ht; exact r t u ht
theorem Keep.sub {ρ ρ' : PEnv} {ks : List Nat} (h : Keep ρ ks ρ') : Sub ρ' ρ := by
  induction h with
  | nil => exact .nil _
  | cons h _ ih => exact .cons h ih
theorem sub_app {a b ρ : PEnv} (ha : Sub a ρ) (hb : Sub b ρ) : Sub (a ++ b) ρ := by
  intro t v h
  cases hg : a.get t with
  | some u =>
    have : (a ++ b).get t = some u := by
      clear ha h
      induction a with
      | nil => simp [PEnv.get] at hg
      | cons p a ih =>
        obtain ⟨k, x⟩ := p
        simp only [List.cons_append, PEnv.get] at hg ⊢
        cases hb : Nat.beq k t
        · rw [hb] at hg; exact ih hg
        · rw [hb] at hg; exact hg
    rw [this] at h
    rw [← h]; exact ha t u hg
  | none =>
    refine hb t v ?_
    have : (a ++ b).get t = b.get t := by
      clear ha h
      induction a with
      | nil => rfl
      | cons p a ih =>
        obtain ⟨k, x⟩ := p
        simp only [List.cons_append, PEnv.get] at hg ⊢
        cases hb : Nat.beq k t
        · rw [hb] at hg; exact ih hg
        · rw [hb] at hg; cases hg
    rw [← this]; exact h
theorem Agr.sub {n : Nat} {ρ ρ' : PEnv} {ds : List Deferred} {a : Act} (h : Agr n ρ ds a) (hs : Sub ρ' ρ) : Agr n ρ' ds a :=
  ⟨fun t v ht => h.at_ t v (hs t v ht), h.size, h.defers⟩

/-! ### the judgements -/

/-- The fence: any function, any depth; in a round of loop r, or in none. -/
abbrev FW (r : Option Nat) : Fence := { Fence.wide with round := r }

theorem FW.room (r : Option Nat) (k : Nat) : (FW r).room k := fun _ h => by simp [FW, Fence.wide] at h
theorem FW.fn (r : Option Nat) (f : FuncId) : (FW r).fn f := trivial

structure Cx where
  P : Program
  r : Option Nat
  n : Nat
  w0 : World
  M : List Nat

abbrev Post := Exit → PEnv → List Deferred → Heap → Prop

def Lift (X : Cx) (Q : Post) : Exit → Act → World → Prop := fun e a w => ∃ ρ ds H, Agr X.n ρ ds a ∧ Good X.w0 X.M H w ∧ Q e ρ ds H

def V (X : Cx) (c : Code) (ρ : PEnv) (ds : List Deferred) (H : Heap) (Q : Post) : Prop :=
  ∀ a w, Agr X.n ρ ds a → Good X.w0 X.M H w → c.wpIn (FW X.r) 0 X.P (Lift X Q) a w

def Then (k : PEnv → List Deferred → Heap → Prop) (Q : Post) : Post
  | .normal, ρ, ds, H => k ρ ds H
  | e, ρ, ds, H => Q e ρ ds H

def InBlock (id : Nat) (Q : Post) : Post
  | .exit id', ρ, ds, H => bif Nat.beq id' id then Q .normal ρ ds H else Q (.exit id') ρ ds H
  | e, ρ, ds, H => Q e ρ ds H

section
variable {X : Cx} {ρ : PEnv} {ds : List Deferred} {H : Heap} {Q : Post}

theorem V.mono {c : Code} {Q' : Post} (h : V X c ρ ds H Q) (hq : ∀ e ρ ds H, Q e ρ ds H → Q' e ρ ds H) : V X c ρ ds H Q' :=
  fun a w ha hg => wpIn_mono (h a w ha hg) fun _ _ _ ⟨ρ', ds', H', h1, h2, h3⟩ => ⟨ρ', ds', H', h1, h2, hq _ _ _ _ h3⟩

theorem V_seq {x y : Code} (h : V X x ρ ds H (Then (fun ρ ds H => V X y ρ ds H Q) Q)) : V X (.seq x y) ρ ds H Q := by
  intro a w ha hg
  refine wpIn_seq (wpIn_mono (h a w ha hg) ?_)
  rintro e a' w' ⟨ρ', ds', H', h1, h2, h3⟩
  cases e <;> first | exact h3 a' w' h1 h2 | exact ⟨ρ', ds', H', h1, h2, h3⟩

theorem V_skip (h : Q .normal ρ ds H) : V X .skip ρ ds H Q := fun _ _ ha hg => wpIn_skip ⟨ρ, ds, H, ha, hg, h⟩
theorem V_label {l : Nat} (h : Q .normal ρ ds H) : V X (.label l) ρ ds H Q := fun _ _ ha hg => wpIn_label ⟨ρ, ds, H, ha, hg, h⟩
theorem V_exit {id : Nat} (h : Q (.exit id) ρ ds H) : V X (.exit id) ρ ds H Q := fun _ _ ha hg => wpIn_exit ⟨ρ, ds, H, ha, hg, h⟩
theorem V_ret (h : Q .ret ρ ds H) : V X .ret ρ ds H Q := fun _ _ ha hg => wpIn_ret ⟨ρ, ds, H, ha, hg, h⟩

theorem V_cond {c : Operand} {x y : Code} {t : Bool} (hc : ρ.ev c = some (.bool t)) (hx : t = true → V X x ρ ds H Q) (hy : t = false → V X y ρ ds H Q) :
    V X (.cond c x y) ρ ds H Q := fun a w ha hg => wpIn_cond_split (ha.ev hc) (fun h => hx h a w ha hg) (fun h => hy h a w ha hg)

theorem V_cond_t {c : Operand} {x y : Code} {t : Bool} (hc : ρ.ev c = some (.bool t)) (ht : t = true) (hx : V X x ρ ds H Q) : V X (.cond c x y) ρ ds H Q :=
  V_cond hc (fun _ => hx) (fun h => by rw [ht] at h; cases h)
theorem V_cond_f {c : Operand} {x y : Code} {t : Bool} (hc : ρ.ev c = some (.bool t)) (ht : t = false) (hy : V X y ρ ds H Q) : V X (.cond c x y) ρ ds H Q :=
  V_cond hc (fun h => by rw [ht] at h; cases h) (fun _ => hy)

theorem V_block {id : Nat} {c : Code} (h : V X c ρ ds H (InBlock id Q)) : V X (.block id c) ρ ds H Q := by
  intro a w ha hg
  refine wpIn_block (wpIn_mono (h a w ha hg) ?_)
  rintro e a' w' ⟨ρ', ds', H', h1, h2, h3⟩
  cases e with
  | exit id' =>
    simp only [Exit.inBlock]
    by_cases he : id' = id
    · rw [if_pos he]
      have hb : Nat.beq id' id = true := by rw [he]; exact Nat.beq_refl id
      simp only [InBlock, hb, cond_true] at h3
      exact ⟨ρ', ds', H', h1, h2, h3⟩
    · rw [if_neg he]
      have hb : Nat.beq id' id = false := by
        cases hh : Nat.beq id' id with
        | false => rfl
        | true => exact absurd (Nat.eq_of_beq_eq_true hh) he
      simp only [InBlock, hb, cond_false] at h3
      exact ⟨ρ', ds', H', h1, h2, h3⟩
  | _ => exact ⟨ρ', ds', H', h1, h2, h3⟩

/-- What is known is cut down. -/
theorem V_sub {c : Code} {ρ' : PEnv} {H' : Heap} (hs : Sub ρ' ρ) (hh : H'.Sublist H) (h : V X c ρ' ds H' Q) : V X c ρ ds H Q :=
  fun a w ha hg => h a w (ha.sub hs) (hg.sub hh)

theorem then_n {k : PEnv → List Deferred → Heap → Prop} (h : k ρ ds H) : Then k Q .normal ρ ds H := h
theorem then_e {k : PEnv → List Deferred → Heap → Prop} {i : Nat} (h : Q (.exit i) ρ ds H) : Then k Q (.exit i) ρ ds H := h
theorem then_r {k : PEnv → List Deferred → Heap → Prop} (h : Q .ret ρ ds H) : Then k Q .ret ρ ds H := h
theorem blk_n {i : Nat} (h : Q .normal ρ ds H) : InBlock i Q .normal ρ ds H := h
theorem blk_r {i : Nat} (h : Q .ret ρ ds H) : InBlock i Q .ret ρ ds H := h
theorem blk_e {i j : Nat} (hb : Nat.beq j i = true) (h : Q .normal ρ ds H) : InBlock i Q (.exit j) ρ ds H := by simp only [InBlock, hb, cond_true]; exact h
theorem blk_o {i j : Nat} (hb : Nat.beq j i = false) (h : Q (.exit j) ρ ds H) : InBlock i Q (.exit j) ρ ds H := by simp only [InBlock, hb, cond_false]; exact h

/-- A loop: γ runs over what the rounds' heads look like. -/
theorem V_loop {c : Code} {γ : Type} (ρI : γ → PEnv) (HI : γ → Heap) (inv : γ → Prop) (μ : γ → Nat) (g0 : γ) (hs : Sub (ρI g0) ρ) (hh : (HI g0).Sublist H) (h0 : inv g0)
    (round : ∀ g, inv g → V X c (ρI g) ds (HI g) (Then (fun ρ' ds' H' => ∃ g', inv g' ∧ μ g' < μ g ∧ Sub (ρI g') ρ' ∧ (HI g').Sublist H' ∧ ds' = ds) Q)) :
    V X (.loop c) ρ ds H Q := by
  intro a w ha hg
  have key : ∀ n g a w, μ g = n → inv g → Agr X.n (ρI g) ds a → Good X.w0 X.M (HI g) w →
      ∀ (b : Frame) (k : List Item) (cs : List Frame), b.roundOf = X.r →
        ∃ e a' w', Lift X Q e a' w' ∧ ArrivesIn (Machine.fenced X.P (FW X.r)) X.P (lone (b.atR a (.code c :: .inLoop c :: k)) cs w) b k cs e a' w' := by
    intro n
    induction n using Nat.strongRecOn with
    | _ n ih =>
      intro g a w hn hI ha hg b k cs hro
      obtain ⟨e, a₁, w₁, hq, harr⟩ := round g hI a w ha hg b (.inLoop c :: k) cs hro trivial (FW.room _ _)
      obtain ⟨ρ', ds', H', h1, h2, h3⟩ := hq
      cases e with
      | normal =>
        obtain ⟨g', hi', hlt, hsub, hhs, hds⟩ := h3
        have h1' := h1.sub hsub
        rw [hds] at h1'
        obtain ⟨e₂, a₂, w₂, hq₂, harr₂⟩ := ih (μ g') (hn ▸ hlt) g' a₁ w₁ rfl hi' h1' (h2.sub hhs) b k cs hro
        exact ⟨e₂, a₂, w₂, hq₂, .of_steps (StepsIn.trans harr (.one (fenced_calm (n := 0) (fr := b.atR a₁ (.inLoop c :: k)) trivial (FW.room _ _) rfl) stepR_inLoop)) harr₂⟩
      | exit id => exact ⟨_, a₁, w₁, ⟨ρ', ds', H', h1, h2, h3⟩, .pass (x := .inLoop c) rfl (fun _ _ => .inl (by simp)) harr⟩
      | goto l => exact ⟨_, a₁, w₁, ⟨ρ', ds', H', h1, h2, h3⟩, .pass (x := .inLoop c) rfl (fun _ _ => .inl (by simp)) harr⟩
      | ret => exact ⟨_, a₁, w₁, ⟨ρ', ds', H', h1, h2, h3⟩, .pass (x := .inLoop c) rfl (fun _ _ => .inl (by simp)) harr⟩
      | panic ch => exact ⟨_, a₁, w₁, ⟨ρ', ds', H', h1, h2, h3⟩, .pass (x := .inLoop c) rfl (fun _ _ => .inl (by simp)) harr⟩
      | outgrown => exact ⟨_, a₁, w₁, ⟨ρ', ds', H', h1, h2, h3⟩, .pass (x := .inLoop c) rfl (fun _ _ => .inl (by simp)) harr⟩
  intro b k cs hro hb hr
  obtain ⟨e, a', w', hq, harr⟩ := key _ g0 a w rfl h0 (ha.sub hs) (hg.sub hh) b k cs hro
  exact ⟨e, a', w', hq, .of_steps (.one (fenced_calm (n := 0) (fr := b.atR a (.code (.loop c) :: k)) hb hr rfl) stepR_loop) harr⟩

/-- A loop that leaves the owned blocks as they are; some slots are fixed. -/
theorem V_loop0 {c : Code} {γ : Type} {ks : List Nat} {ρf : PEnv} (hk : Keep ρ ks ρf) (ρv : γ → PEnv) (inv : γ → Prop) (μ : γ → Nat) (g0 : γ) (hs : Sub (ρv g0) ρ) (h0 : inv g0)
    (round : ∀ g, inv g → V X c (ρv g ++ ρf) ds H (Then (fun ρ' ds' H' => ∃ g', inv g' ∧ μ g' < μ g ∧ Sub (ρv g' ++ ρf) ρ' ∧ H.Sublist H' ∧ ds' = ds) Q)) :
    V X (.loop c) ρ ds H Q :=
  V_loop (fun g => ρv g ++ ρf) (fun _ => H) inv μ g0 (sub_app hs hk.sub) (List.Sublist.refl _) h0 round

/-- The same where owned blocks turn, too. -/
theorem V_loop1 {c : Code} {γ : Type} {ks : List Nat} {ρf : PEnv} (hk : Keep ρ ks ρf) (ρv : γ → PEnv) (HI : γ → Heap) (inv : γ → Prop) (μ : γ → Nat) (g0 : γ) (hs : Sub (ρv g0) ρ) (hh : (HI g0).Sublist H) (h0 : inv g0)
    (round : ∀ g, inv g → V X c (ρv g ++ ρf) ds (HI g) (Then (fun ρ' ds' H' => ∃ g', inv g' ∧ μ g' < μ g ∧ Sub (ρv g' ++ ρf) ρ' ∧ (HI g').Sublist H' ∧ ds' = ds) Q)) :
    V X (.loop c) ρ ds H Q :=
  V_loop (fun g => ρv g ++ ρf) HI inv μ g0 (sub_app hs hk.sub) hh h0 round
end

end Go.Vc

/- Regions: in the order of the text, and in whatever order is drawn. -/
set_option linter.all false
namespace Go.Vc

/-! ### regions in the order of the text -/

def wl (P : Program) (r : Option Nat) (ops : Array Oper) (Q : Exit → Act → World → Prop) : List Oper → Act → World → Prop
  | [], a, w => Q .normal a w
  | o :: l, a, w =>
    if Region.wanted o (yielded ops a.tmps) then o.uponIn (FW r) 0 P a (wl P r ops Q l) Q ((o.semAt r a.eval).run P w)
    else wl P r ops Q l (a.put o.dst undef) w

theorem uponIn_mono {F : Fence} {n : Nat} {P : Program} {o : Oper} {a : Act} {K K' : Act → World → Prop} {Q : Exit → Act → World → Prop} {res : Result Next}
    (h : ∀ a w, K a w → K' a w) (hh : o.uponIn F n P a K Q res) : o.uponIn F n P a K' Q res := by
  cases res with
  | ok x w' =>
    cases x <;> simp only [Oper.uponIn] at hh ⊢ <;>
      first
        | exact h _ _ hh
        | exact ⟨hh.1, CallsIn.mono hh.2 (fun e w'' he => by cases e <;> first | exact h _ _ he | exact he)⟩
        | exact ⟨hh.1, RowsIn.mono hh.2 (fun _ _ he => h _ _ he)⟩
        | exact ⟨hh.1, RoundIn.mono hh.2 (fun e w'' he => by cases e <;> first | exact h _ _ he | exact he)⟩
  | halt x w' => cases x <;> simp only [Oper.uponIn] at hh ⊢ <;> exact hh

theorem wl_ops {P : Program} {r : Option Nat} {ops : Array Oper} {Q : Exit → Act → World → Prop} : ∀ (l : List Oper) (k : Nat), (∀ j, l[j]? = ops[k + j]?) → ∀ a w,
    wl P r ops Q l a w → wpOpsIn (FW r) 0 P ops Q (List.range' k l.length) a w := by
  intro l
  induction l with
  | nil => intro k _ a w h; exact h
  | cons o l ih =>
    intro k hk a w h
    have h0 : ops[k]? = some o := by have := hk 0; simpa using this.symm
    have hl : ∀ j, l[j]? = ops[k + 1 + j]? := fun j => by have := hk (j + 1); simp only [List.getElem?_cons_succ] at this; rw [this]; congr 1; omega
    simp only [List.length_cons, List.range'_succ, wpOpsIn, h0]
    simp only [wl] at h
    split at h
    · rename_i hw
      rw [if_pos hw]
      exact ⟨fun _ _ => trivial, uponIn_mono (ih (k + 1) hl) h⟩
    · rename_i hw
      rw [if_neg hw]
      exact ⟨fun _ _ => trivial, ih (k + 1) hl _ _ h⟩

def dstLt (n : Nat) (o : Oper) : Bool := match o.dst with
  | some d => Nat.blt d n
  | none => true

theorem dstLt_iff {n : Nat} {o : Oper} (h : dstLt n o = true) : ∀ t, o.dst = some t → t < n := by
  intro t ht
  simp only [dstLt, ht] at h
  exact Nat.le_of_ble_eq_true h

/-- The operations that are left of a region that is carried out in the order of its text. -/
def LL (X : Cx) (ops : Array Oper) (l : List Oper) (ρ : PEnv) (ds : List Deferred) (H : Heap) (Q : Post) : Prop :=
  l.all (dstLt X.n) = true → ∀ a w, Agr X.n ρ ds a → Good X.w0 X.M H w → wl X.P X.r ops (Lift X Q) l a w

/-- The first of them is carried out, whatever its guard. -/
def LX (X : Cx) (ops : Array Oper) (o : Oper) (l : List Oper) (ρ : PEnv) (ds : List Deferred) (H : Heap) (Q : Post) : Prop :=
  l.all (dstLt X.n) = true → dstLt X.n o = true → ∀ a w, Agr X.n ρ ds a → Good X.w0 X.M H w →
    o.uponIn (FW X.r) 0 X.P a (wl X.P X.r ops (Lift X Q) l) (Lift X Q) ((o.semAt X.r a.eval).run X.P w)

section
variable {X : Cx} {ρ : PEnv} {ds : List Deferred} {H : Heap} {Q : Post} {ops : Array Oper}

theorem V_region {id : Nat} {l : List Oper} (hf : l.all (dstLt X.n) = true) (h : LL X l.toArray l ρ ds H Q) : V X (.region id l.toArray false) ρ ds H Q := by
  intro a w ha hg
  refine wpIn_region ?_
  have := wl_ops (P := X.P) (r := X.r) (ops := l.toArray) (Q := Lift X Q) l 0 (fun j => by simp) a w (h hf a w ha hg)
  rw [List.range_eq_range']
  simpa using this

theorem L_nil (h : Q .normal ρ ds H) : LL X ops [] ρ ds H Q := fun _ _ _ ha hg => ⟨ρ, ds, H, ha, hg, h⟩

theorem L_end {ρ' : PEnv} {H' : Heap} (hs : Sub ρ' ρ) (hh : H'.Sublist H) (h : Q .normal ρ' ds H') : LL X ops [] ρ ds H Q :=
  fun _ _ _ ha hg => ⟨ρ', ds, H', ha.sub hs, hg.sub hh, h⟩

theorem L_keep {ρ' : PEnv} {ks : List Nat} (hs : Keep ρ ks ρ') (h : Q .normal ρ' ds H) : LL X ops [] ρ ds H Q :=
  fun _ _ _ ha hg => ⟨ρ', ds, H, ha.sub hs.sub, hg, h⟩

theorem L_then {ρ' : PEnv} {ks : List Nat} {k : PEnv → List Deferred → Heap → Prop} (hs : Keep ρ ks ρ') (h : k ρ' ds H) : LL X ops [] ρ ds H (Then k Q) :=
  fun _ _ _ ha hg => ⟨ρ', ds, H, ha.sub hs.sub, hg, h⟩

theorem L_go {o : Oper} {l : List Oper} (hg : o.guard = none) (h : LX X ops o l ρ ds H Q) : LL X ops (o :: l) ρ ds H Q := by
  intro hf a w ha hgd
  simp only [List.all_cons, Bool.and_eq_true] at hf
  have hw : Region.wanted o (yielded ops a.tmps) = true := by simp [Region.wanted, hg]
  simp only [wl, if_pos hw]
  exact h hf.2 hf.1 a w ha hgd

theorem yielded_of {n : Nat} {a : Act} (ha : Agr n ρ ds a) {j d : Nat} {b : Bool} (hj : (ops[j]?).bind (·.dst) = some d) (hv : ρ.get d = some (.bool b)) :
    yielded ops a.tmps j = some b := by
  simp [yielded, hj, ha.at_ d _ hv]

theorem L_yes {o : Oper} {l : List Oper} {j d : Nat} {want b : Bool} (hg : o.guard = some (j, want)) (hj : (ops[j]?).bind (·.dst) = some d) (hv : ρ.get d = some (.bool b)) (hb : b = want)
    (h : LX X ops o l ρ ds H Q) : LL X ops (o :: l) ρ ds H Q := by
  intro hf a w ha hgd
  simp only [List.all_cons, Bool.and_eq_true] at hf
  have hw : Region.wanted o (yielded ops a.tmps) = true := by simp [Region.wanted, hg, yielded_of ha hj hv, hb]
  simp only [wl, if_pos hw]
  exact h hf.2 hf.1 a w ha hgd

theorem L_no {o : Oper} {l : List Oper} {j d : Nat} {want b : Bool} (hg : o.guard = some (j, want)) (hj : (ops[j]?).bind (·.dst) = some d) (hv : ρ.get d = some (.bool b)) (hb : b = !want)
    (h : LL X ops l (ρ.put o.dst undef) ds H Q) : LL X ops (o :: l) ρ ds H Q := by
  intro hf a w ha hgd
  simp only [List.all_cons, Bool.and_eq_true] at hf
  have hw : Region.wanted o (yielded ops a.tmps) = false := by
    rw [Region.wanted, hg]; simp only [yielded_of ha hj hv, hb]; cases want <;> rfl
  simp only [wl, hw]
  exact h hf.2 _ w (ha.put (dstLt_iff hf.1) _) hgd

theorem yielded_und {n : Nat} {a : Act} (ha : Agr n ρ ds a) {j d : Nat} (hj : (ops[j]?).bind (·.dst) = some d) (hv : ρ.get d = some undef) :
    yielded ops a.tmps j = none := by
  simp [yielded, hj, ha.at_ d _ hv, undef]

theorem L_nou {o : Oper} {l : List Oper} {j d : Nat} {want : Bool} (hg : o.guard = some (j, want)) (hj : (ops[j]?).bind (·.dst) = some d) (hv : ρ.get d = some undef)
    (h : LL X ops l (ρ.put o.dst undef) ds H Q) : LL X ops (o :: l) ρ ds H Q := by
  intro hf a w ha hgd
  simp only [List.all_cons, Bool.and_eq_true] at hf
  have hw : Region.wanted o (yielded ops a.tmps) = false := by
    rw [Region.wanted, hg]; simp only [yielded_und ha hj hv]; rfl
  simp only [wl, hw]
  exact h hf.2 _ w (ha.put (dstLt_iff hf.1) _) hgd

theorem L_cases {l : List Oper} {d : Nat} {b : Bool} (hv : ρ.get d = some (.bool b)) (h1 : b = true → LL X ops l ρ ds H Q) (h2 : b = false → LL X ops l ρ ds H Q) : LL X ops l ρ ds H Q := by
  cases b
  · exact h2 rfl
  · exact h1 rfl

/-! ### what single operations do -/

def Evs (ρ : PEnv) (e : Operand → Value) : Prop := ∀ x v, ρ.ev x = some v → e x = v

theorem Agr.evs {n : Nat} {a : Act} (h : Agr n ρ ds a) : Evs ρ a.eval := fun _ _ hx => h.ev hx

/-- It only reads, and yields v, in whatever world fits. -/
structure RdA (X : Cx) (ρ : PEnv) (H : Heap) (o : Oper) (v : Value) : Prop where
  nd : ∀ c, o.op ≠ .defer c
  run : ∀ e w, Evs ρ e → Good X.w0 X.M H w → (execOp e o).run X.P w = .ok (.value v) w

/-- It reads nothing at all. -/
structure RdP (X : Cx) (ρ : PEnv) (o : Oper) (v : Value) : Prop where
  nd : ∀ c, o.op ≠ .defer c
  run : ∀ e w, Evs ρ e → (execOp e o).run X.P w = .ok (.value v) w

theorem RdP.rd {o : Oper} {v : Value} (h : RdP X ρ o v) : RdA X ρ H o v := ⟨h.nd, fun e w he _ => h.run e w he⟩

/-- It changes the world, and ends with a value and owned blocks of which R holds. -/
structure WrA (X : Cx) (ρ : PEnv) (H : Heap) (o : Oper) (R : Value → Heap → Prop) : Prop where
  nd : ∀ c, o.op ≠ .defer c
  run : ∀ (a : Act) w, Evs ρ a.eval → Good X.w0 X.M H w → o.uponIn (FW X.r) 0 X.P a (fun a' w' => ∃ v H', a' = a.put o.dst v ∧ Good X.w0 X.M H' w' ∧ R v H') (fun _ _ _ => False) ((execOp a.eval o).run X.P w)

theorem uponIn_noPanic {F : Fence} {n : Nat} {P : Program} {o : Oper} {a : Act} {K K' : Act → World → Prop} {Q : Exit → Act → World → Prop} {res : Result Next}
    (h : ∀ a w, K a w → K' a w) (hh : o.uponIn F n P a K (fun _ _ _ => False) res) : o.uponIn F n P a K' Q res := by
  cases res with
  | ok x w' =>
    cases x <;> simp only [Oper.uponIn] at hh ⊢ <;>
      first
        | exact h _ _ hh
        | exact ⟨hh.1, CallsIn.mono hh.2 (fun e w'' he => by cases e <;> first | exact h _ _ he | exact he.elim | exact (by obtain ⟨_, _, h⟩ := he; exact h.elim))⟩
        | exact ⟨hh.1, RowsIn.mono hh.2 (fun _ _ he => h _ _ he)⟩
        | exact ⟨hh.1, RoundIn.mono hh.2 (fun e w'' he => by cases e <;> first | exact h _ _ he | exact he.elim | exact (by obtain ⟨_, _, h⟩ := he; exact h.elim))⟩
  | halt x w' => cases x <;> simp only [Oper.uponIn] at hh ⊢ <;> exact hh.elim

theorem semAt_of {o : Oper} (h : ∀ c, o.op ≠ .defer c) (r : Option Nat) (e : Operand → Value) : o.semAt r e = execOp e o := Oper.semAt_eq r e o h

theorem rd_wr {o : Oper} {v : Value} (h : RdA X ρ H o v) : WrA X ρ H o fun u H' => u = v ∧ H' = H :=
  ⟨h.nd, fun a w he hg => by rw [h.run _ w he hg]; exact ⟨v, H, rfl, hg, rfl, rfl⟩⟩

theorem X_rd {o : Oper} {l : List Oper} {v : Value} (h : RdA X ρ H o v) (k : LL X ops l (ρ.put o.dst v) ds H Q) : LX X ops o l ρ ds H Q := by
  intro hf hd a w ha hg
  rw [semAt_of h.nd, h.run _ w ha.evs hg]
  exact k hf _ w (ha.put (dstLt_iff hd) v) hg

theorem X_p {o : Oper} {l : List Oper} {v : Value} (h : RdP X ρ o v) (k : LL X ops l (ρ.put o.dst v) ds H Q) : LX X ops o l ρ ds H Q := X_rd h.rd k

theorem X_wr {o : Oper} {l : List Oper} {R : Value → Heap → Prop} (h : WrA X ρ H o R) (k : ∀ v H', R v H' → LL X ops l (ρ.put o.dst v) ds H' Q) : LX X ops o l ρ ds H Q := by
  intro hf hd a w ha hg
  rw [semAt_of h.nd]
  refine uponIn_noPanic ?_ (h.run a w ha.evs hg)
  rintro a' w' ⟨v, H', rfl, hg', hR⟩
  exact k v H' hR hf _ w' (ha.put (dstLt_iff hd) v) hg'

end

/-! ### regions in whatever order is drawn -/

def directly (ops : Array Oper) (i j : Nat) : Bool := match ops[i]? with
  | none => false
  | some o => o.after.toList.any fun e => Region.binds .any e && Nat.beq e.on j

/-- o reads a slot that i writes only if it comes behind it. -/
def freeOf (ops : Array Oper) (i : Nat) (oi : Oper) : Bool :=
  (match oi.dst with | some d => !(oi.looksAt ops).contains d | none => true) && (List.range ops.size).all fun j => j == i || match ops[j]? with
    | none => true
    | some oj => match oi.dst with
      | none => true
      | some d => oj.dst != some d && (!(oj.looksAt ops).contains d || directly ops j i)

def apartAll (ops : Array Oper) (i : Nat) (oi : Oper) : Bool :=
  (List.range ops.size).all fun j => j == i || match ops[j]? with
    | none => true
    | some oj => match oi.dst with
      | none => true
      | some d => oj.dst != some d && (!(oj.looksAt ops).contains d || (directly ops j i || directly ops i j))

def memB (j : Nat) : List Nat → Bool
  | [] => false
  | k :: l => Nat.beq j k || memB j l

/-- A course: what is read (only), what writes (with what is read ahead of it and may come later). -/
inductive Plan
  | done
  | rd (i : Nat) (p : Plan)
  | wr (i : Nat) (ks : List Nat) (p : Plan)
  | wr2 (i : Nat) (ks : List Nat) (p : Plan) (j : Nat) (ls : List Nat) (q : Plan)
  | wr3 (i : Nat) (ks : List Nat) (p : Plan) (j : Nat) (ls : List Nat) (q : Plan) (k : Nat) (ms : List Nat) (s : Plan)

def kept (ops : Array Oper) (i : Nat) (J ks : List Nat) : Bool := J.all fun j => directly ops i j || memB j ks

def okWr (ops : Array Oper) (i : Nat) (J ks : List Nat) : Bool := (match ops[i]? with | some o => apartAll ops i o | none => false) && kept ops i J ks

def Plan.ok (ops : Array Oper) : Plan → List Nat → Array Bool → Bool
  | .done, _, L => (Region.ready .any ops L).isEmpty
  | .rd i p, J, L => (Region.ready .any ops L).contains i && (match ops[i]? with | some o => freeOf ops i o | none => false) && p.ok ops (i :: J) (L.setIfInBounds i true)
  | .wr i ks p, J, L => (Region.ready .any ops L) == [i] && okWr ops i J ks && p.ok ops J (L.setIfInBounds i true)
  | .wr2 i ks p j ls q, J, L => (Region.ready .any ops L) == [i, j] && okWr ops i J ks && okWr ops j J ls && p.ok ops J (L.setIfInBounds i true) && q.ok ops J (L.setIfInBounds j true)
  | .wr3 i ks p j ls q k ms s, J, L => (Region.ready .any ops L) == [i, j, k] && okWr ops i J ks && okWr ops j J ls && okWr ops k J ms && p.ok ops J (L.setIfInBounds i true) && q.ok ops J (L.setIfInBounds j true) && s.ok ops J (L.setIfInBounds k true)

def noSelect (ops : Array Oper) : Bool := ops.toList.all fun o => match o.op with
  | .select .. => false
  | .defer .. => false
  | _ => true

section sim
variable {P : Program} {r : Option Nat} {ops : Array Oper} {Q : Exit → Act → World → Prop}

/-- o, a mere reader, yields v here. -/
def rdv (P : Program) (ops : Array Oper) (o : Oper) (v : Value) (a : Act) (w : World) : Prop :=
  (Region.wanted o (yielded ops a.tmps) = true ∧ (execOp a.eval o).run P w = .ok (.value v) w) ∨
  (Region.wanted o (yielded ops a.tmps) = false ∧ v = undef)

theorem rdv.put {o : Oper} {v : Value} {a : Act} {w : World} (hs : ∀ cs b, o.op ≠ .select cs b) (dst : Option Tmp) (u : Value) (h : ∀ d, dst = some d → d ∉ o.looksAt ops) :
    rdv P ops o v (a.put dst u) w ↔ rdv P ops o v a w := by
  unfold rdv
  rw [execOp_put o hs a dst u h, wanted_put o a dst u h]

/-- The canonical course: readers as soon as they are ready; E: what may be read later than it is read here. -/
inductive Stg (P : Program) (r : Option Nat) (ops : Array Oper) (Q : Exit → Act → World → Prop) : List (Nat × Value) → Array Bool → Act → World → Prop
  | done {E : List (Nat × Value)} {L : Array Bool} {a : Act} {w : World} (h : Region.ready .any ops L = []) (hq : Q .normal a w) : Stg P r ops Q E L a w
  | read {E : List (Nat × Value)} {L : Array Bool} {a : Act} {w : World} {i : Nat} {o : Oper} {v : Value} (hi : i ∈ Region.ready .any ops L) (ho : ops[i]? = some o) (hf : freeOf ops i o = true)
      (hv : rdv P ops o v a w) (k : Stg P r ops Q ((i, v) :: E) (L.setIfInBounds i true) (a.put o.dst v) w) : Stg P r ops Q E L a w
  | pure {E : List (Nat × Value)} {L : Array Bool} {a : Act} {w : World} {i : Nat} {o : Oper} {v : Value} (hi : i ∈ Region.ready .any ops L) (ho : ops[i]? = some o) (hf : freeOf ops i o = true)
      (hv : ∀ w, rdv P ops o v a w) (k : Stg P r ops Q E (L.setIfInBounds i true) (a.put o.dst v) w) : Stg P r ops Q E L a w
  | write {E : List (Nat × Value)} {L : Array Bool} {a : Act} {w : World} (hne : Region.ready .any ops L ≠ []) (R : Nat → Act → World → Prop)
      (hx : ∀ i ∈ Region.ready .any ops L, ∃ o, ops[i]? = some o ∧ apartAll ops i o = true ∧
        ((Region.wanted o (yielded ops a.tmps) = true ∧ (∀ d w', (execOp a.eval o).run P w ≠ .ok (.defer d) w') ∧ o.uponIn (FW r) 0 P a (R i) (fun _ _ _ => False) ((execOp a.eval o).run P w)) ∨
         (Region.wanted o (yielded ops a.tmps) = false ∧ R i (a.put o.dst undef) w)))
      (E' : Nat → List (Nat × Value)) (hE : ∀ i ∈ Region.ready .any ops L, ∀ p ∈ E, directly ops i p.1 = false → p ∈ E' i)
      (hs : ∀ i ∈ Region.ready .any ops L, ∀ o, ops[i]? = some o → ∀ v w', R i (a.put o.dst v) w' → ∀ p ∈ E' i, ∀ op, ops[p.1]? = some op → rdv P ops op p.2 (a.put o.dst v) w')
      (k : ∀ i ∈ Region.ready .any ops L, ∀ o, ops[i]? = some o → ∀ v w', R i (a.put o.dst v) w' → Stg P r ops Q (E' i) (L.setIfInBounds i true) (a.put o.dst v) w') : Stg P r ops Q E L a w

def dstOf (ops : Array Oper) (i : Nat) : Option Tmp := (ops[i]?).bind (·.dst)

def puts (ops : Array Oper) : List (Nat × Value) → Act → Act
  | [], a => a
  | (i, v) :: l, a => puts ops l (a.put (dstOf ops i) v)

theorem puts_put {l : List (Nat × Value)} {d : Option Tmp} {v : Value} (h : ∀ p ∈ l, ∀ t, d = some t → dstOf ops p.1 ≠ some t) : ∀ a, puts ops l (a.put d v) = (puts ops l a).put d v := by
  induction l with
  | nil => intro a; rfl
  | cons p l ih =>
    intro a
    obtain ⟨i, u⟩ := p
    simp only [puts]
    rw [Act.put_comm a v u (h (i, u) (.head _))]
    exact ih (fun p hp => h p (.tail _ hp)) _

theorem puts_rdv {o : Oper} {v : Value} {w : World} (hs : ∀ cs b, o.op ≠ .select cs b) {l : List (Nat × Value)} (h : ∀ p ∈ l, ∀ d, dstOf ops p.1 = some d → d ∉ o.looksAt ops) :
    ∀ a, rdv P ops o v (puts ops l a) w ↔ rdv P ops o v a w := by
  induction l with
  | nil => intro a; exact Iff.rfl
  | cons p l ih =>
    intro a
    obtain ⟨i, u⟩ := p
    simp only [puts]
    rw [ih (fun p hp => h p (.tail _ hp))]
    exact rdv.put hs _ u (h (i, u) (.head _))

theorem puts_exec {o : Oper} (hs : ∀ cs b, o.op ≠ .select cs b) {l : List (Nat × Value)} (h : ∀ p ∈ l, ∀ d, dstOf ops p.1 = some d → d ∉ o.looksAt ops) :
    ∀ a, execOp (puts ops l a).eval o = execOp a.eval o ∧ Region.wanted o (yielded ops (puts ops l a).tmps) = Region.wanted o (yielded ops a.tmps) := by
  induction l with
  | nil => intro a; exact ⟨rfl, rfl⟩
  | cons p l ih =>
    intro a
    obtain ⟨i, u⟩ := p
    simp only [puts]
    have h1 := ih (fun p hp => h p (.tail _ hp)) (a.put (dstOf ops i) u)
    have h2 := h (i, u) (.head _)
    exact ⟨h1.1.trans (execOp_put o hs a _ u h2), h1.2.trans (wanted_put o a _ u h2)⟩

/-- What binds the canonical course to the true one. -/
structure Rel (P : Program) (ops : Array Oper) (E : List (Nat × Value)) (Lc La : Array Bool) (pend : List (Nat × Value)) (ac aa : Act) (w : World) : Prop where
  sc : Lc.size = ops.size
  sa : La.size = ops.size
  sub : ∀ i, La.getD i false = true → Lc.getD i false = true
  mem : ∀ i, Lc.getD i false = true → La.getD i false = true ∨ ∃ v, (i, v) ∈ pend
  pl : ∀ p ∈ pend, Lc.getD p.1 false = true ∧ La.getD p.1 false = false
  pf : ∀ p ∈ pend, ∃ o, ops[p.1]? = some o ∧ freeOf ops p.1 o = true ∧ rdv P ops o p.2 ac w ∧ (p ∈ E ∨ ∀ w, rdv P ops o p.2 ac w)
  dc : ∀ j o, Lc.getD j false = true → ops[j]? = some o → ∀ e ∈ o.after, Region.binds .any e = true → Lc.getD e.on false = true
  act : ac = puts ops pend aa
  nd : (pend.map Prod.fst).Nodup

theorem freeOf_spec {i : Nat} {oi : Oper} (h : freeOf ops i oi = true) {j : Nat} {oj : Oper} (hj : ops[j]? = some oj) (hne : j ≠ i) {d : Tmp} (hd : oi.dst = some d) :
    oj.dst ≠ some d ∧ (d ∈ oj.looksAt ops → directly ops j i = true) := by
  unfold freeOf at h
  rw [Bool.and_eq_true, List.all_eq_true] at h
  have := h.2 j (List.mem_range.2 (lt_of_some hj))
  simp only [hj, hd, Bool.or_eq_true, Bool.and_eq_true, beq_iff_eq, hne, false_or] at this
  refine ⟨by simpa using this.1, fun hm => ?_⟩
  rcases this.2 with h2 | h2
  · simp [List.contains_iff_mem, hm] at h2
  · exact h2

theorem freeOf_self {i : Nat} {oi : Oper} (h : freeOf ops i oi = true) {d : Tmp} (hd : oi.dst = some d) : d ∉ oi.looksAt ops := by
  unfold freeOf at h
  rw [Bool.and_eq_true] at h
  have := h.1
  simp only [hd] at this
  intro hm
  simp [List.contains_iff_mem, hm] at this

theorem apartAll_spec {i : Nat} {oi : Oper} (h : apartAll ops i oi = true) {j : Nat} {oj : Oper} (hj : ops[j]? = some oj) (hne : j ≠ i) {d : Tmp} (hd : oi.dst = some d) :
    oj.dst ≠ some d ∧ (d ∈ oj.looksAt ops → directly ops j i = true ∨ directly ops i j = true) := by
  unfold apartAll at h
  rw [List.all_eq_true] at h
  have := h j (List.mem_range.2 (lt_of_some hj))
  simp only [hj, hd, Bool.or_eq_true, Bool.and_eq_true, beq_iff_eq, hne, false_or] at this
  refine ⟨by simpa using this.1, fun hm => ?_⟩
  rcases this.2 with h2 | h2
  · simp [List.contains_iff_mem, hm] at h2
  · exact h2

theorem directly_spec {i j : Nat} (h : directly ops i j = true) : ∃ o, ops[i]? = some o ∧ ∃ e ∈ o.after, Region.binds .any e = true ∧ e.on = j := by
  unfold directly at h
  cases ho : ops[i]? with
  | none => simp [ho] at h
  | some o =>
    simp only [ho, List.any_eq_true] at h
    obtain ⟨e, he, h⟩ := h
    simp only [Bool.and_eq_true] at h
    exact ⟨o, rfl, e, Array.mem_toList_iff.1 he, h.1, Nat.eq_of_beq_eq_true h.2⟩


theorem getD_lt {L : Array Bool} {i : Nat} (h : L.getD i false = true) : i < L.size := by
  rcases Nat.lt_or_ge i L.size with h' | h'
  · exact h'
  · simp [Array.getElem?_eq_none h'] at h

theorem getD_same {L : Array Bool} {i : Nat} (h : i < L.size) (d e : Bool) : L.getD i d = L.getD i e := by simp [h]

theorem getD_set {L : Array Bool} {i j : Nat} (hi : i < L.size) : (L.setIfInBounds i true).getD j false = (decide (i = j) || L.getD j false) := by
  by_cases h : i = j
  · subst h; simp [hi]
  · rw [getD_set_ne false h]; simp [h]

def cnt (L : Array Bool) : Nat := L.toList.count false

theorem cnt_set {L : Array Bool} {i : Nat} (h : L.getD i true = false) : cnt (L.setIfInBounds i true) + 1 = cnt L := by
  have hlt : i < L.size := by
    rcases Nat.lt_or_ge i L.size with h' | h'
    · exact h'
    · simp [Array.getElem?_eq_none h'] at h
  have hv : L.toList[i]'(by simpa using hlt) = false := by simpa [hlt] using h
  unfold cnt
  have h0 : 0 < L.toList.count false := List.count_pos_iff.2 (by rw [← hv]; exact List.getElem_mem _)
  have h1 := List.count_set (a := true) (b := false) (l := L.toList) (i := i) (by simpa using hlt)
  rw [hv] at h1
  rw [Array.toList_setIfInBounds, h1]
  have e1 : (if (false == false) = true then 1 else 0) = 1 := rfl
  have e2 : (if (true == false) = true then 1 else 0) = 0 := rfl
  rw [e1, e2]
  omega

def backB (ops : Array Oper) : Bool := (List.range ops.size).all fun i => match ops[i]? with
  | none => true
  | some o => o.after.toList.all fun e => !Region.binds .any e || Nat.blt e.on i

theorem backB_spec (h : backB ops = true) {i : Nat} {o : Oper} (ho : ops[i]? = some o) {e : Edge} (he : e ∈ o.after) (hb : Region.binds .any e = true) : e.on < i := by
  unfold backB at h
  rw [List.all_eq_true] at h
  have := h i (List.mem_range.2 (lt_of_some ho))
  simp only [ho, List.all_eq_true] at this
  have := this e (Array.mem_toList_iff.2 he)
  simp only [hb, Bool.not_true, Bool.false_or] at this
  exact Nat.le_of_ble_eq_true this

theorem ready_all (h : backB ops = true) {L : Array Bool} (hs : L.size = ops.size) (hr : Region.ready .any ops L = []) : ∀ i, i < ops.size → L.getD i false = true := by
  intro i
  induction i using Nat.strongRecOn with
  | _ i ih =>
    intro hi
    cases hL : L.getD i false with
    | true => rfl
    | false =>
      exfalso
      have hm : i ∈ Region.ready .any ops L := by
        rw [mem_ready]
        refine ⟨by rw [getD_same (by omega) true false]; exact hL, ops[i], by simp [hi], fun e he hb => ?_⟩
        have hlt := backB_spec h (i := i) (o := ops[i]) (by simp [hi]) he hb
        exact ih e.on hlt (by omega)
      rw [hr] at hm
      cases hm

theorem puts_mid {l1 l2 : List (Nat × Value)} {x : Nat} {v : Value} (h : ∀ p ∈ l1, ∀ t, dstOf ops x = some t → dstOf ops p.1 ≠ some t) :
    ∀ a, puts ops (l1 ++ (x, v) :: l2) a = puts ops (l1 ++ l2) (a.put (dstOf ops x) v) := by
  induction l1 with
  | nil => intro a; rfl
  | cons p l ih =>
    intro a
    obtain ⟨i, u⟩ := p
    simp only [List.cons_append, puts]
    rw [ih (fun p hp => h p (.tail _ hp)), Act.put_comm a v u (h (i, u) (.head _))]

theorem noSelect_spec (h : noSelect ops = true) {i : Nat} {o : Oper} (ho : ops[i]? = some o) : (∀ cs b, o.op ≠ .select cs b) ∧ (∀ c, o.op ≠ .defer c) := by
  unfold noSelect at h
  rw [List.all_eq_true] at h
  have := h o (by rw [Array.mem_toList_iff]; exact Array.mem_of_getElem? ho)
  constructor
  · intro cs b e; simp [e] at this
  · intro c e; simp [e] at this

theorem pend_off {E pend : List (Nat × Value)} {Lc La : Array Bool} {ac aa : Act} {w : World} (hR : Rel P ops E Lc La pend ac aa w) {x : Nat} {o : Oper} (hx : x ∈ Region.ready .any ops La) (ho : ops[x]? = some o)
    (hxs : ∀ p ∈ pend, p.1 = x → ∀ d, o.dst = some d → d ∉ o.looksAt ops) :
    ∀ p ∈ pend, ∀ d, dstOf ops p.1 = some d → d ∉ o.looksAt ops := by
  intro p hp d hd hm
  obtain ⟨op, hop, hf, _, _⟩ := hR.pf p hp
  have hd' : op.dst = some d := by simpa [dstOf, hop] using hd
  by_cases e : x = p.1
  · have hoo : op = o := by rw [e] at ho; rw [hop] at ho; exact Option.some.inj ho
    exact hxs p hp e.symm d (hoo ▸ hd') hm
  · have h2 := (freeOf_spec hf ho e hd').2 hm
    obtain ⟨o', ho', ed, hed, hb, hon⟩ := directly_spec h2
    rw [ho] at ho'
    obtain rfl := Option.some.inj ho'
    rw [mem_ready] at hx
    obtain ⟨_, o2, ho2, hall⟩ := hx
    rw [ho] at ho2
    obtain rfl := Option.some.inj ho2
    have := hall ed hed hb
    rw [hon, (hR.pl p hp).2] at this
    cases this

theorem sim_pend {fuel : Nat} {E pend : List (Nat × Value)} {Lc La : Array Bool} {ac aa : Act} {w : World} (hns : noSelect ops = true)
    (IH : ∀ La aa pend, Rel P ops E Lc La pend ac aa w → cnt La ≤ fuel → wpAnyIn (FW r) 0 P .any ops Q fuel La aa w)
    (hR : Rel P ops E Lc La pend ac aa w) (hc : cnt La ≤ fuel + 1) {x : Nat} {v : Value} (hx : x ∈ Region.ready .any ops La) (hp : (x, v) ∈ pend) :
    wpOpIn (FW r) 0 P ops Q x (wpAnyIn (FW r) 0 P .any ops Q fuel (La.setIfInBounds x true)) aa w := by
  obtain ⟨o, ho, hf, hv, _⟩ := hR.pf _ hp
  obtain ⟨hsel, hdef⟩ := noSelect_spec hns ho
  have hoff := pend_off hR hx ho (fun _ _ _ d hd => freeOf_self hf hd)
  rw [hR.act] at hv
  rw [puts_rdv hsel hoff] at hv
  have hLx : La.getD x true = false := (mem_ready.1 hx).1
  have hlt : x < La.size := by rw [hR.sa]; exact lt_of_some ho
  have next : wpAnyIn (FW r) 0 P .any ops Q fuel (La.setIfInBounds x true) (aa.put o.dst v) w := by
    obtain ⟨l1, l2, hl⟩ := List.append_of_mem hp
    have hdx : dstOf ops x = o.dst := by simp [dstOf, ho]
    have hnd := hR.nd
    rw [hl] at hnd
    simp only [List.map_append, List.map_cons, List.nodup_append, List.nodup_cons] at hnd
    have hne : ∀ p ∈ l1 ++ l2, p.1 ≠ x := by
      intro p hp' e
      rcases List.mem_append.1 hp' with h | h
      · exact hnd.2.2 p.1 (List.mem_map_of_mem h) x (by simp) e
      · exact hnd.2.1.1 (e ▸ List.mem_map_of_mem h)
    have hsub : ∀ p ∈ l1 ++ l2, p ∈ pend := by
      intro p hp'
      rw [hl]
      rcases List.mem_append.1 hp' with h | h
      · exact List.mem_append_left _ h
      · exact List.mem_append_right _ (.tail _ h)
    refine IH _ _ (l1 ++ l2) ⟨hR.sc, by simpa using hR.sa, ?_, ?_, ?_, ?_, hR.dc, ?_, ?_⟩ (by have := cnt_set hLx; omega)
    · intro i hi
      rw [getD_set hlt] at hi
      simp only [Bool.or_eq_true, decide_eq_true_eq] at hi
      rcases hi with rfl | hi
      · exact (hR.pl _ hp).1
      · exact hR.sub i hi
    · intro i hi
      rw [getD_set hlt]
      by_cases e : x = i
      · exact .inl (by simp [e])
      · rcases hR.mem i hi with h | ⟨u, hu⟩
        · exact .inl (by simp [h])
        · refine .inr ⟨u, ?_⟩
          rw [hl] at hu
          rcases List.mem_append.1 hu with h | h
          · exact List.mem_append_left _ h
          · rcases List.mem_cons.1 h with h | h
            · injection h with h1 _; exact absurd h1.symm e
            · exact List.mem_append_right _ h
    · intro p hp'
      refine ⟨(hR.pl p (hsub p hp')).1, ?_⟩
      rw [getD_set hlt, (hR.pl p (hsub p hp')).2]
      simp [Ne.symm (hne p hp')]
    · exact fun p hp' => hR.pf p (hsub p hp')
    · rw [hR.act, hl, puts_mid (fun p hp' t ht => ?_), hdx]
      obtain ⟨op, hop, _⟩ := hR.pf p (hsub p (List.mem_append_left _ hp'))
      have := (freeOf_spec hf hop (hne p (List.mem_append_left _ hp')) (by simpa [dstOf, ho] using ht)).1
      simpa [dstOf, hop] using this
    · simp only [List.map_append, List.nodup_append]
      exact ⟨hnd.1, hnd.2.1.2, fun a ha b hb => hnd.2.2 a ha b (.tail _ hb)⟩
  unfold wpOpIn
  simp only [ho]
  rcases hv with ⟨hw, hrun⟩ | ⟨hw, rfl⟩
  · rw [if_pos hw]
    exact ⟨fun _ _ => trivial, by rw [semAt_of hdef, hrun]; exact next⟩
  · rw [hw]
    exact ⟨fun _ _ => trivial, next⟩

theorem uponIn_act {F : Fence} {n : Nat} {o : Oper} {a a' : Act} {R K : Act → World → Prop} {res : Result Next}
    (h : ∀ (v : Value) w, R (a.put o.dst v) w → K (a'.put o.dst v) w) (hds : ∀ d w, res ≠ .ok (.defer d) w)
    (hh : o.uponIn F n P a R (fun _ _ _ => False) res) : o.uponIn F n P a' K Q res := by
  cases res with
  | ok x w' =>
    cases x <;> simp only [Oper.uponIn] at hh ⊢
    case value v => exact h v _ hh
    case skip => exact h _ _ hh
    case defer d => exact absurd rfl (hds d w')
    case enter f args =>
      refine ⟨hh.1, CallsIn.mono hh.2 (fun e w'' he => ?_)⟩
      cases e with
      | returned v => exact h v _ he
      | panicked c => exact he.elim
      | outgrown => obtain ⟨_, _, h⟩ := he; exact h.elim
    case row => exact ⟨hh.1, RowsIn.mono hh.2 (fun v w'' he => h v _ he)⟩
    case round =>
      refine ⟨hh.1, RoundIn.mono hh.2 (fun e w'' he => ?_)⟩
      cases e with
      | returned v => exact h v _ he
      | panicked c => exact he.elim
      | outgrown => obtain ⟨_, _, h⟩ := he; exact h.elim
    all_goals exact hh.elim
  | halt x w' => cases x <;> simp only [Oper.uponIn] at hh ⊢ <;> exact hh.elim

theorem sim_step {fuel : Nat} (hns : noSelect ops = true)
    (IH : ∀ E Lc ac w, Stg P r ops Q E Lc ac w → ∀ La aa pend, Rel P ops E Lc La pend ac aa w → cnt La ≤ fuel → wpAnyIn (FW r) 0 P .any ops Q fuel La aa w)
    {E : List (Nat × Value)} {Lc : Array Bool} {ac : Act} {w : World} (hS : Stg P r ops Q E Lc ac w) :
    ∀ {La : Array Bool} {aa : Act} {pend : List (Nat × Value)}, Rel P ops E Lc La pend ac aa w → cnt La ≤ fuel + 1 → ∀ x ∈ Region.ready .any ops La,
      wpOpIn (FW r) 0 P ops Q x (wpAnyIn (FW r) 0 P .any ops Q fuel (La.setIfInBounds x true)) aa w := by
  -- what is ready truly and not yet met in the canonical course is ready there
  have up : ∀ {E : List (Nat × Value)} {Lc La : Array Bool} {ac aa : Act} {w : World} {pend : List (Nat × Value)}, Rel P ops E Lc La pend ac aa w → ∀ x ∈ Region.ready .any ops La, Lc.getD x false = false → x ∈ Region.ready .any ops Lc := by
    intro E Lc La ac aa w pend hR x hx hL
    rw [mem_ready] at hx ⊢
    obtain ⟨_, o, ho, hall⟩ := hx
    refine ⟨?_, o, ho, fun e he hb => hR.sub _ (hall e he hb)⟩
    rw [getD_same (by rw [hR.sc]; exact lt_of_some ho) true false]; exact hL
  have take : ∀ {E : List (Nat × Value)} {Lc : Array Bool} {ac : Act} {w : World}, Stg P r ops Q E Lc ac w → ∀ {La : Array Bool} {aa : Act} {pend : List (Nat × Value)}, Rel P ops E Lc La pend ac aa w → cnt La ≤ fuel + 1 →
      ∀ x ∈ Region.ready .any ops La, Lc.getD x false = true → wpOpIn (FW r) 0 P ops Q x (wpAnyIn (FW r) 0 P .any ops Q fuel (La.setIfInBounds x true)) aa w := by
    intro E Lc ac w hS La aa pend hR hc x hx hL
    rcases hR.mem x hL with h | ⟨v, hv⟩
    · have := (mem_ready.1 hx).1
      rw [getD_same (getD_lt h) true false, h] at this
      cases this
    · exact sim_pend hns (fun La aa pend hR hc => IH _ _ _ _ hS La aa pend hR hc) hR hc hx hv
  have dcs : ∀ {E : List (Nat × Value)} {Lc La : Array Bool} {ac aa : Act} {w : World} {pend : List (Nat × Value)}, Rel P ops E Lc La pend ac aa w → ∀ {i : Nat} {o : Oper}, i ∈ Region.ready .any ops Lc → ops[i]? = some o →
      ∀ j oj, (Lc.setIfInBounds i true).getD j false = true → ops[j]? = some oj → ∀ e ∈ oj.after, Region.binds .any e = true → (Lc.setIfInBounds i true).getD e.on false = true := by
    intro E Lc La ac aa w pend hR i o hi ho j oj hj hoj e he hb
    have hlt : i < Lc.size := by rw [hR.sc]; exact lt_of_some ho
    rw [getD_set hlt] at hj ⊢
    simp only [Bool.or_eq_true, decide_eq_true_eq] at hj ⊢
    refine .inr ?_
    rcases hj with rfl | hj
    · obtain ⟨_, o2, ho2, hall⟩ := mem_ready.1 hi
      rw [hoj] at ho2
      obtain rfl := Option.some.inj ho2
      exact hall e he hb
    · exact hR.dc j oj hj hoj e he hb
  -- one more reader is evaluated in the canonical course
  have more : ∀ {E E' : List (Nat × Value)} {Lc : Array Bool} {ac : Act} {w : World} {i : Nat} {o : Oper} {v : Value}, (∀ p ∈ E, p ∈ E') → i ∈ Region.ready .any ops Lc → ops[i]? = some o → freeOf ops i o = true → rdv P ops o v ac w →
      ((i, v) ∈ E' ∨ ∀ w, rdv P ops o v ac w) → ∀ {La : Array Bool} {aa : Act} {pend : List (Nat × Value)}, Rel P ops E Lc La pend ac aa w →
      Rel P ops E' (Lc.setIfInBounds i true) La ((i, v) :: pend) (ac.put o.dst v) aa w := by
    intro E E' Lc ac w i o v hEE hi ho hf hv hE La aa pend hR
    have hlt : i < Lc.size := by rw [hR.sc]; exact lt_of_some ho
    have hLi : Lc.getD i false = false := by have := (mem_ready.1 hi).1; rwa [getD_same hlt true false] at this
    have hLa : La.getD i false = false := by
      cases h : La.getD i false with
      | false => rfl
      | true => rw [hR.sub i h] at hLi; cases hLi
    have hsel := (noSelect_spec hns ho).1
    refine ⟨by simpa using hR.sc, hR.sa, ?_, ?_, ?_, ?_, dcs hR hi ho, ?_, ?_⟩
    · intro j hj; rw [getD_set hlt, hR.sub j hj]; simp
    · intro j hj
      rw [getD_set hlt] at hj
      simp only [Bool.or_eq_true, decide_eq_true_eq] at hj
      rcases hj with rfl | hj
      · exact .inr ⟨v, .head _⟩
      · rcases hR.mem j hj with h | ⟨u, hu⟩
        · exact .inl h
        · exact .inr ⟨u, .tail _ hu⟩
    · intro p hp
      rcases List.mem_cons.1 hp with rfl | hp
      · exact ⟨by rw [getD_set hlt]; simp, hLa⟩
      · exact ⟨by rw [getD_set hlt, (hR.pl p hp).1]; simp, (hR.pl p hp).2⟩
    · -- its value stays, and what was there stays
      have offSelf : ∀ d, o.dst = some d → d ∉ o.looksAt ops := fun d hd => freeOf_self hf hd
      intro p hp
      rcases List.mem_cons.1 hp with rfl | hp
      · exact ⟨o, ho, hf, (rdv.put hsel _ _ offSelf).2 hv, hE.imp id (fun h w => (rdv.put hsel _ _ offSelf).2 (h w))⟩
      · obtain ⟨op, hop, hfp, hvp, hEp⟩ := hR.pf p hp
        have hne : p.1 ≠ i := fun e => by have := (hR.pl p hp).1; rw [e, hLi] at this; cases this
        have hselp := (noSelect_spec hns hop).1
        have hoff : ∀ d, o.dst = some d → d ∉ op.looksAt ops := by
          intro d hd hm
          have h2 := (freeOf_spec hf hop hne hd).2 hm
          -- then i comes ahead of p, which is listed in the canonical course: so i is
          obtain ⟨o', ho', ed, hed, hb, hon⟩ := directly_spec h2
          have := hR.dc p.1 o' (hR.pl p hp).1 ho' ed hed hb
          rw [hon, hLi] at this
          cases this
        exact ⟨op, hop, hfp, (rdv.put hselp _ _ hoff).2 hvp, hEp.imp (hEE p) (fun h w => (rdv.put hselp _ _ hoff).2 (h w))⟩
    · have hdi : dstOf ops i = o.dst := by simp [dstOf, ho]
      simp only [puts]
      rw [puts_put, hR.act, hdi]
      intro p hp t ht
      obtain ⟨op, hop, _⟩ := hR.pf p hp
      have hne : p.1 ≠ i := fun e => by have := (hR.pl p hp).1; rw [e, hLi] at this; cases this
      have := (freeOf_spec hf hop hne (by simpa [dstOf, ho] using ht)).1
      simpa [dstOf, hop] using this
    · simp only [List.map_cons, List.nodup_cons]
      refine ⟨fun hm => ?_, hR.nd⟩
      obtain ⟨p, hp, e⟩ := List.mem_map.1 hm
      have := (hR.pl p hp).1
      rw [e, hLi] at this; cases this
  induction hS with
  | done h hq =>
    intro La aa pend hR hc x hx
    rename_i L a w0
    cases hL : L.getD x false with
    | true => exact take (.done h hq) hR hc x hx hL
    | false => have := up hR x hx hL; rw [h] at this; cases this
  | read hi ho hf hv k ih =>
    intro La aa pend hR hc x hx
    exact ih (more (fun p hp => .tail _ hp) hi ho hf hv (.inl (.head _)) hR) hc x hx
  | pure hi ho hf hv k ih =>
    intro La aa pend hR hc x hx
    exact ih (more (fun p hp => hp) hi ho hf (hv _) (.inr hv) hR) hc x hx
  | write hne R hx E' hE hs k ih =>
    intro La aa pend hR hc x hxr
    rename_i E L ac w0
    cases hL : L.getD x false with
    | true => exact take (.write hne R hx E' hE hs k) hR hc x hxr hL
    | false =>
      have hxc := up hR x hxr hL
      obtain ⟨o, ho, hap, hrun⟩ := hx x hxc
      obtain ⟨hsel, hdef⟩ := noSelect_spec hns ho
      have hpx : ∀ p ∈ pend, p.1 ≠ x := fun p hp e => by have := (hR.pl p hp).1; rw [e, hL] at this; cases this
      have hoff := pend_off hR hxr ho (fun p hp e => absurd e (hpx p hp))
      obtain ⟨he, hw⟩ := puts_exec hsel hoff aa
      rw [← hR.act] at he hw
      have hltc : x < L.size := by rw [hR.sc]; exact lt_of_some ho
      have hlta : x < La.size := by rw [hR.sa]; exact lt_of_some ho
      have hLa : La.getD x true = false := (mem_ready.1 hxr).1
      have hdx : dstOf ops x = o.dst := by simp [dstOf, ho]
      -- none that is pending comes straight ahead of x
      have hdir : ∀ p ∈ pend, directly ops x p.1 = false := by
        intro p hp
        cases hd : directly ops x p.1 with
        | false => rfl
        | true =>
          obtain ⟨o', ho', ed, hed, hb, hon⟩ := directly_spec hd
          obtain ⟨_, o2, ho2, hall⟩ := mem_ready.1 hxr
          rw [ho'] at ho2
          obtain rfl := Option.some.inj ho2
          have := hall ed hed hb
          rw [hon, (hR.pl p hp).2] at this
          cases this
      have next : ∀ v w', R x (ac.put o.dst v) w' → wpAnyIn (FW r) 0 P .any ops Q fuel (La.setIfInBounds x true) (aa.put o.dst v) w' := by
        intro v w' hRx
        refine IH _ _ _ _ (k x hxc o ho v w' hRx) _ _ pend ⟨by simpa using hR.sc, by simpa using hR.sa, ?_, ?_, ?_, ?_, dcs hR hxc ho, ?_, hR.nd⟩ (by have := cnt_set hLa; omega)
        · intro i hi
          rw [getD_set hlta] at hi
          rw [getD_set hltc]
          simp only [Bool.or_eq_true, decide_eq_true_eq] at hi ⊢
          exact hi.imp id (hR.sub i)
        · intro i hi
          rw [getD_set hltc] at hi
          rw [getD_set hlta]
          simp only [Bool.or_eq_true, decide_eq_true_eq] at hi ⊢
          rcases hi with rfl | hi
          · exact .inl (.inl rfl)
          · exact (hR.mem i hi).imp .inr id
        · intro p hp
          rw [getD_set hltc, getD_set hlta, (hR.pl p hp).1, (hR.pl p hp).2]
          simp [Ne.symm (hpx p hp)]
        · intro p hp
          obtain ⟨op, hop, hfp, hvp, hEp⟩ := hR.pf p hp
          have hoffp : ∀ d, o.dst = some d → d ∉ op.looksAt ops := by
            intro d hd hm
            rcases (apartAll_spec hap hop (hpx p hp) hd).2 hm with h | h
            · obtain ⟨o', ho', ed, hed, hb, hon⟩ := directly_spec h
              have := hR.dc p.1 o' (hR.pl p hp).1 ho' ed hed hb
              rw [hon, hL] at this; cases this
            · rw [hdir p hp] at h; cases h
          have hselp := (noSelect_spec hns hop).1
          rcases hEp with hEp | hEp
          · exact ⟨op, hop, hfp, hs x hxc o ho v w' hRx p (hE x hxc p hEp (hdir p hp)) op hop, .inl (hE x hxc p hEp (hdir p hp))⟩
          · exact ⟨op, hop, hfp, (rdv.put hselp _ _ hoffp).2 (hEp w'), .inr fun w => (rdv.put hselp _ _ hoffp).2 (hEp w)⟩
        · rw [puts_put, ← hR.act]
          intro p hp t ht
          obtain ⟨op, hop, _⟩ := hR.pf p hp
          have := (apartAll_spec hap hop (hpx p hp) ht).1
          simpa [dstOf, hop] using this
      unfold wpOpIn
      simp only [ho]
      rcases hrun with ⟨hwt, hnd, hu⟩ | ⟨hwf, hu⟩
      · rw [if_pos (hw ▸ hwt)]
        refine ⟨fun _ _ => trivial, ?_⟩
        rw [semAt_of hdef, ← he]
        exact uponIn_act next hnd hu
      · rw [← hw, hwf]
        exact ⟨fun _ _ => trivial, next _ _ hu⟩

theorem sim (hns : noSelect ops = true) (hb : backB ops = true) : ∀ (fuel : Nat) E Lc ac w, Stg P r ops Q E Lc ac w → ∀ La aa pend, Rel P ops E Lc La pend ac aa w → cnt La ≤ fuel → wpAnyIn (FW r) 0 P .any ops Q fuel La aa w := by
  have fin : ∀ E Lc ac w, Stg P r ops Q E Lc ac w → ∀ La aa pend, Rel P ops E Lc La pend ac aa w → Region.ready .any ops La = [] → Q .normal aa w := by
    intro E Lc ac w hS La aa pend hR hr
    have hall := ready_all hb hR.sa hr
    have hp : pend = [] := by
      cases pend with
      | nil => rfl
      | cons p l =>
        obtain ⟨o, ho, _⟩ := hR.pf p (.head _)
        have h1 := (hR.pl p (.head _)).2
        rw [hall p.1 (lt_of_some ho)] at h1
        cases h1
    have hrc : Region.ready .any ops Lc = [] := by
      cases h : Region.ready .any ops Lc with
      | nil => rfl
      | cons i l =>
        have hm : i ∈ Region.ready .any ops Lc := by rw [h]; exact .head _
        obtain ⟨h0, o, ho, _⟩ := mem_ready.1 hm
        rw [getD_same (by rw [hR.sc]; exact lt_of_some ho) true false, hR.sub i (hall i (lt_of_some ho))] at h0
        cases h0
    have hact := hR.act
    rw [hp] at hact
    simp only [puts] at hact
    subst hact
    cases hS with
    | done h hq => exact hq
    | read hi => rw [hrc] at hi; cases hi
    | pure hi => rw [hrc] at hi; cases hi
    | write hne => exact absurd hrc hne
  intro fuel
  induction fuel with
  | zero =>
    intro E Lc ac w hS La aa pend hR hc
    have hr : Region.ready .any ops La = [] := by
      cases h : Region.ready .any ops La with
      | nil => rfl
      | cons i l =>
        have hm : i ∈ Region.ready .any ops La := by rw [h]; exact .head _
        have := cnt_set (mem_ready.1 hm).1
        omega
    exact ⟨hr, fin _ _ _ _ hS _ _ _ hR hr⟩
  | succ fuel ih =>
    intro E Lc ac w hS La aa pend hR hc
    exact ⟨fin _ _ _ _ hS _ _ _ hR, sim_step hns ih hS hR hc⟩

end sim

section
variable {X : Cx} {ρ : PEnv} {ds : List Deferred} {H : Heap} {Q : Post}

def filterE (ks : List Nat) : List (Nat × Value) → List (Nat × Value)
  | [] => []
  | (i, v) :: E => bif memB i ks then (i, v) :: filterE ks E else filterE ks E

theorem filterE_mem {ks : List Nat} {E : List (Nat × Value)} {p : Nat × Value} (h : p ∈ E) (hk : memB p.1 ks = true) : p ∈ filterE ks E := by
  induction E with
  | nil => cases h
  | cons q E ih =>
    obtain ⟨i, v⟩ := q
    simp only [filterE]
    rcases List.mem_cons.1 h with rfl | h
    · rw [hk]; exact .head _
    · cases memB i ks
      · exact ih h
      · exact .tail _ (ih h)

theorem filterE_sub {ks : List Nat} {E : List (Nat × Value)} : ∀ p ∈ filterE ks E, p ∈ E := by
  induction E with
  | nil => intro p hp; exact hp
  | cons q E ih =>
    obtain ⟨j, u⟩ := q
    intro p hp
    simp only [filterE] at hp
    cases h : memB j ks
    · rw [h] at hp; exact .tail _ (ih p hp)
    · rw [h] at hp
      rcases List.mem_cons.1 hp with rfl | hp
      · exact .head _
      · exact .tail _ (ih p hp)

theorem put_defers (a : Act) (d : Option Tmp) (v : Value) : (a.put d v).defers = a.defers := by cases d <;> rfl

/-- Its guard lets it run. -/
inductive Want (l : List Oper) (ρ : PEnv) (o : Oper) : Prop
  | plain (h : o.guard = none)
  | yes {j d : Nat} {want b : Bool} (hg : o.guard = some (j, want)) (hj : (l[j]?).bind (·.dst) = some d) (hv : ρ.get d = some (.bool b)) (hb : b = want)

/-- Its guard passes it over. -/
structure Pass (l : List Oper) (ρ : PEnv) (o : Oper) : Prop where
  ex : ∃ (j d : Nat) (want : Bool), o.guard = some (j, want) ∧ (l[j]?).bind (·.dst) = some d ∧ ((∃ b, ρ.get d = some (.bool b) ∧ b = !want) ∨ ρ.get d = some undef)

theorem Pass.mk' {l : List Oper} {o : Oper} {j d : Nat} {want b : Bool} (hg : o.guard = some (j, want)) (hj : (l[j]?).bind (·.dst) = some d) (hv : ρ.get d = some (.bool b)) (hb : b = !want) : Pass l ρ o :=
  ⟨j, d, want, hg, hj, .inl ⟨b, hv, hb⟩⟩

theorem Pass.und {l : List Oper} {o : Oper} {j d : Nat} {want : Bool} (hg : o.guard = some (j, want)) (hj : (l[j]?).bind (·.dst) = some d) (hv : ρ.get d = some undef) : Pass l ρ o :=
  ⟨j, d, want, hg, hj, .inr hv⟩

theorem Want.wanted {l : List Oper} {o : Oper} {n : Nat} {a : Act} (h : Want l ρ o) (ha : Agr n ρ ds a) : Region.wanted o (yielded l.toArray a.tmps) = true := by
  cases h with
  | plain h => simp [Region.wanted, h]
  | yes hg hj hv hb => simp [Region.wanted, hg, yielded_of (ops := l.toArray) ha (by simpa using hj) hv, hb]

theorem Pass.wanted {l : List Oper} {o : Oper} {n : Nat} {a : Act} (h : Pass l ρ o) (ha : Agr n ρ ds a) : Region.wanted o (yielded l.toArray a.tmps) = false := by
  obtain ⟨j, d, want, hg, hj, hv⟩ := h.ex
  rcases hv with ⟨b, hv, hb⟩ | hv
  · rw [Region.wanted, hg]; simp only [yielded_of (ops := l.toArray) ha (by simpa using hj) hv, hb]; cases want <;> rfl
  · rw [Region.wanted, hg]; simp only [yielded_und (ops := l.toArray) ha (by simpa using hj) hv]; rfl

/-- What was read may be read later too. -/
inductive Stab (X : Cx) (l : List Oper) (ρ : PEnv) (H : Heap) : List (Nat × Value) → Prop
  | nil : Stab X l ρ H []
  | cons {i : Nat} {v : Value} {o : Oper} {E : List (Nat × Value)} (ho : l[i]? = some o) (hw : Want l ρ o) (h : RdA X ρ H o v) (t : Stab X l ρ H E) : Stab X l ρ H ((i, v) :: E)

theorem Stab.mem {l : List Oper} {E : List (Nat × Value)} (h : Stab X l ρ H E) : ∀ p ∈ E, ∃ o, l[p.1]? = some o ∧ Want l ρ o ∧ RdA X ρ H o p.2 := by
  induction h with
  | nil => intro p hp; cases hp
  | cons ho hw h _ ih =>
    intro p hp
    rcases List.mem_cons.1 hp with rfl | hp
    · exact ⟨_, ho, hw, h⟩
    · exact ih p hp

/-- What is left of a region whose order is drawn. -/
def DD (X : Cx) (l : List Oper) (pl : Plan) (E : List (Nat × Value)) (L : Array Bool) (ρ : PEnv) (ds : List Deferred) (H : Heap) (Q : Post) : Prop :=
  ∀ J, pl.ok l.toArray J L = true → (∀ p ∈ E, p.1 ∈ J) → l.all (dstLt X.n) = true → ∀ a w, Agr X.n ρ ds a → Good X.w0 X.M H w → Stg X.P X.r l.toArray (Lift X Q) E L a w

theorem V_draw {id : Nat} {l : List Oper} (pl : Plan) (hm : X.P.follows .mixedOrders = true) (hok : (noSelect l.toArray && backB l.toArray && pl.ok l.toArray [] (Array.replicate l.length false)) = true)
    (hf : l.all (dstLt X.n) = true) (h : DD X l pl [] (Array.replicate l.length false) ρ ds H Q) : V X (.region id l.toArray true) ρ ds H Q := by
  intro a w ha hg
  simp only [Bool.and_eq_true] at hok
  refine wpIn_region_any hm ?_
  have hS := h [] hok.2 (fun p hp => by cases hp) hf a _ ha (hg.drew (w.drawn + 1))
  have hz : (List.toArray l).size = l.length := by simp
  rw [hz]
  refine sim hok.1.1 hok.1.2 l.length [] _ a _ hS _ a [] ⟨by simp, by simp, fun i hi => hi, fun i hi => .inl hi, fun p hp => (by cases hp), fun p hp => (by cases hp), ?_, rfl, by simp⟩ ?_
  · intro j o hj
    exfalso
    have := getD_lt hj
    simp at this
    simp [this] at hj
  · simp [cnt, List.count_replicate]

variable {l : List Oper} {E : List (Nat × Value)} {L : Array Bool} {pl : Plan}

theorem D_end {ρ' : PEnv} {H' : Heap} (hs : Sub ρ' ρ) (hh : H'.Sublist H) (h : Q .normal ρ' ds H') : DD X l .done E L ρ ds H Q := by
  intro J hok _ _ a w ha hg
  simp only [Plan.ok, List.isEmpty_iff] at hok
  exact .done hok ⟨ρ', ds, H', ha.sub hs, hg.sub hh, h⟩

theorem D_keep {ρ' : PEnv} {ks : List Nat} (hs : Keep ρ ks ρ') (h : Q .normal ρ' ds H) : DD X l .done E L ρ ds H Q := D_end hs.sub (List.Sublist.refl _) h

theorem D_then {ρ' : PEnv} {ks : List Nat} {k : PEnv → List Deferred → Heap → Prop} (hs : Keep ρ ks ρ') (h : k ρ' ds H) : DD X l .done E L ρ ds H (Then k Q) := D_end hs.sub (List.Sublist.refl _) h

theorem D_cases {d : Nat} {b : Bool} (hv : ρ.get d = some (.bool b)) (h1 : b = true → DD X l pl E L ρ ds H Q) (h2 : b = false → DD X l pl E L ρ ds H Q) : DD X l pl E L ρ ds H Q := by
  cases b
  · exact h2 rfl
  · exact h1 rfl

theorem okRd_spec {i : Nat} {J : List Nat} {o : Oper} (hok : (Plan.rd i pl).ok l.toArray J L = true) (ho : l[i]? = some o) :
    i ∈ Region.ready .any l.toArray L ∧ (l.toArray)[i]? = some o ∧ freeOf l.toArray i o = true ∧ pl.ok l.toArray (i :: J) (L.setIfInBounds i true) = true := by
  have ho' : (l.toArray)[i]? = some o := by simpa using ho
  simp only [Plan.ok, ho', Bool.and_eq_true] at hok
  exact ⟨by simpa [List.contains_iff_mem] using hok.1.1, ho', hok.1.2, hok.2⟩

theorem fits_of {i : Nat} {o : Oper} {n : Nat} (hf : l.all (dstLt n) = true) (ho : l[i]? = some o) : ∀ t, o.dst = some t → t < n :=
  dstLt_iff (List.all_eq_true.1 hf o (List.mem_of_getElem? ho))

theorem D_p {i : Nat} {o : Oper} {v : Value} (ho : l[i]? = some o) (hw : Want l ρ o) (h : RdP X ρ o v) (k : DD X l pl E (L.setIfInBounds i true) (ρ.put o.dst v) ds H Q) : DD X l (.rd i pl) E L ρ ds H Q := by
  intro J hok hE hf a w ha hg
  obtain ⟨h1, h2, h3, h4⟩ := okRd_spec hok ho
  exact .pure h1 h2 h3 (fun w => .inl ⟨hw.wanted ha, h.run _ w ha.evs⟩) (k (i :: J) h4 (fun p hp => .tail _ (hE p hp)) hf _ w (ha.put (fits_of hf ho) v) hg)

theorem D_rd {i : Nat} {o : Oper} {v : Value} (ho : l[i]? = some o) (hw : Want l ρ o) (h : RdA X ρ H o v) (k : DD X l pl ((i, v) :: E) (L.setIfInBounds i true) (ρ.put o.dst v) ds H Q) : DD X l (.rd i pl) E L ρ ds H Q := by
  intro J hok hE hf a w ha hg
  obtain ⟨h1, h2, h3, h4⟩ := okRd_spec hok ho
  refine .read h1 h2 h3 (.inl ⟨hw.wanted ha, h.run _ w ha.evs hg⟩) (k (i :: J) h4 (fun p hp => ?_) hf _ w (ha.put (fits_of hf ho) v) hg)
  rcases List.mem_cons.1 hp with rfl | hp
  · exact .head _
  · exact .tail _ (hE p hp)

theorem D_no {i : Nat} {o : Oper} (ho : l[i]? = some o) (hw : Pass l ρ o) (k : DD X l pl E (L.setIfInBounds i true) (ρ.put o.dst undef) ds H Q) : DD X l (.rd i pl) E L ρ ds H Q := by
  intro J hok hE hf a w ha hg
  obtain ⟨h1, h2, h3, h4⟩ := okRd_spec hok ho
  exact .pure h1 h2 h3 (fun w => .inr ⟨hw.wanted ha, rfl⟩) (k (i :: J) h4 (fun p hp => .tail _ (hE p hp)) hf _ w (ha.put (fits_of hf ho) _) hg)

theorem okWr_spec {i : Nat} {J ks : List Nat} {o : Oper} (hok : okWr l.toArray i J ks = true) (ho : l[i]? = some o) :
    (l.toArray)[i]? = some o ∧ apartAll l.toArray i o = true ∧ (∀ j ∈ J, directly l.toArray i j = false → memB j ks = true) := by
  have ho' : (l.toArray)[i]? = some o := by simpa using ho
  simp only [okWr, ho', Bool.and_eq_true, kept, List.all_eq_true, Bool.or_eq_true] at hok
  exact ⟨ho', hok.1, fun j hj hd => (hok.2 j hj).resolve_left (by simp [hd])⟩

/-- One of the writers that may come first. -/
inductive Step (X : Cx) (l : List Oper) (E : List (Nat × Value)) (L : Array Bool) (ρ : PEnv) (ds : List Deferred) (H : Heap) (Q : Post) (i : Nat) (ks : List Nat) (pl : Plan) : Prop
  | go {o : Oper} {E' : List (Nat × Value)} {R : Value → Heap → Prop} (ho : l[i]? = some o) (hw : Want l ρ o) (h : WrA X ρ H o R) (hE' : filterE ks E = E')
      (k : ∀ v H', R v H' → Stab X l (ρ.put o.dst v) H' E' ∧ DD X l pl E' (L.setIfInBounds i true) (ρ.put o.dst v) ds H' Q)
  | pass {o : Oper} {E' : List (Nat × Value)} (ho : l[i]? = some o) (hw : Pass l ρ o) (hE' : filterE ks E = E')
      (k : Stab X l (ρ.put o.dst undef) H E' ∧ DD X l pl E' (L.setIfInBounds i true) (ρ.put o.dst undef) ds H Q)

theorem stg_steps {J : List Nat} {is : List Nat} (hr : Region.ready .any l.toArray L = is) (hne : is ≠ []) (KS : Nat → List Nat) (PL : Nat → Plan)
    (hok : ∀ i ∈ is, okWr l.toArray i J (KS i) = true) (hp : ∀ i ∈ is, (PL i).ok l.toArray J (L.setIfInBounds i true) = true) (hE : ∀ p ∈ E, p.1 ∈ J) (hf : l.all (dstLt X.n) = true)
    (h : ∀ i ∈ is, Step X l E L ρ ds H Q i (KS i) (PL i)) {a : Act} {w : World} (ha : Agr X.n ρ ds a) (hg : Good X.w0 X.M H w) : Stg X.P X.r l.toArray (Lift X Q) E L a w := by
  subst hr
  have hfil : ∀ i, ∀ p ∈ filterE (KS i) E, p ∈ E := fun i => filterE_sub
  refine .write hne (fun i a' w' => (∀ p ∈ filterE (KS i) E, ∀ op, l.toArray[p.1]? = some op → rdv X.P l.toArray op p.2 a' w') ∧ Stg X.P X.r l.toArray (Lift X Q) (filterE (KS i) E) (L.setIfInBounds i true) a' w') ?_ (fun i => filterE (KS i) E) ?_ ?_ ?_
  · intro i hi
    have stab : ∀ {ρ' : PEnv} {H' : Heap} {a' : Act} {w' : World}, Stab X l ρ' H' (filterE (KS i) E) → Agr X.n ρ' ds a' → Good X.w0 X.M H' w' → ∀ p ∈ filterE (KS i) E, ∀ op, l.toArray[p.1]? = some op → rdv X.P l.toArray op p.2 a' w' := by
      intro ρ' H' a' w' hst ha' hg' p hp op hop
      obtain ⟨op', hop', hwp, hrp⟩ := hst.mem p hp
      have : op' = op := by have h1 : (l.toArray)[p.1]? = some op' := by simpa using hop'
                            rw [hop] at h1; exact (Option.some.inj h1).symm
      subst this
      exact .inl ⟨hwp.wanted ha', hrp.run _ w' ha'.evs hg'⟩
    cases h i hi with
    | go ho hw hwr hE' k =>
      subst hE'
      obtain ⟨ho', hap, _⟩ := okWr_spec (hok i hi) ho
      refine ⟨_, ho', hap, .inl ⟨hw.wanted ha, ?_, ?_⟩⟩
      · intro d w' e
        have := hwr.run a w ha.evs hg
        rw [e] at this
        simp only [Oper.uponIn] at this
        obtain ⟨v, H', e', _⟩ := this
        have := congrArg (fun a => a.defers.length) e'
        simp [put_defers] at this
      · refine uponIn_mono ?_ (hwr.run a w ha.evs hg)
        rintro a' w' ⟨v, H', rfl, hg', hR⟩
        obtain ⟨hst, hD⟩ := k v H' hR
        have ha' := ha.put (fits_of hf ho) v
        exact ⟨stab hst ha' hg', hD J (hp i hi) (fun p hp => hE p (hfil i p hp)) hf _ w' ha' hg'⟩
    | pass ho hw hE' k =>
      subst hE'
      obtain ⟨ho', hap, _⟩ := okWr_spec (hok i hi) ho
      refine ⟨_, ho', hap, .inr ⟨hw.wanted ha, ?_⟩⟩
      obtain ⟨hst, hD⟩ := k
      have ha' := ha.put (fits_of hf ho) undef
      exact ⟨stab hst ha' hg, hD J (hp i hi) (fun p hp => hE p (hfil i p hp)) hf _ w ha' hg⟩
  · intro i hi p hp hd
    have hokk := hok i hi
    have hk : ∀ j ∈ J, directly l.toArray i j = false → memB j (KS i) = true := by
      simp only [okWr, Bool.and_eq_true, kept, List.all_eq_true, Bool.or_eq_true] at hokk
      exact fun j hj hdd => (hokk.2 j hj).resolve_left (by simp [hdd])
    exact filterE_mem hp (hk p.1 (hE p hp) hd)
  · intro i hi o ho v w' hR p hp op hop
    exact hR.1 p hp op hop
  · intro i hi o ho v w' hR
    exact hR.2

theorem D_wr {i : Nat} {ks : List Nat} (h : Step X l E L ρ ds H Q i ks pl) : DD X l (.wr i ks pl) E L ρ ds H Q := by
  intro J hok hE hf a w ha hg
  simp only [Plan.ok, Bool.and_eq_true, beq_iff_eq] at hok
  obtain ⟨⟨hr, hok1⟩, hok2⟩ := hok
  exact stg_steps hr (by simp) (fun _ => ks) (fun _ => pl) (by simpa using hok1) (by simpa using hok2) hE hf (by simpa using h) ha hg

theorem D_wr2 {i j : Nat} {ks ls : List Nat} {q : Plan} (hij : Nat.beq j i = false) (h1 : Step X l E L ρ ds H Q i ks pl) (h2 : Step X l E L ρ ds H Q j ls q) : DD X l (.wr2 i ks pl j ls q) E L ρ ds H Q := by
  intro J hok hE hf a w ha hg
  simp only [Plan.ok, Bool.and_eq_true, beq_iff_eq] at hok
  obtain ⟨⟨⟨⟨hr, o1⟩, o2⟩, p1⟩, p2⟩ := hok
  refine stg_steps hr (by simp) (fun x => bif Nat.beq x i then ks else ls) (fun x => bif Nat.beq x i then pl else q) ?_ ?_ hE hf ?_ ha hg
  all_goals
    intro x hx
    simp only [List.mem_cons, List.not_mem_nil, or_false] at hx
    rcases hx with rfl | rfl
    · simp only [Nat.beq_refl, cond_true]; assumption
    · simp only [hij, cond_false]; assumption

theorem D_wr3 {i j k : Nat} {ks ls ms : List Nat} {q s : Plan} (hij : Nat.beq j i = false) (hik : Nat.beq k i = false) (hjk : Nat.beq k j = false) (h1 : Step X l E L ρ ds H Q i ks pl) (h2 : Step X l E L ρ ds H Q j ls q) (h3 : Step X l E L ρ ds H Q k ms s) :
    DD X l (.wr3 i ks pl j ls q k ms s) E L ρ ds H Q := by
  intro J hok hE hf a w ha hg
  simp only [Plan.ok, Bool.and_eq_true, beq_iff_eq] at hok
  obtain ⟨⟨⟨⟨⟨⟨hr, o1⟩, o2⟩, o3⟩, p1⟩, p2⟩, p3⟩ := hok
  refine stg_steps hr (by simp) (fun x => bif Nat.beq x i then ks else bif Nat.beq x j then ls else ms) (fun x => bif Nat.beq x i then pl else bif Nat.beq x j then q else s) ?_ ?_ hE hf ?_ ha hg
  all_goals
    intro x hx
    simp only [List.mem_cons, List.not_mem_nil, or_false] at hx
    rcases hx with rfl | rfl | rfl
    · simp only [Nat.beq_refl, cond_true]; assumption
    · simp only [hij, cond_false, Nat.beq_refl, cond_true]; assumption
    · simp only [hik, hjk, cond_false]; assumption

end

end Go.Vc

/- What single operations do. -/
set_option linter.all false
namespace Go.Vc

/-! ### types, read off the tables -/

def tyAgg (P : Program) (t : TypeId) : Option Bool := match P.underlying t with
  | some (.struct _) => some true
  | some (.array _ _) => some true
  | some _ => some false
  | none => none
def tySize (P : Program) (t : TypeId) : Option Nat := (P.info? t).map (·.size)
def tyZero (P : Program) (t : TypeId) : Option Value := (P.info? t).bind (·.zero)
def fieldOff (P : Program) (s i : Nat) : Option Nat := match P.underlying s with
  | some (.struct fs) => match fs[i]? with
    | some f => match tySize P f.type with
      | some (_ + 1) => some f.offset
      | _ => none
    | none => none
  | _ => none
def elemSz (P : Program) (t : TypeId) : Option Nat := match P.underlying t with
  | some (.slice e) => tySize P e
  | _ => none
def arrOf (P : Program) (t : TypeId) : Option (Nat × Nat) := match P.underlying t with
  | some (.array n e) => (tySize P e).map (n, ·)
  | _ => none
/-- offset and size of each field -/
def placesOf (P : Program) (t : TypeId) : Option (List (Nat × Nat)) := match P.underlying t with
  | some (.struct fs) => fs.toList.mapM fun f => (tySize P f.type).map (f.offset, ·)
  | _ => none

section
variable {P : Program} {w : World} {t : TypeId}

theorem run_typeInfo' {i : TypeInfo} (h : P.info? t = some i) : (typeInfo t).run P w = .ok i w := by simp [typeInfo, h]

theorem run_underlying' {d : TypeDesc} (h : P.underlying t = some d) : (underlying t).run P w = .ok d w := by simp [underlying, h]

theorem run_sizeOf' {n : Nat} (h : tySize P t = some n) : (sizeOf t).run P w = .ok n w := by
  unfold tySize at h
  cases hi : P.info? t with
  | none => simp [hi] at h
  | some i =>
    simp only [hi, Option.map_some, Option.some.injEq] at h
    simp [sizeOf, run_typeInfo' hi, h]

theorem run_zeroValue' {v : Value} (h : tyZero P t = some v) : (zeroValue t).run P w = .ok v w := by
  unfold tyZero at h
  cases hi : P.info? t with
  | none => simp [hi] at h
  | some i =>
    simp only [hi, Option.bind_some] at h
    simp [zeroValue, run_typeInfo' hi, h]

theorem run_isAgg' {b : Bool} (h : tyAgg P t = some b) : (isAgg t).run P w = .ok b w := by
  unfold tyAgg at h
  cases hu : P.underlying t with
  | none => simp [hu] at h
  | some d =>
    rw [hu] at h
    cases d <;> simp at h <;> subst h <;> simp [isAgg, run_underlying' hu]
end

/-! ### cells -/

theorem add_none (b o k : Nat) : (⟨b, o, none⟩ : Addr).add k = ⟨b, o + k, none⟩ := by
  unfold Addr.add
  split
  · rename_i h; simp [h]
  · rfl

theorem add_add (a : Addr) (j k : Nat) : (a.add j).add k = a.add (j + k) := by
  unfold Addr.add
  by_cases hj : j = 0
  · simp [hj]
  · by_cases hk : k = 0
    · simp [hk, hj]
    · have : ¬ (j + k = 0) := by omega
      simp [hj, hk, this, Nat.add_assoc]

theorem add_zero' (a : Addr) : a.add 0 = a := by simp [Addr.add]

theorem add_block (a : Addr) (k : Nat) : (a.add k).block = a.block := by unfold Addr.add; split <;> rfl

def cellsAt (w : World) (a : Addr) (vs : List Value) : Prop := ∀ j v, vs[j]? = some v → w.cell? (a.add j) = some v

theorem cellsAt.sub {w : World} {a : Addr} {vs : List Value} (h : cellsAt w a vs) (k n : Nat) : cellsAt w (a.add k) ((vs.drop k).take n) := by
  intro j v hj
  rw [add_add]
  refine h _ _ ?_
  rw [List.getElem?_take] at hj
  split at hj
  · rwa [List.getElem?_drop] at hj
  · cases hj

theorem cell_lt {w : World} {a : Addr} {v : Value} (h : w.cell? a = some v) : a.block < w.heap.size := by
  unfold World.cell? at h
  cases hb : w.heap[a.block]? with
  | none => simp [hb] at h
  | some o => exact lt_of_some hb

theorem cell_of_heap {w w' : World} {a : Addr} (h : w'.heap[a.block]? = w.heap[a.block]?) : w'.cell? a = w.cell? a := by
  unfold World.cell?; rw [h]

theorem Good.cell {w0 w : World} {M : List Nat} {H : Heap} (h : Good w0 M H w) {a : Addr} {v : Value} (hc : w0.cell? a = some v) (hM : a.block ∉ M) : w.cell? a = some v := by
  rw [cell_of_heap (h.base _ (cell_lt hc) hM)]; exact hc

theorem Good.cells {w0 w : World} {M : List Nat} {H : Heap} (h : Good w0 M H w) {a : Addr} {vs : List Value} (hc : cellsAt w0 a vs) (hM : a.block ∉ M) : cellsAt w a vs :=
  fun j v hj => h.cell (hc j v hj) (by rw [add_block]; exact hM)

theorem Ext.cell {w w' : World} (h : Ext w w') {a : Addr} {v : Value} (hc : w.cell? a = some v) : w'.cell? a = some v := by
  rw [cell_of_heap (h.same _ (cell_lt hc))]; exact hc

theorem Ext.cells {w w' : World} (h : Ext w w') {a : Addr} {vs : List Value} (hc : cellsAt w a vs) : cellsAt w' a vs := fun j v hj => h.cell (hc j v hj)

theorem own_cell {w : World} {b : Nat} {cs : Array Value} {t : TypeId} {fr : Nat × Nat} (h : w.heap[b]? = some (.cells cs t fr)) (off : Nat) : w.cell? ⟨b, off, none⟩ = cs.toList[off]? := by
  simp [World.cell?, h]

theorem own_cellsAt {w : World} {b : Nat} {cs : Array Value} {t : TypeId} {fr : Nat × Nat} (h : w.heap[b]? = some (.cells cs t fr)) (off : Nat) : cellsAt w ⟨b, off, none⟩ (cs.toList.drop off) := by
  intro j v hj
  rw [add_none, own_cell h, ← hj, List.getElem?_drop]

def sliceL (l : List Value) (off n : Nat) : Option (List Value) := bif Nat.ble (off + n) l.length then some ((l.drop off).take n) else none

theorem sliceL_spec {l vs : List Value} {off n : Nat} (h : sliceL l off n = some vs) : vs = (l.drop off).take n ∧ vs.length = n := by
  unfold sliceL at h
  cases hb : Nat.ble (off + n) l.length with
  | false => simp [hb] at h
  | true =>
    have := Nat.le_of_ble_eq_true hb
    simp only [hb, cond_true, Option.some.injEq] at h
    subst h
    exact ⟨rfl, by simp; omega⟩

theorem run_loadVar {P : Program} {w : World} {t : TypeId} {a : Addr} {v : Value} (ha : tyAgg P t = some false) (hc : w.cell? a = some v) : (loadVar t a).run P w = .ok v w := by
  simp [loadVar, run_isAgg' ha, hc]

theorem run_loadVar_agg {P : Program} {w : World} {t : TypeId} {a : Addr} {n : Nat} {vs : List Value} (ha : tyAgg P t = some true) (hs : tySize P t = some n) (hn : vs.length = n) (hc : cellsAt w a vs) :
    (loadVar t a).run P w = .ok (.agg vs.toArray) w := by
  subst hn
  have := run_loadCells_list (P := P) (w := w) a vs hc
  simp [loadVar, run_isAgg' ha, run_sizeOf' hs, this]

theorem beq_dec {α : Type} [BEq α] [LawfulBEq α] [DecidableEq α] (a b : α) : (a == b) = decide (a = b) := by rw [Bool.eq_iff_iff]; simp

theorem bytes_ext {a b : ByteArray} (h : a.data.toList = b.data.toList) : a = b := by
  obtain ⟨⟨x⟩⟩ := a
  obtain ⟨⟨y⟩⟩ := b
  simp only at h
  rw [h]
theorem bytes_dec (a b : ByteArray) : (a.toList == b.toList) = decide (a = b) := by
  rw [ByteArray.toList_eq, ByteArray.toList_eq, Bool.eq_iff_iff]
  simp only [beq_iff_eq, decide_eq_true_eq]
  exact ⟨bytes_ext, fun h => by rw [h]⟩

/-! ### pure operations -/

section
variable {X : Cx} {ρ : PEnv} {H : Heap} {o : Oper}

theorem p_move {x : Operand} {v : Value} (ho : o.op = .move x) (hx : ρ.ev x = some v) : RdP X ρ o v :=
  ⟨fun c h => (by rw [ho] at h; cases h), fun e w he => by simp [execOp, ho, he _ _ hx]⟩

theorem p_assign {x : Operand} {v : Value} (ho : o.op = .assign x) (hx : ρ.ev x = some v) : RdP X ρ o v :=
  ⟨fun c h => (by rw [ho] at h; cases h), fun e w he => by simp [execOp, ho, he _ _ hx]⟩

theorem p_pick_t {c a b : Operand} {v : Value} {t : Bool} (ho : o.op = .pick c a b) (hc : ρ.ev c = some (.bool t)) (ht : t = true) (ha : ρ.ev a = some v) : RdP X ρ o v :=
  ⟨fun c h => (by rw [ho] at h; cases h), fun e w he => by simp [execOp, ho, he _ _ hc, he _ _ ha, ht, asBool]⟩

theorem p_pick_f {c a b : Operand} {v : Value} {t : Bool} (ho : o.op = .pick c a b) (hc : ρ.ev c = some (.bool t)) (ht : t = false) (hb : ρ.ev b = some v) : RdP X ρ o v :=
  ⟨fun c h => (by rw [ho] at h; cases h), fun e w he => by simp [execOp, ho, he _ _ hc, he _ _ hb, ht, asBool]⟩

theorem p_not {x : Operand} {t : TypeId} {b : Bool} (ho : o.op = .unOp .not t x) (hx : ρ.ev x = some (.bool b)) : RdP X ρ o (.bool !b) :=
  ⟨fun c h => (by rw [ho] at h; cases h), fun e w he => by simp [execOp, ho, he _ _ hx, Op.unary]⟩

theorem p_neg {x : Operand} {t : TypeId} {k : IntKind} {n : Int} (ho : o.op = .unOp .neg t x) (hx : ρ.ev x = some (.int k n)) : RdP X ρ o (.int k (k.wrap (0 - n))) :=
  ⟨fun c h => (by rw [ho] at h; cases h), fun e w he => by simp [execOp, ho, he _ _ hx, Op.unary, Op.intArith]⟩

theorem p_nil {x : Operand} {a : Addr} (ho : o.op = .nilCheck x) (hx : ρ.ev x = some (.pointer (some a))) : RdP X ρ o (.pointer (some a)) :=
  ⟨fun c h => (by rw [ho] at h; cases h), fun e w he => by simp [execOp, ho, he _ _ hx]⟩

theorem p_bin {op : BinOp} {t yt : TypeId} {x y : Operand} {k : IntKind} {a b : Int} {v : Value} (ho : o.op = .binOp op t x y yt) (hx : ρ.ev x = some (.int k a)) (hy : ρ.ev y = some (.int k b))
    (h : ∀ w, (binOp op t (.int k a) (.int k b)).run X.P w = .ok v w) : RdP X ρ o v :=
  ⟨fun c h => (by rw [ho] at h; cases h), fun e w he => by
    have hg : (eqGuard op t x y (.int k a) (.int k b)).run X.P w = .ok () w := by unfold eqGuard; split <;> simp
    simp [execOp, ho, he _ _ hx, he _ _ hy, hg, h]⟩

theorem p_add {t yt : TypeId} {x y : Operand} {k : IntKind} {a b : Int} (ho : o.op = .binOp .add t x y yt) (hx : ρ.ev x = some (.int k a)) (hy : ρ.ev y = some (.int k b)) : RdP X ρ o (.int k (k.wrap (a + b))) :=
  p_bin ho hx hy fun w => by simp [binOp, Op.intArith]
theorem p_sub {t yt : TypeId} {x y : Operand} {k : IntKind} {a b : Int} (ho : o.op = .binOp .sub t x y yt) (hx : ρ.ev x = some (.int k a)) (hy : ρ.ev y = some (.int k b)) : RdP X ρ o (.int k (k.wrap (a - b))) :=
  p_bin ho hx hy fun w => by simp [binOp, Op.intArith]
theorem p_mul {t yt : TypeId} {x y : Operand} {k : IntKind} {a b : Int} (ho : o.op = .binOp .mul t x y yt) (hx : ρ.ev x = some (.int k a)) (hy : ρ.ev y = some (.int k b)) : RdP X ρ o (.int k (k.wrap (a * b))) :=
  p_bin ho hx hy fun w => by simp [binOp, Op.intArith]
theorem p_quo {t yt : TypeId} {x y : Operand} {k : IntKind} {a b : Int} (ho : o.op = .binOp .quo t x y yt) (hx : ρ.ev x = some (.int k a)) (hy : ρ.ev y = some (.int k b)) (hb : b ≠ 0) : RdP X ρ o (.int k (k.wrap (a.tdiv b))) :=
  p_bin ho hx hy fun w => by simp [binOp, Op.intDiv, hb]
theorem p_rem {t yt : TypeId} {x y : Operand} {k : IntKind} {a b : Int} (ho : o.op = .binOp .rem t x y yt) (hx : ρ.ev x = some (.int k a)) (hy : ρ.ev y = some (.int k b)) (hb : b ≠ 0) : RdP X ρ o (.int k (a.tmod b)) :=
  p_bin ho hx hy fun w => by simp [binOp, Op.intDiv, hb]

def InI (n : Int) : Prop := -9223372036854775808 ≤ n ∧ n ≤ 9223372036854775807

theorem wrap_in {n : Int} (h : InI n) : IntKind.i64.wrap n = n := IntWalk.i64_in n h

/-- the same, where the result is in the range of int -/
theorem p_add' {t yt : TypeId} {x y : Operand} {a b : Int} (ho : o.op = .binOp .add t x y yt) (hx : ρ.ev x = some (.int .i64 a)) (hy : ρ.ev y = some (.int .i64 b)) (hr : InI (a + b)) : RdP X ρ o (.int .i64 (a + b)) := by
  have := p_add (X := X) ho hx hy; rwa [wrap_in hr] at this
theorem p_sub' {t yt : TypeId} {x y : Operand} {a b : Int} (ho : o.op = .binOp .sub t x y yt) (hx : ρ.ev x = some (.int .i64 a)) (hy : ρ.ev y = some (.int .i64 b)) (hr : InI (a - b)) : RdP X ρ o (.int .i64 (a - b)) := by
  have := p_sub (X := X) ho hx hy; rwa [wrap_in hr] at this
theorem p_mul' {t yt : TypeId} {x y : Operand} {a b : Int} (ho : o.op = .binOp .mul t x y yt) (hx : ρ.ev x = some (.int .i64 a)) (hy : ρ.ev y = some (.int .i64 b)) (hr : InI (a * b)) : RdP X ρ o (.int .i64 (a * b)) := by
  have := p_mul (X := X) ho hx hy; rwa [wrap_in hr] at this
theorem p_quo' {t yt : TypeId} {x y : Operand} {a b : Int} (ho : o.op = .binOp .quo t x y yt) (hx : ρ.ev x = some (.int .i64 a)) (hy : ρ.ev y = some (.int .i64 b)) (hb : b ≠ 0) (hr : InI (a.tdiv b)) : RdP X ρ o (.int .i64 (a.tdiv b)) := by
  have := p_quo (X := X) ho hx hy hb; rwa [wrap_in hr] at this
theorem p_neg' {x : Operand} {t : TypeId} {n : Int} (ho : o.op = .unOp .neg t x) (hx : ρ.ev x = some (.int .i64 n)) (hr : InI (-n)) : RdP X ρ o (.int .i64 (-n)) := by
  have := p_neg (X := X) ho hx; rw [Int.zero_sub] at this; rwa [wrap_in hr] at this

theorem p_lss {t yt : TypeId} {x y : Operand} {k : IntKind} {a b : Int} (ho : o.op = .binOp .lss t x y yt) (hx : ρ.ev x = some (.int k a)) (hy : ρ.ev y = some (.int k b)) : RdP X ρ o (.bool (decide (a < b))) :=
  p_bin ho hx hy fun w => by simp [binOp, Op.intCmp]
theorem p_leq {t yt : TypeId} {x y : Operand} {k : IntKind} {a b : Int} (ho : o.op = .binOp .leq t x y yt) (hx : ρ.ev x = some (.int k a)) (hy : ρ.ev y = some (.int k b)) : RdP X ρ o (.bool (decide (a ≤ b))) :=
  p_bin ho hx hy fun w => by simp [binOp, Op.intCmp]
theorem p_gtr {t yt : TypeId} {x y : Operand} {k : IntKind} {a b : Int} (ho : o.op = .binOp .gtr t x y yt) (hx : ρ.ev x = some (.int k a)) (hy : ρ.ev y = some (.int k b)) : RdP X ρ o (.bool (decide (b < a))) :=
  p_bin ho hx hy fun w => by simp [binOp, Op.intCmp]
theorem p_geq {t yt : TypeId} {x y : Operand} {k : IntKind} {a b : Int} (ho : o.op = .binOp .geq t x y yt) (hx : ρ.ev x = some (.int k a)) (hy : ρ.ev y = some (.int k b)) : RdP X ρ o (.bool (decide (b ≤ a))) :=
  p_bin ho hx hy fun w => by simp [binOp, Op.intCmp]
theorem p_eql {t yt : TypeId} {x y : Operand} {k : IntKind} {a b : Int} (ho : o.op = .binOp .eql t x y yt) (hx : ρ.ev x = some (.int k a)) (hy : ρ.ev y = some (.int k b)) : RdP X ρ o (.bool (decide (a = b))) :=
  p_bin ho hx hy fun w => by simp [binOp, Op.intCmp, beq_dec]
theorem p_neq {t yt : TypeId} {x y : Operand} {k : IntKind} {a b : Int} (ho : o.op = .binOp .neq t x y yt) (hx : ρ.ev x = some (.int k a)) (hy : ρ.ev y = some (.int k b)) : RdP X ρ o (.bool (decide (a ≠ b))) :=
  p_bin ho hx hy fun w => by simp [binOp, Op.intCmp, bne, beq_dec]

theorem p_eqls {t yt : TypeId} {x y : Operand} {a b : ByteArray} (ho : o.op = .binOp .eql t x y yt) (hx : ρ.ev x = some (.string a)) (hy : ρ.ev y = some (.string b)) : RdP X ρ o (.bool (decide (a = b))) :=
  ⟨fun c h => (by rw [ho] at h; cases h), fun e w he => by
    have hg : (eqGuard .eql t x y (.string a) (.string b)).run X.P w = .ok () w := by unfold eqGuard; simp
    have hb : (a.toList == b.toList) = decide (a = b) := bytes_dec a b
    simp [execOp, ho, he _ _ hx, he _ _ hy, hg, binOp, Op.stringOp, hb]⟩

theorem p_eqlb {t yt : TypeId} {x y : Operand} {a b : Bool} (hu : X.P.underlying t = some .bool) (ho : o.op = .binOp .eql t x y yt) (hx : ρ.ev x = some (.bool a)) (hy : ρ.ev y = some (.bool b)) : RdP X ρ o (.bool (a == b)) :=
  ⟨fun c h => (by rw [ho] at h; cases h), fun e w he => by
    have hg : (eqGuard .eql t x y (.bool a) (.bool b)).run X.P w = .ok () w := by unfold eqGuard; simp
    have h1 : (Op.equal t (.bool a) (.bool b)).run X.P w = .ok (a == b) w := run_equalIn_bool' w 9999 t a b hu
    simp [execOp, ho, he _ _ hx, he _ _ hy, hg, binOp, h1]⟩
theorem p_neqb {t yt : TypeId} {x y : Operand} {a b : Bool} (hu : X.P.underlying t = some .bool) (ho : o.op = .binOp .neq t x y yt) (hx : ρ.ev x = some (.bool a)) (hy : ρ.ev y = some (.bool b)) : RdP X ρ o (.bool (!(a == b))) :=
  ⟨fun c h => (by rw [ho] at h; cases h), fun e w he => by
    have hg : (eqGuard .neq t x y (.bool a) (.bool b)).run X.P w = .ok () w := by unfold eqGuard; simp
    have h1 : (Op.equal t (.bool a) (.bool b)).run X.P w = .ok (a == b) w := run_equalIn_bool' w 9999 t a b hu
    simp [execOp, ho, he _ _ hx, he _ _ hy, hg, binOp, h1]⟩

theorem p_field {x : Operand} {t off i : Nat} {a : Addr} (hf : fieldOff X.P t i = some off) (ho : o.op = .fieldAddr t x i) (hx : ρ.ev x = some (.pointer (some a))) : RdP X ρ o (.pointer (some (a.add off))) := by
  refine ⟨fun c h => (by rw [ho] at h; cases h), fun e w he => ?_⟩
  unfold fieldOff at hf
  cases hu : X.P.underlying t with
  | none => simp [hu] at hf
  | some d =>
    cases d with
    | struct fs =>
      simp only [hu] at hf
      cases hi : fs[i]? with
      | none => simp [hi] at hf
      | some f =>
        simp only [hi] at hf
        cases hs : tySize X.P f.type with
        | none => simp [hs] at hf
        | some n =>
          cases n with
          | zero => simp [hs] at hf
          | succ n =>
            simp only [hs, Option.some.injEq] at hf
            subst hf
            simp [execOp, ho, he _ _ hx, Instr.fieldAt, run_underlying' hu, hi, Instr.sureAddr, fieldPlace, run_sizeOf' hs]
    | _ => simp [hu] at hf

theorem p_fieldo {x : Operand} {t off i b k : Nat} (hf : fieldOff X.P t i = some off) (ho : o.op = .fieldAddr t x i) (hx : ρ.ev x = some (.pointer (some ⟨b, k, none⟩))) : RdP X ρ o (.pointer (some ⟨b, k + off, none⟩)) := by
  have := p_field (X := X) hf ho hx; rwa [add_none] at this

theorem p_idx {x i : Operand} {t len cap size : Nat} {a : Addr} {k : Int} (hs : elemSz X.P t = some size) (ho : o.op = .indexAddr t x i) (hx : ρ.ev x = some (.slice (some a) len cap)) (hi : ρ.ev i = some (.int .i64 k))
    (h0 : 0 ≤ k) (h1 : k < len) : RdP X ρ o (.pointer (some (a.add (k.toNat * size)))) := by
  refine ⟨fun c h => (by rw [ho] at h; cases h), fun e w he => ?_⟩
  unfold elemSz at hs
  cases hu : X.P.underlying t with
  | none => simp [hu] at hs
  | some d =>
    cases d with
    | slice el =>
      simp only [hu] at hs
      simp [execOp, ho, he _ _ hx, he _ _ hi, Instr.indexAt, asIntOf, run_underlying' hu, h0, h1, run_sizeOf' hs]
    | _ => simp [hu] at hs

theorem p_idxa {x i : Operand} {t len size : Nat} {a : Addr} {k : Int} (hs : arrOf X.P t = some (len, size)) (ho : o.op = .indexAddr t x i) (hx : ρ.ev x = some (.pointer (some a))) (hi : ρ.ev i = some (.int .i64 k))
    (h0 : 0 ≤ k) (h1 : k < len) : RdP X ρ o (.pointer (some (a.add (k.toNat * size)))) := by
  refine ⟨fun c h => (by rw [ho] at h; cases h), fun e w he => ?_⟩
  unfold arrOf at hs
  cases hu : X.P.underlying t with
  | none => simp [hu] at hs
  | some d =>
    cases d with
    | array n el =>
      simp only [hu] at hs
      cases hz : tySize X.P el with
      | none => simp [hz] at hs
      | some z =>
        simp only [hz, Option.map_some, Option.some.injEq, Prod.mk.injEq] at hs
        obtain ⟨rfl, rfl⟩ := hs
        simp [execOp, ho, he _ _ hx, he _ _ hi, Instr.indexAt, asIntOf, run_underlying' hu, h0, h1, run_sizeOf' hz, Instr.sureAddr]
    | _ => simp [hu] at hs

theorem p_len {x : Operand} {t len cap : Nat} {a : Option Addr} (hu : (X.P.underlying t).any (fun d => match d with | .slice _ => true | _ => false) = true)
    (ho : o.op = .call { callee := .builtin .len, args := #[x], argTypes := #[t] }) (hx : ρ.ev x = some (.slice a len cap)) : RdP X ρ o (.int .i64 len) := by
  refine ⟨fun c h => (by rw [ho] at h; cases h), fun e w he => ?_⟩
  cases hd : X.P.underlying t with
  | none => simp [hd] at hu
  | some d =>
    cases d with
    | slice el => simp [execOp, ho, resolve, invoke, builtin, Builtin.len_, he _ _ hx, run_underlying' hd, goInt]
    | _ => simp [hd] at hu

theorem p_lens {x : Operand} {t : Nat} {s : ByteArray} (hu : (X.P.underlying t).any (fun d => match d with | .string => true | _ => false) = true)
    (ho : o.op = .call { callee := .builtin .len, args := #[x], argTypes := #[t] }) (hx : ρ.ev x = some (.string s)) : RdP X ρ o (.int .i64 s.size) := by
  refine ⟨fun c h => (by rw [ho] at h; cases h), fun e w he => ?_⟩
  cases hd : X.P.underlying t with
  | none => simp [hd] at hu
  | some d =>
    cases d with
    | string => simp [execOp, ho, resolve, invoke, builtin, Builtin.len_, he _ _ hx, run_underlying' hd, goInt]
    | _ => simp [hd] at hu

def imin (a b : Int) : Int := if b < a then b else a
def imax (a b : Int) : Int := if b > a then b else a
theorem imin_eq (a b : Int) : imin a b = min a b := by unfold imin; split <;> omega
theorem imax_eq (a b : Int) : imax a b = max a b := by unfold imax; split <;> omega

theorem p_min {x y : Operand} {ty : Array TypeId} {k : IntKind} {a b : Int} (ho : o.op = .call { callee := .builtin .min, args := #[x, y], argTypes := ty }) (hx : ρ.ev x = some (.int k a)) (hy : ρ.ev y = some (.int k b)) :
    RdP X ρ o (.int k (min a b)) := imin_eq a b ▸
  ⟨fun c h => (by rw [ho] at h; cases h), fun e w he => by simp [execOp, ho, resolve, invoke, builtin, Builtin.min_, Builtin.min2, he _ _ hx, he _ _ hy, imin]⟩
theorem p_max {x y : Operand} {ty : Array TypeId} {k : IntKind} {a b : Int} (ho : o.op = .call { callee := .builtin .max, args := #[x, y], argTypes := ty }) (hx : ρ.ev x = some (.int k a)) (hy : ρ.ev y = some (.int k b)) :
    RdP X ρ o (.int k (max a b)) := imax_eq a b ▸
  ⟨fun c h => (by rw [ho] at h; cases h), fun e w he => by simp [execOp, ho, resolve, invoke, builtin, Builtin.max_, Builtin.max2, he _ _ hx, he _ _ hy, imax]⟩
theorem p_min3 {x y z : Operand} {ty : Array TypeId} {k : IntKind} {a b c : Int} (ho : o.op = .call { callee := .builtin .min, args := #[x, y, z], argTypes := ty }) (hx : ρ.ev x = some (.int k a)) (hy : ρ.ev y = some (.int k b))
    (hz : ρ.ev z = some (.int k c)) : RdP X ρ o (.int k (min (min a b) c)) := imin_eq (min a b) c ▸ imin_eq a b ▸
  ⟨fun c h => (by rw [ho] at h; cases h), fun e w he => (by simp [execOp, ho, resolve, invoke, builtin, Builtin.min_, Builtin.min2, he _ _ hx, he _ _ hy, he _ _ hz, imin]; try rfl)⟩
theorem p_max3 {x y z : Operand} {ty : Array TypeId} {k : IntKind} {a b c : Int} (ho : o.op = .call { callee := .builtin .max, args := #[x, y, z], argTypes := ty }) (hx : ρ.ev x = some (.int k a)) (hy : ρ.ev y = some (.int k b))
    (hz : ρ.ev z = some (.int k c)) : RdP X ρ o (.int k (max (max a b) c)) := imax_eq (max a b) c ▸ imax_eq a b ▸
  ⟨fun c h => (by rw [ho] at h; cases h), fun e w he => (by simp [execOp, ho, resolve, invoke, builtin, Builtin.max_, Builtin.max2, he _ _ hx, he _ _ hy, he _ _ hz, imax]; try rfl)⟩

theorem p_ext {x : Operand} {i : Nat} {vs : Array Value} {v : Value} (ho : o.op = .extract x i) (hx : ρ.ev x = some (.tuple vs)) (hv : vs.toList[i]? = some v) : RdP X ρ o v :=
  ⟨fun c h => (by rw [ho] at h; cases h), fun e w he => by
    have : vs[i]? = some v := by simpa using hv
    simp [execOp, ho, he _ _ hx, Instr.extract, this]⟩

theorem p_conv {x : Operand} {s t : TypeId} {k k' : IntKind} {n : Int} {ds : TypeDesc} (hs : X.P.underlying s = some ds) (hu : X.P.underlying t = some (.int k)) (ho : o.op = .convert s t x) (hx : ρ.ev x = some (.int k' n)) : RdP X ρ o (.int k (k.wrap n)) :=
  ⟨fun c h => (by rw [ho] at h; cases h), fun e w he => by
    simp [execOp, ho, he _ _ hx, convert, run_underlying' hs, run_underlying' hu, Conv.intToInt]⟩

/-- operands' values, one by one -/
def evL (ρ : PEnv) : List Operand → Option (List Value)
  | [] => some []
  | x :: l => match ρ.ev x with
    | some v => match evL ρ l with
      | some vs => some (v :: vs)
      | none => none
    | none => none

theorem evL_map {e : Operand → Value} (he : Evs ρ e) : ∀ {l : List Operand} {vs : List Value}, evL ρ l = some vs → l.map e = vs := by
  intro l
  induction l with
  | nil => intro vs h; simp [evL] at h; simp [h]
  | cons x l ih =>
    intro vs h
    simp only [evL] at h
    cases hx : ρ.ev x with
    | none => simp [hx] at h
    | some v =>
      cases hl : evL ρ l with
      | none => simp [hx, hl] at h
      | some us =>
        simp only [hx, hl, Option.some.injEq] at h
        subst h
        simp [he _ _ hx, ih hl]

theorem p_func {fn : Fn} {first captured : Array Operand} {fs cs : List Value} (ho : o.op = .makeFunc fn first captured) (hf : evL ρ first.toList = some fs) (hc : evL ρ captured.toList = some cs) :
    RdP X ρ o (.func fn fs.toArray cs.toArray) :=
  ⟨fun c h => (by rw [ho] at h; cases h), fun e w he => by
    have h1 : first.map e = fs.toArray := Array.toList_inj.1 (by simp [evL_map he hf])
    have h2 : captured.map e = cs.toArray := Array.toList_inj.1 (by simp [evL_map he hc])
    simp [execOp, ho, Instr.makeFunc, h1, h2]⟩
end

end Go.Vc

/- What operations do that read memory, or write it; calls; a function's body. -/
set_option linter.all false
namespace Go.Vc

section
variable {X : Cx} {ρ : PEnv} {ds : List Deferred} {H : Heap} {o : Oper}

/-! ### reading -/

theorem r_load {x : Operand} {t ty b off : Nat} {cs : Array Value} {fr : Nat × Nat} {v : Value} (ha : tyAgg X.P t = some false) (ho : o.op = .load t x) (hx : ρ.ev x = some (.pointer (some ⟨b, off, none⟩)))
    (hm : (b, Obj.cells cs ty fr) ∈ H) (hv : cs.toList[off]? = some v) : RdA X ρ H o v :=
  ⟨fun c h => (by rw [ho] at h; cases h), fun e w he hg => by
    have hc : w.cell? ⟨b, off, none⟩ = some v := by rw [own_cell (hg.own _ hm)]; exact hv
    simp [execOp, ho, he _ _ hx, Instr.loadAt, Instr.sureAddr, run_loadVar ha hc]⟩

theorem r_loadA {x : Operand} {t ty b off n : Nat} {cs : Array Value} {fr : Nat × Nat} {vs : List Value} (ha : tyAgg X.P t = some true) (hs : tySize X.P t = some n) (ho : o.op = .load t x) (hx : ρ.ev x = some (.pointer (some ⟨b, off, none⟩)))
    (hm : (b, Obj.cells cs ty fr) ∈ H) (hv : sliceL cs.toList off n = some vs) : RdA X ρ H o (.agg vs.toArray) :=
  ⟨fun c h => (by rw [ho] at h; cases h), fun e w he hg => by
    obtain ⟨h1, h2⟩ := sliceL_spec hv
    have hc : cellsAt w ⟨b, off, none⟩ vs := by
      intro j v hj
      refine own_cellsAt (hg.own _ hm) off j v ?_
      rw [h1, List.getElem?_take] at hj
      split at hj
      · exact hj
      · cases hj
    simp [execOp, ho, he _ _ hx, Instr.loadAt, Instr.sureAddr, run_loadVar_agg ha hs h2 hc]⟩

theorem r_loadB {x : Operand} {t : Nat} {a : Addr} {v : Value} (ha : tyAgg X.P t = some false) (ho : o.op = .load t x) (hx : ρ.ev x = some (.pointer (some a)))
    (hc : X.w0.cell? a = some v) (hM : a.block ∉ X.M) : RdA X ρ H o v :=
  ⟨fun c h => (by rw [ho] at h; cases h), fun e w he hg => by
    simp [execOp, ho, he _ _ hx, Instr.loadAt, Instr.sureAddr, run_loadVar ha (hg.cell hc hM)]⟩

theorem r_loadBA {x : Operand} {t n : Nat} {a : Addr} {vs : List Value} (ha : tyAgg X.P t = some true) (hs : tySize X.P t = some n) (ho : o.op = .load t x) (hx : ρ.ev x = some (.pointer (some a)))
    (hc : cellsAt X.w0 a vs) (hn : vs.length = n) (hM : a.block ∉ X.M) : RdA X ρ H o (.agg vs.toArray) :=
  ⟨fun c h => (by rw [ho] at h; cases h), fun e w he hg => by
    simp [execOp, ho, he _ _ hx, Instr.loadAt, Instr.sureAddr, run_loadVar_agg ha hs hn (hg.cells hc hM)]⟩

/-! ### writing -/

theorem wr_value {o : Oper} {R : Value → Heap → Prop} (hnd : ∀ c, o.op ≠ .defer c)
    (h : ∀ e w, Evs ρ e → Good X.w0 X.M H w → ∃ v w' H', ((execOp e o).run X.P w = .ok (.value v) w' ∨ (v = undef ∧ (execOp e o).run X.P w = .ok .skip w')) ∧ Good X.w0 X.M H' w' ∧ R v H') : WrA X ρ H o R :=
  ⟨hnd, fun a w he hg => by
    obtain ⟨v, w', H', hr, hg', hR⟩ := h a.eval w he hg
    rcases hr with hr | ⟨rfl, hr⟩
    · rw [hr]; exact ⟨v, H', rfl, hg', hR⟩
    · rw [hr]; exact ⟨undef, H', rfl, hg', hR⟩⟩

theorem w_alloc {t : TypeId} {z : Value} (hz : tyZero X.P t = some z) (ho : o.op = .alloc t) :
    WrA X ρ H o fun v H' => ∃ b, X.w0.heap.size ≤ b ∧ v = .pointer (some ⟨b, 0, none⟩) ∧ H' = (b, .cells z.cells t) :: H :=
  wr_value (fun c h => (by rw [ho] at h; cases h)) fun e w he hg => by
    refine ⟨_, _, _, .inl ?_, hg.alloc (.cells z.cells t), w.heap.size, hg.size, rfl, rfl⟩
    simp [execOp, ho, Instr.alloc, run_zeroValue' hz, newVar, newRow]

theorem w_box {t : TypeId} {x : Operand} {v : Value} (ho : o.op = .box t x) (hx : ρ.ev x = some v) :
    WrA X ρ H o fun u H' => ∃ b, X.w0.heap.size ≤ b ∧ u = .pointer (some ⟨b, 0, none⟩) ∧ H' = (b, .cells v.cells t) :: H :=
  wr_value (fun c h => (by rw [ho] at h; cases h)) fun e w he hg => by
    refine ⟨_, _, _, .inl ?_, hg.alloc (.cells v.cells t), w.heap.size, hg.size, rfl, rfl⟩
    simp [execOp, ho, Instr.box, he _ _ hx, newVar, newRow]

/-- the cells with some of them turned -/
def setL : List Value → Nat → List Value → List Value
  | cs, _, [] => cs
  | cs, off, v :: vs => setL (cs.set off v) (off + 1) vs

theorem run_storeCells {P : Program} {b : Nat} {t : TypeId} : ∀ (vs : List Value) (w : World) (cs : List Value) (k i : Nat), w.heap[b]? = some (.cells cs.toArray t (0, 0)) → k + i + vs.length ≤ cs.length → (∀ v ∈ vs, v.oneCell' = true) →
    ∃ w', (storeCells ⟨b, k, none⟩ vs i).run P w = .ok () w' ∧ w'.heap = w.heap.setIfInBounds b (.cells (setL cs (k + i) vs).toArray t (0, 0)) ∧ SameIO w w' := by
  intro vs
  induction vs with
  | nil =>
    intro w cs k i hb _ _
    refine ⟨w, rfl, ?_, rfl, rfl⟩
    simp only [setL]
    apply Array.ext
    · simp
    · intro j hj _
      rw [Array.getElem_setIfInBounds]
      split
      · rename_i h; subst h
        have := (Array.getElem?_eq_some_iff.1 hb).2
        exact this
      · rfl
  | cons v vs ih =>
    intro w cs k i hb hlen hone
    simp only [List.length_cons] at hlen
    have hcell : w.cell? ⟨b, k + i, none⟩ = some (cs[k + i]'(by omega)) := by rw [own_cell hb]; simp
    have hfr : w.frozen? ⟨b, k + i, none⟩ = false := by simp [World.frozen?, hb]
    have hst : (store ((⟨b, k, none⟩ : Addr).add i) v).run P w = .ok () (w.setCell ⟨b, k + i, none⟩ v) := by
      rw [add_none, run_store P w _ v .plain (hone v (.head _)), hcell]
      simp [hfr]
    have hheap : (w.setCell ⟨b, k + i, none⟩ v).heap = w.heap.setIfInBounds b (.cells (cs.set (k + i) v).toArray t (0, 0)) := by
      simp only [World.setCell]
      apply Array.ext
      · simp
      · intro j hj _
        have hjb : j < w.heap.size := by simpa using hj
        rw [Array.getElem_modify, Array.getElem_setIfInBounds]
        split
        · rename_i h
          subst h
          have := (Array.getElem?_eq_some_iff.1 hb).2
          simp [this]
        · rfl
    have hb' : (w.setCell ⟨b, k + i, none⟩ v).heap[b]? = some (.cells (cs.set (k + i) v).toArray t (0, 0)) := by
      rw [hheap]; simp [lt_of_some hb]
    obtain ⟨w', hr, hh, hio⟩ := ih (w.setCell ⟨b, k + i, none⟩ v) (cs.set (k + i) v) k (i + 1) hb' (by simp; omega) (fun u hu => hone u (.tail _ hu))
    refine ⟨w', ?_, ?_, SameIO.trans (b := w.setCell ⟨b, k + i, none⟩ v) ⟨rfl, rfl⟩ hio⟩
    · simp only [storeCells, Sem.run_bind, hst, Result.andThen_ok, hr]
    · rw [hh, hheap, Array.setIfInBounds_setIfInBounds]; simp only [setL]; rw [Nat.add_assoc]

theorem run_storeVar {P : Program} {b : Nat} {t ty : TypeId} {v : Value} {w : World} {cs : Array Value} {off n : Nat} (hs : tySize P t = some n) (hb : w.heap[b]? = some (.cells cs ty (0, 0))) (hn : v.cells.toList.length = n)
    (hl : off + n ≤ cs.toList.length) (hone : ∀ u ∈ v.cells.toList, u.oneCell' = true) :
    ∃ w', (storeVar t ⟨b, off, none⟩ v).run P w = .ok () w' ∧ w'.heap = w.heap.setIfInBounds b (.cells (setL cs.toList off v.cells.toList).toArray ty (0, 0)) ∧ SameIO w w' := by
  obtain ⟨w', hr, hh, hio⟩ := run_storeCells (P := P) (t := ty) v.cells.toList w cs.toList off 0 (by simpa using hb) (by omega) hone
  refine ⟨w', ?_, by simpa using hh, hio⟩
  have : v.cells.size = n := by simpa using hn
  simp [storeVar, run_sizeOf' hs, this, hr]

def oneL : List Value → Bool
  | [] => true
  | v :: l => v.oneCell' && oneL l

theorem oneL_spec {l : List Value} (h : oneL l = true) : ∀ v ∈ l, v.oneCell' = true := by
  induction l with
  | nil => intro v hv; cases hv
  | cons u l ih =>
    simp only [oneL, Bool.and_eq_true] at h
    intro v hv
    rcases List.mem_cons.1 hv with rfl | hv
    · exact h.1
    · exact ih h.2 v hv

theorem w_store {x y : Operand} {t ty b off n : Nat} {cs : Array Value} {v : Value} {cs' : List Value} {H' : Heap} (hs : tySize X.P t = some n) (ho : o.op = .store t x y) (hx : ρ.ev x = some (.pointer (some ⟨b, off, none⟩)))
    (hy : ρ.ev y = some v) (hn : v.cells.toList.length = n) (hone : oneL v.cells.toList = true) (hset : SetAt H b (.cells cs ty) (.cells cs'.toArray ty) H') (hl : off + n ≤ cs.toList.length) (hcs : setL cs.toList off v.cells.toList = cs') :
    WrA X ρ H o fun u H'' => u = undef ∧ H'' = H' :=
  wr_value (fun c h => (by rw [ho] at h; cases h)) fun e w he hg => by
    subst hcs
    obtain ⟨w', hr, hh, hio⟩ := run_storeVar (P := X.P) (t := t) (off := off) (v := v) hs (hg.own _ hset.mem) hn hl (oneL_spec hone)
    refine ⟨undef, w', H', .inr ⟨rfl, ?_⟩, hg.set hset hh hio, rfl, rfl⟩
    simp [execOp, ho, he _ _ hx, he _ _ hy, Instr.storeAt, Instr.sureAddr, hr]

theorem w_map {t : TypeId} (ho : o.op = .makeMap t none) : WrA X ρ H o fun v H' => ∃ b, X.w0.heap.size ≤ b ∧ v = .map (some b) ∧ H' = (b, .map #[] 0) :: H :=
  wr_value (fun c h => (by rw [ho] at h; cases h)) fun e w he hg => by
    refine ⟨_, _, _, .inl ?_, hg.alloc (.map #[] 0), w.heap.size, hg.size, rfl, rfl⟩
    simp [execOp, ho, Instr.makeMap]

/-! ### struct and slice literals -/

def splice (cs : List Value) (off : Nat) (vs : List Value) : List Value := cs.take off ++ vs ++ cs.drop (off + vs.length)

def fillL (pl : List (Nat × Nat)) : List Value → List (Nat × Value) → Option (List Value)
  | cs, [] => some cs
  | cs, (i, v) :: r => match pl[i]? with
    | none => none
    | some (off, size) => bif Nat.beq v.cells.toList.length size && Nat.ble (off + size) cs.length then fillL pl (splice cs off v.cells.toList) r else none

theorem fold_splice : ∀ (vs : List Value) (cs : List Value) (off k : Nat), off + k + vs.length ≤ cs.length →
    ((vs.zipIdx k).foldl (fun (cs : Array Value) (p : Value × Nat) => cs.setIfInBounds (off + p.2) p.1) cs.toArray) = (splice cs (off + k) vs).toArray := by
  intro vs
  induction vs with
  | nil => intro cs off k _; simp [splice]
  | cons v vs ih =>
    intro cs off k h
    simp only [List.length_cons] at h
    simp only [List.zipIdx_cons, List.foldl_cons, List.setIfInBounds_toArray]
    rw [ih (cs.set (off + k) v) off (k + 1) (by simp; omega)]
    congr 1
    simp only [splice]
    apply List.ext_getElem?
    intro j
    simp only [List.getElem?_append, List.length_append, List.length_take, List.length_set, List.length_cons, List.getElem?_take, List.getElem?_drop, List.getElem?_set]
    by_cases h1 : j < off + k
    · have a1 : j < min (off + (k + 1)) cs.length := by omega
      have a2 : j < min (off + (k + 1)) cs.length + vs.length := by omega
      have a3 : j < min (off + k) cs.length := by omega
      have a4 : j < min (off + k) cs.length + (vs.length + 1) := by omega
      have a5 : j < off + (k + 1) := by omega
      have a6 : ¬ (off + k = j) := by omega
      simp [a1, a2, a3, a4, a5, a6, h1]
    · by_cases h2 : j = off + k
      · subst h2
        have a1 : off + k < min (off + (k + 1)) cs.length := by omega
        have a2 : off + k < min (off + (k + 1)) cs.length + vs.length := by omega
        have a3 : ¬ (off + k < min (off + k) cs.length) := by omega
        have a4 : off + k < min (off + k) cs.length + (vs.length + 1) := by omega
        have a5 : off + k < off + (k + 1) := by omega
        have a6 : off + k < cs.length := by omega
        have a7 : off + k - min (off + k) cs.length = 0 := by omega
        simp [a1, a2, a3, a4, a5, a6, a7]
      · by_cases h3 : j < off + k + 1 + vs.length
        · have a1 : ¬ (j < min (off + (k + 1)) cs.length) := by omega
          have a2 : j < min (off + (k + 1)) cs.length + vs.length := by omega
          have a3 : ¬ (j < min (off + k) cs.length) := by omega
          have a4 : j < min (off + k) cs.length + (vs.length + 1) := by omega
          have a5 : j - min (off + k) cs.length = (j - min (off + (k + 1)) cs.length) + 1 := by omega
          simp [a1, a2, a3, a4, a5]
        · have a2 : ¬ (j < min (off + (k + 1)) cs.length + vs.length) := by omega
          have a4 : ¬ (j < min (off + k) cs.length + (vs.length + 1)) := by omega
          have a5 : off + (k + 1) + vs.length + (j - (min (off + (k + 1)) cs.length + vs.length)) = off + k + (vs.length + 1) + (j - (min (off + k) cs.length + (vs.length + 1))) := by omega
          have a6 : ¬ (off + k = off + k + (vs.length + 1) + (j - (min (off + k) cs.length + (vs.length + 1)))) := by omega
          simp only [a2, a4, if_false, a5]
          rw [if_neg a6]

theorem fillL_fill {pl : List (Nat × Nat)} {place : Nat → Option (Nat × Nat)} (hp : ∀ i x, pl[i]? = some x → place i = some x) : ∀ (ps : List (Nat × Value)) (cs r : List Value), fillL pl cs ps = some r → Instr.fill place cs.toArray ps = some r.toArray := by
  intro ps
  induction ps with
  | nil => intro cs r h; simp only [fillL, Option.some.injEq] at h; subst h; rfl
  | cons p ps ih =>
    intro cs r h
    obtain ⟨i, v⟩ := p
    simp only [fillL] at h
    cases hi : pl[i]? with
    | none => simp [hi] at h
    | some q =>
      obtain ⟨off, size⟩ := q
      simp only [hi] at h
      cases hb : (Nat.beq v.cells.toList.length size && Nat.ble (off + size) cs.length) with
      | false => rw [hb] at h; cases h
      | true =>
        rw [hb, cond_true] at h
        rw [Bool.and_eq_true] at hb
        have h1 : v.cells.size = size := by have := Nat.eq_of_beq_eq_true hb.1; simpa using this
        have h2 := Nat.le_of_ble_eq_true hb.2
        simp only [Instr.fill, hp i _ hi]
        have hc : ¬ ((v.cells.size ≠ size) ∨ (off + v.cells.size > cs.toArray.size)) := by simp [h1]; omega
        have hc' : (decide (v.cells.size ≠ size) || decide (off + v.cells.size > cs.toArray.size)) = false := by simp [h1]; omega
        have hf := fold_splice v.cells.toList cs off 0 (by simp [h1]; omega)
        rw [Nat.add_zero] at hf
        have := ih _ _ h
        simp only [← Array.foldl_toList, Array.toList_zipIdx] at *
        rw [show (v.cells.toList.zipIdx).foldl (fun (cs : Array Value) (x : Value × Nat) => cs.setIfInBounds (off + x.2) x.1) cs.toArray = (splice cs off v.cells.toList).toArray from hf]
        simp only [h1, ne_eq, not_true_eq_false, decide_false, Bool.false_or, decide_eq_true_eq]
        rw [if_neg (by simp; omega)]
        exact this


theorem run_mapM_pure {α β : Type} {P : Program} {f : α → Sem β} {g : α → Option β} : ∀ (l : List α) (r : List β), l.mapM g = some r → (∀ x y, g x = some y → ∀ w, (f x).run P w = .ok y w) → ∀ w, (l.mapM f).run P w = .ok r w := by
  intro l
  induction l with
  | nil => intro r h _ w; simp at h; subst h; simp
  | cons x l ih =>
    intro r h hf w
    simp only [List.mapM_cons] at h ⊢
    cases hx : g x with
    | none => simp [hx] at h
    | some y =>
      cases hl : l.mapM g with
      | none => simp [hx, hl] at h
      | some ys =>
        simp [hx, hl] at h
        subst h
        simp [hf x y hx w, ih ys hl hf w]

theorem run_places {P : Program} {t : TypeId} {fs : Array Field} {pl : List (Nat × Nat)} (hu : P.underlying t = some (.struct fs)) (hp : placesOf P t = some pl) (w : World) :
    (fs.mapM fun f => do pure (f.offset, ← sizeOf f.type) : Sem (Array (Nat × Nat))).run P w = .ok pl.toArray w := by
  simp only [placesOf, hu] at hp
  rw [Array.mapM_eq_mapM_toList]
  have := run_mapM_pure (P := P) (f := fun f : Field => (do pure (f.offset, ← sizeOf f.type) : Sem (Nat × Nat))) fs.toList pl hp (fun f y hy w => by
    cases hs : tySize P f.type with
    | none => simp [hs] at hy
    | some n => simp [hs] at hy; subst hy; simp [run_sizeOf' hs]) w
  rw [Sem.run_map, this]
  rfl

theorem evP_map {e : Operand → Value} (he : Evs ρ e) : ∀ {l : List (Nat × Operand)} {vs : List Value}, evL ρ (l.map (·.2)) = some vs → (l.map fun p => (p.1, e p.2)) = (l.map (·.1)).zip vs := by
  intro l
  induction l with
  | nil => intro vs h; simp
  | cons x l ih =>
    intro vs h
    simp only [List.map_cons, evL] at h
    cases hx : ρ.ev x.2 with
    | none => simp [hx] at h
    | some v =>
      cases hl : evL ρ (l.map (·.2)) with
      | none => simp [hx, hl] at h
      | some us =>
        simp only [hx, hl, Option.some.injEq] at h
        subst h
        simp [he _ _ hx, ih hl]

theorem map_parts {e : Operand → Value} (ps : Array (Nat × Operand)) : (ps.map fun (i, x) => (i, e x)).toList = ps.toList.map fun p => (p.1, e p.2) := by simp

theorem p_build {t : TypeId} {ps : Array (Nat × Operand)} {pl : List (Nat × Nat)} {z : Value} {vs r : List Value} (hp : placesOf X.P t = some pl) (hz : tyZero X.P t = some z) (ho : o.op = .build t ps)
    (hv : evL ρ (ps.toList.map (·.2)) = some vs) (hf : fillL pl z.cells.toList ((ps.toList.map (·.1)).zip vs) = some r) : RdP X ρ o (.agg r.toArray) := by
  refine ⟨fun c h => (by rw [ho] at h; cases h), fun e w he => ?_⟩
  cases hu : X.P.underlying t with
  | none => simp [placesOf, hu] at hp
  | some d =>
    cases d with
    | struct fs =>
      have h1 := run_places hu hp w
      have h2 := fillL_fill (place := (pl.toArray[·]?)) (fun i x h => by simpa using h) _ _ _ hf
      rw [← evP_map he hv, ← map_parts] at h2
      simp only [Array.toArray_toList] at h2
      simp only [execOp, ho, Instr.build, Sem.run_bind, run_zeroValue' hz, Result.andThen_ok, run_underlying' hu, h1, h2]
      simp
    | _ => simp [placesOf, hu] at hp

/-- places of an array's elements -/
def arrPl (n size : Nat) : List (Nat × Nat) := (List.range n).map fun i => (i * size, size)

theorem p_buildA {t n size : Nat} {ps : Array (Nat × Operand)} {z : Value} {vs r : List Value} (hs : arrOf X.P t = some (n, size)) (hz : tyZero X.P t = some z) (ho : o.op = .build t ps)
    (hv : evL ρ (ps.toList.map (·.2)) = some vs) (hf : fillL (arrPl n size) z.cells.toList ((ps.toList.map (·.1)).zip vs) = some r) : RdP X ρ o (.agg r.toArray) := by
  refine ⟨fun c h => (by rw [ho] at h; cases h), fun e w he => ?_⟩
  unfold arrOf at hs
  cases hu : X.P.underlying t with
  | none => simp [hu] at hs
  | some d =>
    cases d with
    | array m el =>
      simp only [hu] at hs
      cases hsz : tySize X.P el with
      | none => simp [hsz] at hs
      | some s0 =>
        simp only [hsz, Option.map_some, Option.some.injEq, Prod.mk.injEq] at hs
        obtain ⟨rfl, rfl⟩ := hs
        have h2 := fillL_fill (place := fun i => some (i * s0, s0)) (fun i x h => by
          simp only [arrPl, List.getElem?_map] at h
          cases hr : (List.range m)[i]? with
          | none => simp [hr] at h
          | some j =>
            rw [hr] at h
            have : j = i := by rw [List.getElem?_range (by have := List.getElem?_eq_some_iff.1 hr; simpa using this.1)] at hr; exact (Option.some.inj hr).symm
            subst this; simpa using h) _ _ _ hf
        rw [← evP_map he hv, ← map_parts] at h2
        simp only [Array.toArray_toList] at h2
        simp only [execOp, ho, Instr.build, Sem.run_bind, run_zeroValue' hz, Result.andThen_ok, run_underlying' hu, run_sizeOf' hsz, h2]
        simp
    | _ => simp [hu] at hs

/-- the zero cells of n elements -/
def zeros (z : List Value) : Nat → List Value
  | 0 => []
  | n + 1 => z ++ zeros z n

theorem zeros_length (z : List Value) (n : Nat) : (zeros z n).length = n * z.length := by
  induction n with
  | zero => simp [zeros]
  | succ n ih => simp [zeros, ih, Nat.add_mul, Nat.add_comm]

theorem zeros_get (z : List Value) (hz : 0 < z.length) : ∀ (n i : Nat), i < n * z.length → (zeros z n)[i]? = z[i % z.length]? := by
  intro n
  induction n with
  | zero => intro i h; omega
  | succ n ih =>
    intro i h
    simp only [zeros, List.getElem?_append]
    split
    · rename_i h1; rw [Nat.mod_eq_of_lt h1]
    · rename_i h1
      have h' : i < n * z.length + z.length := by rw [Nat.succ_mul] at h; exact h
      rw [ih (i - z.length) (by omega)]
      congr 1
      exact (Nat.mod_eq_sub_mod (by omega)).symm

theorem zeros_eq (z : Array Value) (n size : Nat) (hz : z.size = size) (h0 : 0 < size) : ((Array.range (n * size)).map (z[· % z.size]!)) = (zeros z.toList n).toArray := by
  apply Array.toList_inj.1
  apply List.ext_getElem?
  intro i
  simp only [Array.toList_map, Array.toList_range, List.getElem?_map]
  by_cases hi : i < n * size
  · rw [List.getElem?_range hi, zeros_get z.toList (by simp; omega) n i (by simp [hz]; omega)]
    have hlt : i % size < z.size := by rw [hz]; exact Nat.mod_lt _ h0
    simp only [Option.map_some, Array.length_toList, hz]
    rw [getElem!_pos z (i % size) hlt]
    simp [hlt]
  · rw [List.getElem?_eq_none (by simp; omega), List.getElem?_eq_none (by simp [zeros_length, hz]; omega)]
    rfl

theorem w_slice {t n size el : Nat} {ps : Array (Nat × Operand)} {z : Value} {vs r : List Value} (hu : X.P.underlying t = some (.slice el)) (hs : tySize X.P el = some size) (hz : tyZero X.P el = some z) (hzs : z.cells.size = size) (h0 : 0 < size) (ho : o.op = .buildSlice t n ps)
    (hn : n * size ≤ 2 ^ 24) (hv : evL ρ (ps.toList.map (·.2)) = some vs) (hf : fillL (arrPl n size) (zeros z.cells.toList n) ((ps.toList.map (·.1)).zip vs) = some r) :
    WrA X ρ H o fun v H' => ∃ b, X.w0.heap.size ≤ b ∧ v = .slice (some ⟨b, 0, none⟩) n n ∧ H' = (b, .cells r.toArray el) :: H :=
  wr_value (fun c h => (by rw [ho] at h; cases h)) fun e w he hg => by
    have h2 := fillL_fill (place := fun i => some (i * size, size)) (fun i x h => by
      simp only [arrPl, List.getElem?_map] at h
      cases hr : (List.range n)[i]? with
      | none => simp [hr] at h
      | some j =>
        rw [hr] at h
        have : j = i := by rw [List.getElem?_range (by have := List.getElem?_eq_some_iff.1 hr; simpa using this.1)] at hr; exact (Option.some.inj hr).symm
        subst this; simpa using h) _ _ _ hf
    rw [← evP_map he hv, ← map_parts] at h2
    simp only [Array.toArray_toList] at h2
    refine ⟨_, _, _, .inl ?_, hg.alloc (.cells r.toArray el), w.heap.size, hg.size, rfl, rfl⟩
    have hbig : ¬ (n * size > 2 ^ 24) := by omega
    simp only [execOp, ho, Instr.buildSlice, Sem.run_bind, run_underlying' hu, Result.andThen_ok, run_sizeOf' hs, hbig, if_false]
    by_cases hz0 : n * size = 0
    · have hn0 : n = 0 := by rcases Nat.mul_eq_zero.1 hz0 with h | h <;> omega
      subst hn0
      have hx : ∀ f : Nat → Value, (Array.range (0 * size)).map f = (zeros z.cells.toList 0).toArray := fun f => by simp [zeros]
      rw [if_pos hz0]
      simp only [Sem.run_pure, Result.andThen_ok, hx, h2]
      simp [newRow]
    · rw [if_neg hz0]
      simp only [Sem.run_bind, run_zeroValue' hz, Result.andThen_ok, Sem.run_pure, zeros_eq z.cells n size hzs h0, h2]
      simp [newRow]

end

end Go.Vc

/- Functions: their bodies, their calls; ranges over functions. -/
set_option linter.all false
namespace Go.Vc

/-! ### what a call comes to -/

def Ent (P : Program) (f : FuncId) : Prop := ∀ args w, (callFunc f args).run P w = .ok (.enter f args) w

theorem ent_of {P : Program} {f : FuncId} {fn : Func} {c : Code} (hf : P.funcs[f]? = some fn) (hname : (fn.name == "runtime.NumGoroutine") = false) (hb : fn.body = some c) : Ent P f := by
  intro args w
  have h1 : ¬ fn.name = "runtime.NumGoroutine" := by simpa using hname
  simp [callFunc, hf, h1, hb]

/-- The call returns, and R holds of what it returns and of the world that it leaves. -/
structure FnC (P : Program) (f : FuncId) (args : List Value) (w : World) (R : Value → World → Prop) : Prop where
  ent : Ent P f
  calls : CallsIn (FW none) 0 P f args.toArray w fun e w' => ∃ v, e = .returned v ∧ R v w'

theorem FnC.mono {P : Program} {f : FuncId} {args : List Value} {w : World} {R R' : Value → World → Prop} (h : FnC P f args w R) (hr : ∀ v w', R v w' → R' v w') : FnC P f args w R' :=
  ⟨h.ent, h.calls.mono fun _ _ ⟨v, he, hv⟩ => ⟨v, he, hr v _ hv⟩⟩

/-- It returns v, and leaves all that lay as it was: in every world that reads as w does. -/
def FnP (P : Program) (f : FuncId) (args : List Value) (w : World) (v : Value) : Prop := FnC P f args w fun u w' => u = v ∧ Ext w w'

/-! ### the end of a body -/

inductive ResL (P : Program) (ρ : PEnv) (H : Heap) : List ResultVar → List Value → Prop
  | nil : ResL P ρ H [] []
  | tmp {t : Tmp} {v : Value} {rs : List ResultVar} {vs : List Value} (h : ρ.get t = some v) (r : ResL P ρ H rs vs) : ResL P ρ H (.tmp t :: rs) (v :: vs)
  | cell {t ty b off et : Nat} {cs : Array Value} {fr : Nat × Nat} {v : Value} {rs : List ResultVar} {vs : List Value} (h : ρ.get t = some (.pointer (some ⟨b, off, none⟩))) (ha : tyAgg P ty = some false)
      (hm : (b, Obj.cells cs et fr) ∈ H) (hv : cs.toList[off]? = some v) (r : ResL P ρ H rs vs) : ResL P ρ H (.cell t ty :: rs) (v :: vs)
  | cellA {t ty b off et n : Nat} {cs : Array Value} {fr : Nat × Nat} {us : List Value} {rs : List ResultVar} {vs : List Value} (h : ρ.get t = some (.pointer (some ⟨b, off, none⟩))) (ha : tyAgg P ty = some true) (hs : tySize P ty = some n)
      (hm : (b, Obj.cells cs et fr) ∈ H) (hv : sliceL cs.toList off n = some us) (r : ResL P ρ H rs vs) : ResL P ρ H (.cell t ty :: rs) (.agg us.toArray :: vs)

def tup : List Value → Value
  | [v] => v
  | vs => .tuple vs.toArray

theorem own_slice {w : World} {b off n : Nat} {cs : Array Value} {t : TypeId} {fr : Nat × Nat} {vs : List Value} (h : w.heap[b]? = some (.cells cs t fr)) (hv : sliceL cs.toList off n = some vs) : cellsAt w ⟨b, off, none⟩ vs ∧ vs.length = n := by
  obtain ⟨h1, h2⟩ := sliceL_spec hv
  refine ⟨fun j v hj => own_cellsAt h off j v ?_, h2⟩
  rw [h1, List.getElem?_take] at hj
  split at hj
  · exact hj
  · cases hj

theorem tmps_getD {xs : Array Value} {t : Nat} {v : Value} (h : xs[t]? = some v) : xs.getD t undef = v := by rw [Array.getD_eq_getD_getElem?, h]; rfl

theorem resL_run {P : Program} {ρ : PEnv} {ds : List Deferred} {n : Nat} {H : Heap} {w0 w : World} {M : List Nat} {a : Act} (ha : Agr n ρ ds a) (hg : Good w0 M H w) {rs : List ResultVar} {vs : List Value} (h : ResL P ρ H rs vs)
    (f : ResultVar → Sem Value) (h1 : ∀ t, f (.tmp t) = pure (a.tmps.getD t undef)) (h2 : ∀ p t, f (.cell p t) = do loadVar t (← asAddr (a.tmps.getD p undef))) :
    (rs.mapM f).run P w = .ok vs w := by
  induction h with
  | nil => simp
  | tmp h r ih =>
    have := ha.at_ _ _ h
    have e := tmps_getD this
    simp only [List.mapM_cons, Sem.run_bind, h1, Sem.run_pure, Result.andThen_ok, e, ih]
  | cell h hag hm hv r ih =>
    have := ha.at_ _ _ h
    have hc := (own_cell (hg.own _ hm) _).trans hv
    have e := tmps_getD this
    simp only [List.mapM_cons, Sem.run_bind, h2, Sem.run_pure, Result.andThen_ok, e, ih, asAddr]
    simp [run_loadVar hag hc, ih]
  | cellA h hag hs hm hv r ih =>
    have := ha.at_ _ _ h
    obtain ⟨hc', h2'⟩ := own_slice (hg.own _ hm) hv
    have e := tmps_getD this
    simp only [List.mapM_cons, Sem.run_bind, h2, Sem.run_pure, Result.andThen_ok, e, ih, asAddr]
    simp [run_loadVar_agg hag hs h2' hc', ih]

theorem results_run {P : Program} {ρ : PEnv} {ds : List Deferred} {n : Nat} {H : Heap} {w0 w : World} {M : List Nat} {a : Act} (ha : Agr n ρ ds a) (hg : Good w0 M H w) {fn : Func} {rs : List ResultVar} {vs : List Value} (hr : fn.results = rs.toArray) (h : ResL P ρ H rs vs) :
    (results fn a.tmps).run P w = .ok (tup vs) w := by
  unfold results
  rw [hr, List.mapM_toArray]
  simp only [Sem.run_bind, Sem.run_map]
  rw [resL_run ha hg h _ (fun t => rfl) (fun p t => rfl)]
  simp only [Result.andThen_ok, Sem.run_pure]
  congr 1
  match vs with
  | [] => rfl
  | [v] => rfl
  | _ :: _ :: _ => rfl

/-- Marks of loops over functions, each with its block, are cleared one by one; then the results are read. -/
inductive Leave (P : Program) (rs : List ResultVar) (R : Value → Heap → Prop) (ρ : PEnv) : List Deferred → Heap → Prop
  | nil {H : Heap} {vs : List Value} (h : ResL P ρ H rs vs) (hR : R (tup vs) H) : Leave P rs R ρ [] H
  | mark {D : Nat} {ds : List Deferred} {H H' : Heap} (hs : SetAt H D (.deferred (some [])) (.deferred none) H') (h : Leave P rs R ρ ds H') : Leave P rs R ρ ({ target := .collected D, args := #[] } :: ds) H

def RetQ (P : Program) (rs : List ResultVar) (R : Value → Heap → Prop) : Post := fun e ρ ds H => match e with
  | .normal => Leave P rs R ρ ds H
  | .ret => Leave P rs R ρ ds H
  | _ => False

theorem leave_leaves {P : Program} {rs : List ResultVar} {R : Value → Heap → Prop} {ρ : PEnv} {n : Nat} {w0 : World} {M : List Nat} {fn : Func} (hr : fn.results = rs.toArray) {a : Act} {ds0 : List Deferred} (ha : Agr n ρ ds0 a) :
    ∀ {ds : List Deferred} {H : Heap}, Leave P rs R ρ ds H → ∀ w, Good w0 M H w → LeavesInM (FW none) 0 P fn a.tmps (fun e w' => ∃ v, e = .returned v ∧ ∃ H, Good w0 M H w' ∧ R v H) ds .returning w := by
  intro ds H h
  induction h with
  | nil h hR => exact fun w hg => ⟨_, results_run ha hg hr h, _, rfl, _, hg, hR⟩
  | mark hs h ih =>
    intro w hg
    refine ⟨by simp, .inl ⟨_, _, rfl, run_takeDeferred (hg.own _ hs.mem), ih _ (hg.set hs rfl ⟨rfl, rfl⟩)⟩⟩

def argEnv : List Value → Nat → PEnv
  | [], _ => []
  | v :: l, k => (k, v) :: argEnv l (k + 1)

theorem argEnv_get : ∀ (l : List Value) (k t : Nat) (v : Value), (argEnv l k).get t = some v → ∃ j, t = k + j ∧ l[j]? = some v := by
  intro l
  induction l with
  | nil => intro k t v h; simp [argEnv, PEnv.get] at h
  | cons u l ih =>
    intro k t v h
    simp only [argEnv, PEnv.get] at h
    cases hb : Nat.beq k t with
    | true => rw [hb] at h; exact ⟨0, by have := Nat.eq_of_beq_eq_true hb; omega, by simpa using h⟩
    | false =>
      rw [hb] at h
      obtain ⟨j, e, hj⟩ := ih (k + 1) t v h
      exact ⟨j + 1, by omega, by simpa using hj⟩

theorem entryAgr {args : List Value} {n : Nat} (hn : args.length ≤ n) : Agr n (argEnv args 0) [] { tmps := args.toArray ++ Array.replicate (n - args.toArray.size) undef, defers := [] } := by
  refine ⟨fun t v h => ?_, by simp; omega, rfl⟩
  obtain ⟨j, e, hj⟩ := argEnv_get args 0 t v h
  have hlt : j < args.length := (List.getElem?_eq_some_iff.1 hj).1
  rw [Nat.zero_add] at e
  subst e
  rw [Array.getElem?_append_left (by simpa using hlt)]
  simpa using hj

/-- A function's contract from its body. -/
theorem fn_body {P : Program} {f : FuncId} {fn : Func} {c : Code} {args : List Value} {w : World} {M : List Nat} {H0 : Heap} {n : Nat} {rs : List ResultVar} {R : Value → Heap → Prop}
    (hf : P.funcs[f]? = some fn) (hb : fn.body = some c) (hname : (fn.name == "runtime.NumGoroutine") = false) (hn : fn.ntmps = n) (hr : fn.results = rs.toArray) (hl : Nat.ble args.length n = true) (hg : Good w M H0 w)
    (h : V ⟨P, none, n, w, M⟩ c (argEnv args 0) [] H0 (RetQ P rs R)) : FnC P f args w fun v w' => ∃ H, Good w M H w' ∧ R v H := by
  refine ⟨ent_of hf hname hb, callsIn_of_wp_marks hf hb trivial ?_⟩
  subst hn
  refine wpIn_mono (h _ w (entryAgr (Nat.le_of_ble_eq_true hl)) hg) ?_
  rintro e a w' ⟨ρ, ds, H, ha, hg', hq⟩
  cases e with
  | normal => rw [show bodyPostM (FW none) 0 P fn _ .normal a w' = LeavesInM _ _ _ _ _ _ _ _ _ from rfl, ha.defers]; exact leave_leaves hr ha hq w' hg'
  | ret => rw [show bodyPostM (FW none) 0 P fn _ .ret a w' = LeavesInM _ _ _ _ _ _ _ _ _ from rfl, ha.defers]; exact leave_leaves hr ha hq w' hg'
  | _ => exact hq.elim

theorem fn_pure {P : Program} {f : FuncId} {fn : Func} {c : Code} {args : List Value} {w : World} {n : Nat} {rs : List ResultVar} {v : Value}
    (hf : P.funcs[f]? = some fn) (hb : fn.body = some c) (hname : (fn.name == "runtime.NumGoroutine") = false) (hn : fn.ntmps = n) (hr : fn.results = rs.toArray) (hl : Nat.ble args.length n = true)
    (h : V ⟨P, none, n, w, []⟩ c (argEnv args 0) [] [] (RetQ P rs fun u _ => u = v)) : FnP P f args w v :=
  (fn_body hf hb hname hn hr hl (Good.start w) h).mono fun u w' ⟨_, hg, he⟩ => ⟨he, hg.toExt⟩

/-! ### calls -/

section
variable {X : Cx} {ρ : PEnv} {ds : List Deferred} {H : Heap} {o : Oper}

theorem callsIn_any {r : Option Nat} {P : Program} {f : FuncId} {args : Array Value} {w : World} {R : Ending → World → Prop} (h : CallsIn (FW none) 0 P f args w R) : CallsIn (FW r) 0 P f args w R := h

theorem wr_call {fo : Operand} {ags : Array Operand} {tys : Array TypeId} {f : FuncId} {cap : Array Value} {vs : List Value} {R : Value → Heap → Prop} (ho : o.op = .call { callee := .value fo, args := ags, argTypes := tys })
    (hf : ρ.ev fo = some (.func (.func f) #[] cap)) (hv : evL ρ ags.toList = some vs)
    (h : ∀ w, Good X.w0 X.M H w → FnC X.P f (vs ++ cap.toList) w fun v w' => ∃ H', Good X.w0 X.M H' w' ∧ R v H') : WrA X ρ H o R := by
  refine ⟨fun c hc => (by rw [ho] at hc; cases hc), fun a w he hg => ?_⟩
  have hc := h w hg
  have hargs : ags.map a.eval = vs.toArray := Array.toList_inj.1 (by simp [evL_map he hv])
  have hrun : (execOp a.eval o).run X.P w = .ok (.enter f (vs ++ cap.toList).toArray) w := by
    have e1 : #[] ++ vs.toArray ++ cap = (vs ++ cap.toList).toArray := by simp
    simp only [execOp, ho, resolve, he _ _ hf, hargs, Deferred.ofValue, Sem.run_bind, Sem.run_pure, Result.andThen_ok, invoke, e1]
    exact hc.ent _ w
  rw [hrun]
  refine ⟨fun hd => (by simp [FW, Fence.wide] at hd), callsIn_any (hc.calls.mono ?_)⟩
  rintro e w' ⟨v, rfl, H', hg', hR⟩
  exact ⟨v, H', rfl, hg', hR⟩

/-- A call that computes. -/
theorem w_callP {fo : Operand} {ags : Array Operand} {tys : Array TypeId} {f : FuncId} {cap : Array Value} {vs : List Value} {v : Value} (ho : o.op = .call { callee := .value fo, args := ags, argTypes := tys })
    (hf : ρ.ev fo = some (.func (.func f) #[] cap)) (hv : evL ρ ags.toList = some vs) (h : ∀ w, Good X.w0 X.M H w → FnP X.P f (vs ++ cap.toList) w v) : WrA X ρ H o fun u H' => u = v ∧ H' = H :=
  wr_call ho hf hv fun w hg => (h w hg).mono fun _ _ ⟨hu, he⟩ => ⟨H, hg.ext he, hu, rfl⟩

/-- A call that makes memory: what it hands over is owned from then on. -/
theorem w_callN {fo : Operand} {ags : Array Operand} {tys : Array TypeId} {f : FuncId} {cap : Array Value} {vs : List Value} {R : Value → Heap → Prop} (ho : o.op = .call { callee := .value fo, args := ags, argTypes := tys })
    (hf : ρ.ev fo = some (.func (.func f) #[] cap)) (hv : evL ρ ags.toList = some vs) (h : ∀ w, Good X.w0 X.M H w → FnC X.P f (vs ++ cap.toList) w fun v w' => ∃ Hc, Good w [] Hc w' ∧ R v Hc) :
    WrA X ρ H o fun u H' => ∃ Hc, H' = Hc ++ H ∧ (∀ p ∈ Hc, X.w0.heap.size ≤ p.1) ∧ R u Hc :=
  wr_call ho hf hv fun w hg => (h w hg).mono fun v w' ⟨Hc, hgc, hR⟩ => by
    have hnew : ∀ p ∈ Hc, w.heap.size ≤ p.1 := fun p hp => by
      rcases Nat.lt_or_ge p.1 w.heap.size with hlt | hge
      · exact absurd (hgc.out p hp hlt) (by simp)
      · exact hge
    refine ⟨Hc ++ H, hg.back hgc (fun b hb => by cases hb) (fun p hp => ?_) ?_, Hc, rfl, fun p hp => Nat.le_trans hg.size (hnew p hp), hR⟩
    · rcases List.mem_append.1 hp with hp | hp
      · exact .inl hp
      · exact .inr ⟨hp, by simp⟩
    · rw [List.map_append, List.nodup_append]
      refine ⟨hgc.nd, hg.nd, ?_⟩
      intro a ha b hb e
      obtain ⟨p, hp, rfl⟩ := List.mem_map.1 ha
      obtain ⟨q, hq, rfl⟩ := List.mem_map.1 hb
      have h1 := hnew p hp
      have h2 := hg.lt hq
      omega

/-- A call that turns one owned block. -/
theorem w_callM {fo : Operand} {ags : Array Operand} {tys : Array TypeId} {f : FuncId} {cap : Array Value} {vs : List Value} {b : Nat} {ob : Obj} {R : Value → Obj → Prop} {HF : Obj → Heap} (ho : o.op = .call { callee := .value fo, args := ags, argTypes := tys })
    (hf : ρ.ev fo = some (.func (.func f) #[] cap)) (hv : evL ρ ags.toList = some vs) (hset : ∀ o', SetAt H b ob o' (HF o'))
    (h : ∀ w, Good X.w0 X.M H w → FnC X.P f (vs ++ cap.toList) w fun v w' => ∃ o', Good w [b] [(b, o')] w' ∧ R v o') :
    WrA X ρ H o fun u H' => ∃ o', H' = HF o' ∧ R u o' :=
  wr_call ho hf hv fun w hg => (h w hg).mono fun v w' ⟨o', hgc, hR⟩ => by
    have hs := hset o'
    refine ⟨HF o', hg.back hgc (fun c hc => ?_) (fun p hp => ?_) (by rw [hs.keys]; exact hg.nd), o', rfl, hR⟩
    · rw [List.mem_singleton] at hc; subst hc; exact ⟨ob, hs.mem⟩
    · rcases hs.mem' hg.nd p hp with rfl | ⟨h1, h2⟩
      · exact .inl (.head _)
      · exact .inr ⟨h1, by simpa using h2⟩

end

end Go.Vc

/- Structs that are compared; maps with such keys; bytes of a string; append. -/
set_option linter.all false
namespace Go.Vc

/-! ### comparing what is made of numbers, strings and bools alone -/

inductive Leaf where
  | int (k : IntKind) | str | bool
  deriving DecidableEq

def Leaf.fits : Leaf → Value → Bool
  | .int k, .int k' _ => k == k'
  | .str, .string _ => true
  | .bool, .bool _ => true
  | _, _ => false

def fitsL : List Leaf → List Value → Bool
  | [], [] => true
  | l :: ls, v :: vs => l.fits v && fitsL ls vs
  | _, _ => false

def eqv : Value → Value → Bool
  | .int _ a, .int _ b => decide (a = b)
  | .string a, .string b => decide (a = b)
  | .bool a, .bool b => a == b
  | _, _ => false

def eqL : List Value → List Value → Bool
  | [], [] => true
  | v :: vs, u :: us => eqv v u && eqL vs us
  | _, _ => false

def leavesF (P : Program) (lv : TypeId → Option (List Leaf)) : List Field → Nat → Option (List Leaf)
  | [], _ => some []
  | f :: fs, off =>
    if f.name = "_" then none else if f.offset ≠ off then none else
    match lv f.type with
    | none => none
    | some l => if tySize P f.type ≠ some l.length then none else
      match leavesF P lv fs (off + l.length) with
      | none => none
      | some r => some (l ++ r)

def leaves (P : Program) : Nat → TypeId → Option (List Leaf)
  | 0, _ => none
  | d + 1, t => match P.underlying t with
    | some (.int k) => some [.int k]
    | some .string => some [.str]
    | some .bool => some [.bool]
    | some (.struct fs) => if P.stoodInHeld t then none else leavesF P (leaves P d) fs.toList 0
    | _ => none

/-- the value of a type that has these cells -/
def valOf (P : Program) (t : TypeId) (xs : List Value) : Value := match tyAgg P t with
  | some true => .agg xs.toArray
  | _ => match xs with
    | [v] => v
    | _ => .agg xs.toArray

theorem fitsL_length {ls : List Leaf} : ∀ {vs : List Value}, fitsL ls vs = true → vs.length = ls.length := by
  induction ls with
  | nil => intro vs h; cases vs <;> simp [fitsL] at h ⊢
  | cons l ls ih => intro vs h; cases vs with
    | nil => simp [fitsL] at h
    | cons v vs => simp only [fitsL, Bool.and_eq_true] at h; simp [ih h.2]

theorem fitsL_append {l r : List Leaf} : ∀ {vs : List Value}, fitsL (l ++ r) vs = true → fitsL l (vs.take l.length) = true ∧ fitsL r (vs.drop l.length) = true := by
  induction l with
  | nil => intro vs h; exact ⟨by simp [fitsL], by simpa using h⟩
  | cons x l ih => intro vs h; cases vs with
    | nil => simp [fitsL] at h
    | cons v vs =>
      simp only [List.cons_append, fitsL, Bool.and_eq_true] at h
      have := ih h.2
      simp only [List.length_cons, List.take_succ_cons, List.drop_succ_cons, fitsL, Bool.and_eq_true]
      exact ⟨⟨h.1, this.1⟩, this.2⟩

theorem eqL_split (n : Nat) : ∀ (xs ys : List Value), xs.length = ys.length → eqL xs ys = (eqL (xs.take n) (ys.take n) && eqL (xs.drop n) (ys.drop n)) := by
  induction n with
  | zero => intro xs ys _; simp [eqL]
  | succ n ih => intro xs ys h; cases xs with
    | nil => cases ys with
      | nil => simp [eqL]
      | cons y ys => simp at h
    | cons x xs => cases ys with
      | nil => simp at h
      | cons y ys =>
        simp only [eqL, List.take_succ_cons, List.drop_succ_cons, Bool.and_assoc]
        rw [ih xs ys (by simpa using h)]

theorem run_part {P : Program} {w : World} {t : TypeId} {l : List Leaf} {xs : List Value} {off d : Nat} (hl : leaves P d t = some l) (hs : tySize P t = some l.length) (hx : fitsL l ((xs.drop off).take l.length) = true) :
    (part t xs.toArray off).run P w = .ok (valOf P t ((xs.drop off).take l.length)) w := by
  have hlen := fitsL_length hx
  cases d with
  | zero => simp [leaves] at hl
  | succ d =>
    simp only [leaves] at hl
    have scal : ∀ k : Leaf, l = [k] → tyAgg P t = some false → (part t xs.toArray off).run P w = .ok (valOf P t ((xs.drop off).take l.length)) w := by
      intro k e ha
      subst e
      simp only [List.length_cons, List.length_nil, Nat.zero_add] at hlen ⊢
      cases hd : xs.drop off with
      | nil => rw [hd] at hlen; simp at hlen
      | cons v r =>
        have hv : xs[off]? = some v := by
          have := congrArg (·[0]?) hd
          simpa using this
        simp [part, run_isAgg' ha, valOf, ha, hv]
    cases hu : P.underlying t with
    | none => simp [hu] at hl
    | some u =>
      cases u <;> simp only [hu] at hl <;> try (simp at hl; done)
      case bool => injection hl with hl; exact scal .bool hl.symm (by simp [tyAgg, hu])
      case int k => injection hl with hl; exact scal (.int k) hl.symm (by simp [tyAgg, hu])
      case string => injection hl with hl; exact scal .str hl.symm (by simp [tyAgg, hu])
      case struct fs =>
        have ha : tyAgg P t = some true := by simp [tyAgg, hu]
        have he : xs.toArray.extract off (off + l.length) = ((xs.drop off).take l.length).toArray := by
          apply Array.toList_inj.1
          simp
        simp [part, run_isAgg' ha, run_sizeOf' hs, valOf, ha, he]

theorem fits1 {k : Leaf} {xs : List Value} (h : fitsL [k] xs = true) : ∃ x, xs = [x] ∧ k.fits x = true := by
  match xs, h with
  | [], h => simp [fitsL] at h
  | [x], h => simp [fitsL] at h; exact ⟨x, rfl, h⟩
  | _ :: _ :: _, h => simp [fitsL] at h

theorem fits_bool {x : Value} (h : Leaf.bool.fits x = true) : ∃ b, x = .bool b := by cases x <;> simp [Leaf.fits] at h; exact ⟨_, rfl⟩
theorem fits_str {x : Value} (h : Leaf.str.fits x = true) : ∃ b, x = .string b := by cases x <;> simp [Leaf.fits] at h; exact ⟨_, rfl⟩
theorem fits_int {k : IntKind} {x : Value} (h : (Leaf.int k).fits x = true) : ∃ n, x = .int k n := by
  cases x <;> simp [Leaf.fits] at h
  subst h; exact ⟨_, rfl⟩

theorem run_equal_leaves {P : Program} : ∀ (d : Nat) (t : TypeId) (l : List Leaf) (xs ys : List Value) (w : World), leaves P d t = some l → fitsL l xs = true → fitsL l ys = true →
    ∀ k, d ≤ k → (Op.equalIn k t (valOf P t xs) (valOf P t ys)).run P w = .ok (eqL xs ys) w := by
  intro d
  induction d with
  | zero => intro t l xs ys w h; simp [leaves] at h
  | succ d ih =>
    intro t l xs ys w h hx hy k hk
    obtain ⟨k, rfl⟩ : ∃ j, k = j + 1 := ⟨k - 1, by omega⟩
    have h0 := h
    simp only [leaves] at h
    cases hu : P.underlying t with
    | none => simp [hu] at h
    | some u =>
      cases u <;> simp only [hu] at h <;> try (simp at h; done)
      case bool =>
        injection h with h; subst h
        have ha : tyAgg P t = some false := by simp [tyAgg, hu]
        obtain ⟨x, rfl, hx'⟩ := fits1 hx
        obtain ⟨y, rfl, hy'⟩ := fits1 hy
        · obtain ⟨x, rfl⟩ := fits_bool hx'
          obtain ⟨y, rfl⟩ := fits_bool hy'
          simp [valOf, ha, run_equalIn_bool' w k t _ _ hu, eqL, eqv]
      case int kk =>
        injection h with h; subst h
        have ha : tyAgg P t = some false := by simp [tyAgg, hu]
        obtain ⟨x, rfl, hx'⟩ := fits1 hx
        obtain ⟨y, rfl, hy'⟩ := fits1 hy
        · obtain ⟨x, rfl⟩ := fits_int hx'
          obtain ⟨y, rfl⟩ := fits_int hy'
          simp [valOf, ha, run_equalIn_int w k t _ _ _ _ hu, eqL, eqv, beq_dec]
      case string =>
        injection h with h; subst h
        have ha : tyAgg P t = some false := by simp [tyAgg, hu]
        obtain ⟨x, rfl, hx'⟩ := fits1 hx
        obtain ⟨y, rfl, hy'⟩ := fits1 hy
        · obtain ⟨x, rfl⟩ := fits_str hx'
          obtain ⟨y, rfl⟩ := fits_str hy'
          simp [valOf, ha, run_equalIn_string w k t _ _ hu, eqL, eqv, bytes_dec]
      case struct fs =>
        have ha : tyAgg P t = some true := by simp [tyAgg, hu]
        cases hst : P.stoodInHeld t with
        | true => simp [hst] at h
        | false =>
          simp only [hst, Bool.false_eq_true, if_false] at h
          simp only [valOf, ha]
          have hfo : P.underlying t = some (.struct (P.fieldsOf t)) := by simp [Program.fieldsOf, hu]
          rw [run_equalIn_agg w k t _ _ hfo hst]
          have hfs : (P.fieldsOf t) = fs := by simp [Program.fieldsOf, hu]
          rw [hfs]
          -- field by field
          have key : ∀ (fl : List Field) (off : Nat) (r : List Leaf), leavesF P (leaves P d) fl off = some r → fitsL r (xs.drop off) = true → fitsL r (ys.drop off) = true →
              (Op.eqFields k xs.toArray ys.toArray fl).run P w = .ok (eqL (xs.drop off) (ys.drop off)) w := by
            intro fl
            induction fl with
            | nil =>
              intro off r hr hfx hfy
              simp only [leavesF, Option.some.injEq] at hr
              subst hr
              have e1 : xs.drop off = [] := by cases hd : xs.drop off with
                | nil => rfl
                | cons a b => rw [hd] at hfx; simp [fitsL] at hfx
              have e2 : ys.drop off = [] := by cases hd : ys.drop off with
                | nil => rfl
                | cons a b => rw [hd] at hfy; simp [fitsL] at hfy
              simp [Op.eqFields, e1, e2, eqL]
            | cons f fl ihf =>
              intro off r hr hfx hfy
              simp only [leavesF] at hr
              by_cases hn : f.name = "_"
              · simp [hn] at hr
              · rw [if_neg hn] at hr
                by_cases ho : f.offset ≠ off
                · rw [if_pos ho] at hr; cases hr
                · rw [if_neg ho] at hr
                  have ho' : f.offset = off := Classical.not_not.1 ho
                  cases hl : leaves P d f.type with
                  | none => simp [hl] at hr
                  | some lf =>
                    simp only [hl] at hr
                    by_cases hz : tySize P f.type ≠ some lf.length
                    · rw [if_pos hz] at hr; cases hr
                    · rw [if_neg hz] at hr
                      have hz' := Classical.not_not.1 hz
                      cases hrest : leavesF P (leaves P d) fl (off + lf.length) with
                      | none => simp [hrest] at hr
                      | some rr =>
                        simp only [hrest, Option.some.injEq] at hr
                        subst hr
                        obtain ⟨x1, x2⟩ := fitsL_append hfx
                        obtain ⟨y1, y2⟩ := fitsL_append hfy
                        have hpx := run_part (w := w) hl hz' x1
                        have hpy := run_part (w := w) hl hz' y1
                        have he := ih f.type lf _ _ w hl x1 y1 k (by omega)
                        have hrec := ihf (off + lf.length) rr hrest (by rwa [List.drop_drop] at x2) (by rwa [List.drop_drop] at y2)
                        have hlx := fitsL_length hfx
                        have hly := fitsL_length hfy
                        rw [eqL_split lf.length (xs.drop off) (ys.drop off) (by omega), List.drop_drop, List.drop_drop]
                        simp only [Op.eqFields, hn, ne_eq, not_false_eq_true, if_true, Sem.run_bind, ho', hpx, hpy, Result.andThen_ok, he]
                        cases hb : eqL (List.take lf.length (List.drop off xs)) (List.take lf.length (List.drop off ys))
                        · simp
                        · simp [hrec]
          have := key fs.toList 0 l h (by simpa using hx) (by simpa using hy)
          simpa using this

section
variable {X : Cx} {ρ : PEnv} {ds : List Deferred} {H : Heap} {o : Oper}

theorem run_equal_top {P : Program} {t : TypeId} {l : List Leaf} {xs ys : List Value} {w : World} (hl : leaves P 10 t = some l) (ha : tyAgg P t = some true) (hx : fitsL l xs = true) (hy : fitsL l ys = true) :
    (Op.equal t (.agg xs.toArray) (.agg ys.toArray)).run P w = .ok (eqL xs ys) w := by
  have := run_equal_leaves 10 t l xs ys w hl hx hy 10000 (by decide)
  simp only [valOf, ha] at this
  exact this

theorem p_eqS {t yt : TypeId} {x y : Operand} {l : List Leaf} {xs ys : Array Value} (hl : leaves X.P 10 t = some l) (ha : tyAgg X.P t = some true) (hgd : X.P.eqGuardType X.P.depth t = false) (ho : o.op = .binOp .eql t x y yt) (hx : ρ.ev x = some (.agg xs)) (hy : ρ.ev y = some (.agg ys))
    (fx : fitsL l xs.toList = true) (fy : fitsL l ys.toList = true) : RdP X ρ o (.bool (eqL xs.toList ys.toList)) :=
  ⟨fun c h => (by rw [ho] at h; cases h), fun e w he => by
    have h1 := run_equal_top (w := w) hl ha fx fy
    simp only [Array.toArray_toList] at h1
    simp [execOp, ho, he _ _ hx, he _ _ hy, run_eqGuard_agg w .eql t x y xs ys hgd, binOp, h1]⟩

theorem p_neS {t yt : TypeId} {x y : Operand} {l : List Leaf} {xs ys : Array Value} (hl : leaves X.P 10 t = some l) (ha : tyAgg X.P t = some true) (hgd : X.P.eqGuardType X.P.depth t = false) (ho : o.op = .binOp .neq t x y yt) (hx : ρ.ev x = some (.agg xs)) (hy : ρ.ev y = some (.agg ys))
    (fx : fitsL l xs.toList = true) (fy : fitsL l ys.toList = true) : RdP X ρ o (.bool (!(eqL xs.toList ys.toList))) :=
  ⟨fun c h => (by rw [ho] at h; cases h), fun e w he => by
    have h1 := run_equal_top (w := w) hl ha fx fy
    simp only [Array.toArray_toList] at h1
    simp [execOp, ho, he _ _ hx, he _ _ hy, run_eqGuard_agg w .neq t x y xs ys hgd, binOp, h1]⟩

theorem p_idxo {x i : Operand} {t len cap size b off : Nat} {k : Int} (hs : elemSz X.P t = some size) (ho : o.op = .indexAddr t x i) (hx : ρ.ev x = some (.slice (some ⟨b, off, none⟩) len cap)) (hi : ρ.ev i = some (.int .i64 k))
    (h0 : 0 ≤ k) (h1 : k < len) : RdP X ρ o (.pointer (some ⟨b, off + k.toNat * size, none⟩)) := by
  have := p_idx (X := X) hs ho hx hi h0 h1; rwa [add_none] at this

theorem p_idxao {x i : Operand} {t len size b off : Nat} {k : Int} (hs : arrOf X.P t = some (len, size)) (ho : o.op = .indexAddr t x i) (hx : ρ.ev x = some (.pointer (some ⟨b, off, none⟩))) (hi : ρ.ev i = some (.int .i64 k))
    (h0 : 0 ≤ k) (h1 : k < len) : RdP X ρ o (.pointer (some ⟨b, off + k.toNat * size, none⟩)) := by
  have := p_idxa (X := X) hs ho hx hi h0 h1; rwa [add_none] at this

theorem cellsAt.zero {w : World} {a : Addr} {v : Value} {vs : List Value} (h : cellsAt w a (v :: vs)) : w.cell? a = some v := by
  have := h 0 v rfl; rwa [add_zero'] at this

theorem cellsAt.nth {w : World} {a : Addr} {v : Value} {vs : List Value} (h : cellsAt w a vs) (j : Nat) (hj : vs[j]? = some v) : w.cell? (a.add j) = some v := h j v hj

theorem Good.push {w0 w w' : World} {M : List Nat} {H : Heap} (h : Good w0 M H w) {o : Obj} (hw : w'.heap = w.heap.push o) (hio : SameIO w w') : Good w0 M ((w.heap.size, o) :: H) w' := by
  have := h.alloc o
  exact ⟨by have := this.size; simp only [World.alloc] at this; rw [hw]; exact this, fun b hb hM => by rw [hw]; exact this.base b hb hM, fun p hp => by rw [hw]; exact this.own p hp, this.nd, this.out, h.io.trans hio⟩

def bytesV (s : ByteArray) : List Value := s.data.toList.map fun b => Value.int .u8 b.toNat

theorem modify_push (h : Array Obj) (o : Obj) (f : Obj → Obj) : (h.push o).modify h.size f = h.push (f o) := by
  apply Array.ext (by simp)
  intro i h1 h2
  rw [Array.getElem_modify, Array.getElem_push, Array.getElem_push]
  simp only [Array.size_modify, Array.size_push] at h1
  by_cases e : i < h.size
  · have : ¬ h.size = i := by omega
    simp [e, this]
  · have : h.size = i := by omega
    simp [e, this]

theorem run_stb {P : Program} (w : World) (el : TypeId) (s : ByteArray) : ∃ cap pad fr w', (Conv.stringToBytes el s).run P w = .ok (.slice (some ⟨w.heap.size, 0, none⟩) s.size cap) w' ∧ w'.heap = w.heap.push (.cells (bytesV s ++ pad).toArray el fr) ∧ SameIO w w' := by
  have hel : (s.data.map fun b => Value.int .u8 b.toNat) = (bytesV s).toArray := by apply Array.toList_inj.1; simp [bytesV]
  have hnf : (Question.appendCap s.size 0 el).forced = false := rfl
  generalize hc : Question.cut (.appendCap s.size 0 el) (w.tape w.drawn (.appendCap s.size 0 el)) = cap
  generalize hp : List.replicate (cap - s.size) (Value.int .u8 0) = pad
  have hpad : Array.replicate (cap - s.size) (Value.int .u8 0) = pad.toArray := by rw [← hp]; simp
  have hrow : (bytesV s).toArray ++ pad.toArray = (bytesV s ++ pad).toArray := by simp
  let o : Obj := .cells (bytesV s ++ pad).toArray el
  let w1 : World := { w with drawn := w.drawn + 1 }
  have hsh : (w1.alloc o).shape? w.heap.size = some (el, (bytesV s ++ pad).toArray.size) := by simp [World.shape?, World.alloc, w1, o]
  refine ⟨cap, pad, ((bytesV s ++ pad).toArray.size, (bytesV s ++ pad).toArray.size + 1), (w1.alloc o).freeze { block := w.heap.size, off := (bytesV s ++ pad).toArray.size } 1, ?_, ?_, ?_⟩
  · have hnew : (newRow el ((bytesV s).toArray ++ pad.toArray)).run P w1 = .ok ⟨w.heap.size, 0, none⟩ (w1.alloc o) := by rw [hrow]; rfl
    have hmark : (markStringish ⟨w.heap.size, 0, none⟩).run P (w1.alloc o) = .ok () ((w1.alloc o).freeze { block := w.heap.size, off := (bytesV s ++ pad).toArray.size } 1) := by
      simp only [markStringish, Sem.run_bind, run_shape, hsh, Result.andThen_ok, run_freeze]
    have hch : (choose (.appendCap s.size 0 el)).run P w = .ok cap w1 := by rw [run_choose, hnf, hc]; rfl
    simp only [Conv.stringToBytes, Sem.run_bind, hch, Result.andThen_ok, hel, hpad, hnew, hmark, Sem.run_pure]
  · have e : w1.heap.size = w.heap.size := rfl
    simp only [World.freeze, World.alloc, o, w1]
    rw [if_neg (by decide)]
    dsimp only
    rw [modify_push]
    rfl
  · constructor <;> (simp only [World.freeze]; split <;> rfl)

/-- '[]byte(s)' -/
theorem w_bytes {x : Operand} {st t el : TypeId} {s : ByteArray} (hs : X.P.underlying st = some .string) (ht : X.P.underlying t = some (.slice el)) (he : X.P.underlying el = some (.int .u8)) (ho : o.op = .convert st t x) (hx : ρ.ev x = some (.string s)) :
    WrA X ρ H o fun v H' => ∃ b cap pad fr, X.w0.heap.size ≤ b ∧ v = .slice (some ⟨b, 0, none⟩) s.size cap ∧ H' = (b, .cells (bytesV s ++ pad).toArray el fr) :: H :=
  wr_value (fun c h => (by rw [ho] at h; cases h)) fun e w hev hg => by
    obtain ⟨cap, pad, fr, w', hrun, hheap, hio⟩ := run_stb (P := X.P) w el s
    refine ⟨_, w', _, .inl ?_, hg.push hheap hio, w.heap.size, cap, pad, fr, hg.size, rfl, rfl⟩
    simp only [execOp, ho, hev _ _ hx, convert, Sem.run_bind, run_underlying' hs, run_underlying' ht, run_underlying' he, Result.andThen_ok, hrun, Sem.run_pure]

def byteAt (s : ByteArray) (i : Nat) : Int := ((s.data.toList.getD i 0).toNat : Int)

/-- 's[k]' of a string -/
theorem p_chr {x i : Operand} {t : Nat} {s : ByteArray} {k : Int} (hu : X.P.underlying t = some .string) (ho : o.op = .index t x i) (hx : ρ.ev x = some (.string s)) (hi : ρ.ev i = some (.int .i64 k)) (h0 : 0 ≤ k) (h1 : k < s.size) :
    RdP X ρ o (.int .u8 (byteAt s k.toNat)) :=
  ⟨fun c h => (by rw [ho] at h; cases h), fun e w he => by
    have hlt : k.toNat < s.data.toList.length := by rw [Array.length_toList]; exact (by omega : k.toNat < s.size)
    have hlt' : k.toNat < s.size := by omega
    have hb : s[k.toNat]? = some (s.data.toList.getD k.toNat 0) := by
      rw [getElem?_pos s k.toNat hlt']
      rw [List.getD_eq_getElem?_getD, List.getElem?_eq_getElem hlt]
      rfl
    simp [execOp, ho, he _ _ hx, he _ _ hi, Instr.index, asIntOf, run_underlying' hu, h0, hb, byteAt]⟩

/-! ### parts of slices -/

theorem run_bound {P : Program} {w : World} {k : Int} {y : Nat} {c : BoundsCode} (h0 : 0 ≤ k) (h1 : k ≤ y) : (Instr.sliceBound (.int .i64 k) y c).run P w = .ok k.toNat w := by
  simp [Instr.sliceBound, asIntOf, h0, h1]

theorem map_add0 (a : Option Addr) (size : Nat) : a.map (·.add (0 * size)) = a := by cases a <;> simp [Addr.add]

/-- 's[:k]' -/
theorem p_slTo {x y : Operand} {t len cap size : Nat} {a : Option Addr} {k : Int} (hs : elemSz X.P t = some size) (ho : o.op = .slice t x none (some y) none) (hx : ρ.ev x = some (.slice a len cap)) (hy : ρ.ev y = some (.int .i64 k))
    (h0 : 0 ≤ k) (h1 : k ≤ cap) : RdP X ρ o (.slice a k.toNat cap) := by
  refine ⟨fun c h => (by rw [ho] at h; cases h), fun e w he => ?_⟩
  unfold elemSz at hs
  cases hu : X.P.underlying t with
  | none => simp [hu] at hs
  | some d =>
    cases d with
    | slice el =>
      simp only [hu] at hs
      have e1 : (if cap = 0 then a else a.map (·.add (0 * size))) = a := by rw [map_add0]; split <;> rfl
      simp only [execOp, ho, he _ _ hx, Option.map_none, Option.map_some, he _ _ hy, Instr.sliceAt, Instr.slice, Sem.run_bind, run_underlying' hu, Result.andThen_ok, Instr.sliceBounds, Sem.run_pure, run_bound h0 h1, if_true, run_sizeOf' hs, e1]
      simp
    | _ => simp [hu] at hs

/-- 's[k:]' -/
theorem p_slFrom {x y : Operand} {t len cap size : Nat} {a : Option Addr} {k : Int} (hs : elemSz X.P t = some size) (ho : o.op = .slice t x (some y) none none) (hx : ρ.ev x = some (.slice a len cap)) (hy : ρ.ev y = some (.int .i64 k))
    (h0 : 0 ≤ k) (h1 : k ≤ len) (h2 : len ≤ cap) : RdP X ρ o (.slice (if cap = k.toNat then a else a.map (·.add (k.toNat * size))) (len - k.toNat) (cap - k.toNat)) := by
  refine ⟨fun c h => (by rw [ho] at h; cases h), fun e w he => ?_⟩
  unfold elemSz at hs
  cases hu : X.P.underlying t with
  | none => simp [hu] at hs
  | some d =>
    cases d with
    | slice el =>
      simp only [hu] at hs
      simp only [execOp, ho, he _ _ hx, Option.map_none, Option.map_some, he _ _ hy, Instr.sliceAt, Instr.slice, Sem.run_bind, run_underlying' hu, Result.andThen_ok, Instr.sliceBounds, Sem.run_pure, run_bound h0 h1, run_sizeOf' hs]
    | _ => simp [hu] at hs

/-! ### maps whose keys are structs of numbers, strings and bools -/

structure MapIs (es : Array MapEntry) (l : List (List Value × Value)) : Prop where
  eq : es.toList.map (fun e => (e.key, e.val)) = l.map fun p => (Value.agg p.1.toArray, p.2)

theorem MapIs.nil : MapIs #[] [] := ⟨rfl⟩

theorem run_forIn_unit {α : Type} {P : Program} {w : World} (xs : Array α) (g : α → PUnit → Sem (ForInStep PUnit)) (h : ∀ x ∈ xs, (g x PUnit.unit).run P w = .ok (.yield PUnit.unit) w) : (forIn xs PUnit.unit g : Sem PUnit).run P w = .ok PUnit.unit w := by
  rw [← Array.forIn_toList]
  have : ∀ l : List α, (∀ x ∈ l, (g x PUnit.unit).run P w = .ok (.yield PUnit.unit) w) → (forIn l PUnit.unit g : Sem PUnit).run P w = .ok PUnit.unit w := by
    intro l
    induction l with
    | nil => intro _; simp
    | cons x l ih => intro hl; simp only [List.forIn_cons, Sem.run_bind, hl x (.head _), Result.andThen_ok]; exact ih fun y hy => hl y (.tail _ hy)
  exact this _ fun x hx => h x (Array.mem_toList_iff.1 hx)

theorem run_checkKey {P : Program} : ∀ (d : Nat) (t : TypeId) (l : List Leaf) (xs : List Value) (w : World) (em : Bool), leaves P d t = some l → fitsL l xs = true →
    ∀ k, d ≤ k → (Instr.checkKey em k t (valOf P t xs)).run P w = .ok () w := by
  intro d
  induction d with
  | zero => intro t l xs w em h; simp [leaves] at h
  | succ d ih =>
    intro t l xs w em h hx k hk
    obtain ⟨k, rfl⟩ : ∃ j, k = j + 1 := ⟨k - 1, by omega⟩
    simp only [leaves] at h
    cases hu : P.underlying t with
    | none => simp [hu] at h
    | some u =>
      cases u <;> simp only [hu] at h <;> try (simp at h; done)
      case bool => simp [Instr.checkKey, run_underlying' hu]
      case int => simp [Instr.checkKey, run_underlying' hu]
      case string => simp [Instr.checkKey, run_underlying' hu]
      case struct fs =>
        have ha : tyAgg P t = some true := by simp [tyAgg, hu]
        cases hst : P.stoodInHeld t with
        | true => simp [hst] at h
        | false =>
          simp only [hst, Bool.false_eq_true, if_false] at h
          simp only [valOf, ha, Instr.checkKey, Sem.run_bind, run_underlying' hu, Result.andThen_ok]
          have key : ∀ (fl : List Field) (off : Nat) (r : List Leaf), leavesF P (leaves P d) fl off = some r → fitsL r (xs.drop off) = true → ∀ f ∈ fl, ∃ v, (part f.type xs.toArray f.offset).run P w = .ok v w ∧ (Instr.checkKey em k f.type v).run P w = .ok () w := by
            intro fl
            induction fl with
            | nil => intro off r _ _ f hf; cases hf
            | cons f fl ihf =>
              intro off r hr hfx
              simp only [leavesF] at hr
              by_cases hn : f.name = "_"
              · simp [hn] at hr
              · rw [if_neg hn] at hr
                by_cases ho : f.offset ≠ off
                · rw [if_pos ho] at hr; cases hr
                · rw [if_neg ho] at hr
                  have ho' : f.offset = off := Classical.not_not.1 ho
                  cases hl : leaves P d f.type with
                  | none => simp [hl] at hr
                  | some lf =>
                    simp only [hl] at hr
                    by_cases hz : tySize P f.type ≠ some lf.length
                    · rw [if_pos hz] at hr; cases hr
                    · rw [if_neg hz] at hr
                      have hz' := Classical.not_not.1 hz
                      cases hrest : leavesF P (leaves P d) fl (off + lf.length) with
                      | none => simp [hrest] at hr
                      | some rr =>
                        simp only [hrest, Option.some.injEq] at hr
                        subst hr
                        obtain ⟨x1, x2⟩ := fitsL_append hfx
                        have hpx := run_part (w := w) hl hz' x1
                        have hc := ih f.type lf _ w em hl x1 k (by omega)
                        have hrec := ihf (off + lf.length) rr hrest (by rwa [List.drop_drop] at x2)
                        intro g hg
                        rcases List.mem_cons.1 hg with rfl | hg
                        · exact ⟨_, by rw [ho']; exact hpx, hc⟩
                        · exact hrec g hg
          have hk := key fs.toList 0 l h (by simpa using hx)
          rw [run_forIn_unit (P := P) (w := w) fs _ fun f hf => ?_]
          · rfl
          obtain ⟨v, h1, h2⟩ := hk f (Array.mem_toList_iff.2 hf)
          by_cases hn : f.name = "_"
          · simp [hn]
          · simp [hn, h1, h2]

theorem run_findAsking {P : Program} {w : World} {kt : TypeId} {k : Value} {f : MapEntry → Bool} : ∀ (es : List MapEntry) (i : Nat), (∀ e ∈ es, (Op.equal kt k e.key).run P w = .ok (f e) w) →
    ∃ r, (Instr.findAsking kt k es i).run P w = .ok r w ∧ ((r = none ∧ es.find? f = none) ∨ ∃ e j, es.find? f = some e ∧ r = some (j, e.val)) := by
  intro es
  induction es with
  | nil => intro i _; exact ⟨none, by simp [Instr.findAsking], .inl ⟨rfl, rfl⟩⟩
  | cons e es ih =>
    intro i h
    have h1 := h e (.head _)
    obtain ⟨r, hr, hcase⟩ := ih (i + 1) (fun e he => h e (.tail _ he))
    cases hf : f e with
    | true => exact ⟨some (i, e.val), by simp [Instr.findAsking, h1, hf], .inr ⟨e, i, by simp [hf], rfl⟩⟩
    | false =>
      refine ⟨r, by simp [Instr.findAsking, h1, hf, hr], ?_⟩
      rcases hcase with ⟨h2, h3⟩ | ⟨e', j, h2, h3⟩
      · exact .inl ⟨h2, by simp [hf, h3]⟩
      · exact .inr ⟨e', j, by simp [hf, h2], h3⟩

def keyEq (k : List Value) (p : List Value × Value) : Bool := eqL k p.1

theorem mapIs_find {es : List MapEntry} {l : List (List Value × Value)} (h : es.map (fun e => (e.key, e.val)) = l.map fun p => (Value.agg p.1.toArray, p.2)) (f : MapEntry → Bool) (k : List Value)
    (hf : ∀ e ∈ es, ∀ q : List Value, e.key = .agg q.toArray → f e = eqL k q) : (es.find? f).map (·.val) = (l.find? (keyEq k)).map (·.2) := by
  induction es generalizing l with
  | nil => cases l with
    | nil => rfl
    | cons p l => simp at h
  | cons e es ih => cases l with
    | nil => simp at h
    | cons p l =>
      simp only [List.map_cons, List.cons.injEq, Prod.mk.injEq] at h
      obtain ⟨⟨h1, h2⟩, h3⟩ := h
      have hfe := hf e (.head _) p.1 h1
      simp only [List.find?_cons, keyEq, hfe]
      cases eqL k p.1
      · exact ih h3 (fun e he => hf e (.tail _ he))
      · simp [h2]

/-- finding a key -/
theorem run_findKey {P : Program} {w : World} {kt : TypeId} {ls : List Leaf} {es : Array MapEntry} {l : List (List Value × Value)} {k : List Value} (hl : leaves P 10 kt = some ls) (ha : tyAgg P kt = some true) (hk : fitsL ls k = true) (hm : MapIs es l)
    (hfit : ∀ p ∈ l, fitsL ls p.1 = true) : ∃ r, (Instr.findKey kt (.agg k.toArray) es.toList).run P w = .ok r w ∧ r.map (·.2) = (l.find? (keyEq k)).map (·.2) ∧ (r = none ↔ l.find? (keyEq k) = none) := by
  have hkeys : ∀ e ∈ es.toList, ∃ q : List Value, e.key = .agg q.toArray ∧ fitsL ls q = true := by
    intro e he
    have : (e.key, e.val) ∈ l.map fun p => (Value.agg p.1.toArray, p.2) := by rw [← hm.eq]; exact List.mem_map_of_mem (f := fun e : MapEntry => (e.key, e.val)) he
    obtain ⟨p, hp, e2⟩ := List.mem_map.1 this
    simp only [Prod.mk.injEq] at e2
    exact ⟨p.1, e2.1.symm, hfit p hp⟩
  have heq : ∀ e ∈ es.toList, (Op.equal kt (.agg k.toArray) e.key).run P w = .ok (match e.key with | .agg q => eqL k q.toList | _ => false) w := by
    intro e he
    obtain ⟨q, hq, hfq⟩ := hkeys e he
    rw [hq]
    simpa using run_equal_top hl ha hk hfq
  obtain ⟨r, hr, hcase⟩ := run_findAsking (P := P) (w := w) (kt := kt) (k := .agg k.toArray) es.toList 0 heq
  have hfind := mapIs_find hm.eq (fun e => match e.key with | .agg q => eqL k q.toList | _ => false) k (fun e he q hq => by simp only [hq])
  have hU : ∃ u, P.underlying kt = some u := by
    unfold tyAgg at ha
    cases hu : P.underlying kt with
    | none => simp [hu] at ha
    | some u => exact ⟨u, rfl⟩
  obtain ⟨u, hu⟩ := hU
  have hrun : (Instr.findKey kt (.agg k.toArray) es.toList).run P w = .ok r w := by
    simp only [Instr.findKey, Sem.run_bind, run_underlying' hu, Result.andThen_ok]
    cases hes : es.toList with
    | nil =>
      have hr0 : r = none := by
        rcases hcase with ⟨h1, _⟩ | ⟨e, j, h1, _⟩
        · exact h1
        · rw [hes] at h1; simp at h1
      simp [Instr.findNow, hr0]
    | cons e rest =>
      obtain ⟨q, hq, _⟩ := hkeys e (by rw [hes]; exact .head _)
      have : Instr.sameNow u (.agg k.toArray) e.key = none := by rw [hq]; cases u <;> rfl
      simp only [Instr.findNow, this]
      rw [hes] at hr
      exact hr
  refine ⟨r, hrun, ?_, ?_⟩
  · rw [← hfind]
    rcases hcase with ⟨h1, h2⟩ | ⟨e, j, h1, h2⟩
    · rw [h1, h2]; rfl
    · rw [h1, h2]; rfl
  · rcases hcase with ⟨h1, h2⟩ | ⟨e, j, h1, h2⟩
    · rw [h2] at hfind
      constructor
      · intro _
        cases hf : l.find? (keyEq k) with
        | none => rfl
        | some p => rw [hf] at hfind; simp at hfind
      · intro _; exact h1
    · rw [h1] at hfind
      constructor
      · intro h; rw [h] at h2; cases h2
      · intro h; rw [h] at hfind; simp at hfind

def found (l : List (List Value × Value)) (k : List Value) (z : Value) : Value := ((l.find? (keyEq k)).map (·.2)).getD z

theorem r_look {m y : Operand} {t kt et b clk : Nat} {ls : List Leaf} {es : Array MapEntry} {l : List (List Value × Value)} {k : List Value} {z : Value} (hu : X.P.underlying t = some (.map kt et)) (hl : leaves X.P 10 kt = some ls) (ha : tyAgg X.P kt = some true) (hz : tyZero X.P et = some z)
    (ho : o.op = .lookup t m y false) (hm : ρ.ev m = some (.map (some b))) (hy : ρ.ev y = some (.agg k.toArray)) (hk : fitsL ls k = true) (hmem : (b, Obj.map es clk) ∈ H) (his : MapIs es l) (hfit : ∀ p ∈ l, fitsL ls p.1 = true) :
    RdA X ρ H o (found l k z) :=
  ⟨fun c h => (by rw [ho] at h; cases h), fun e w he hg => by
    have hget : (getObj b).run X.P w = .ok (.map es clk) w := by simp [getObj, Sem.run, hg.own _ hmem]
    have hck := run_checkKey 10 kt ls k w es.isEmpty hl hk 10000 (by decide)
    simp only [valOf, ha] at hck
    obtain ⟨r, hr, h1, h2⟩ := run_findKey (w := w) hl ha hk his hfit
    simp only [execOp, ho, he _ _ hm, he _ _ hy, Instr.lookup, Sem.run_bind, run_underlying' hu, Result.andThen_ok, hget, Sem.run_pure, hck, hr]
    cases r with
    | none => have := h2.1 rfl; simp [run_zeroValue' hz, found, this]
    | some q => simp only [Option.map_some] at h1; simp [found, ← h1]⟩

theorem r_look2 {m y : Operand} {t kt et b clk : Nat} {ls : List Leaf} {es : Array MapEntry} {l : List (List Value × Value)} {k : List Value} {z : Value} (hu : X.P.underlying t = some (.map kt et)) (hl : leaves X.P 10 kt = some ls) (ha : tyAgg X.P kt = some true) (hz : tyZero X.P et = some z)
    (ho : o.op = .lookup t m y true) (hm : ρ.ev m = some (.map (some b))) (hy : ρ.ev y = some (.agg k.toArray)) (hk : fitsL ls k = true) (hmem : (b, Obj.map es clk) ∈ H) (his : MapIs es l) (hfit : ∀ p ∈ l, fitsL ls p.1 = true) :
    RdA X ρ H o (.tuple #[found l k z, .bool (l.find? (keyEq k)).isSome]) :=
  ⟨fun c h => (by rw [ho] at h; cases h), fun e w he hg => by
    have hget : (getObj b).run X.P w = .ok (.map es clk) w := by simp [getObj, Sem.run, hg.own _ hmem]
    have hck := run_checkKey 10 kt ls k w es.isEmpty hl hk 10000 (by decide)
    simp only [valOf, ha] at hck
    obtain ⟨r, hr, h1, h2⟩ := run_findKey (w := w) hl ha hk his hfit
    simp only [execOp, ho, he _ _ hm, he _ _ hy, Instr.lookup, Sem.run_bind, run_underlying' hu, Result.andThen_ok, hget, Sem.run_pure, hck, hr]
    cases r with
    | none => have := h2.1 rfl; simp [run_zeroValue' hz, found, this]
    | some q =>
      simp only [Option.map_some] at h1
      cases hf : l.find? (keyEq k) with
      | none => rw [hf] at h1; simp at h1
      | some p => rw [hf] at h1; simp at h1; simp [found, hf, h1]⟩

/-- A new key is stored. -/
theorem w_mapNew {m y v : Operand} {t kt et b clk : Nat} {ls : List Leaf} {es : Array MapEntry} {l : List (List Value × Value)} {k : List Value} {u : Value} (hu : X.P.underlying t = some (.map kt et)) (hl : leaves X.P 10 kt = some ls) (ha : tyAgg X.P kt = some true)
    (ho : o.op = .mapUpdate t m y v) (hm : ρ.ev m = some (.map (some b))) (hy : ρ.ev y = some (.agg k.toArray)) (hv : ρ.ev v = some u) (hk : fitsL ls k = true) {HF : Obj → Heap} (hset : ∀ o', SetAt H b (Obj.map es clk) o' (HF o')) (his : MapIs es l) (hfit : ∀ p ∈ l, fitsL ls p.1 = true)
    (hnew : l.find? (keyEq k) = none) : WrA X ρ H o fun _ H' => ∃ es' clk', H' = HF (.map es' clk') ∧ MapIs es' (l ++ [(k, u)]) :=
  wr_value (fun c h => (by rw [ho] at h; cases h)) fun e w he hg => by
    have hget : (getObj b).run X.P w = .ok (.map es clk) w := by simp [getObj, Sem.run, hg.own _ (hset (.map es clk)).mem]
    have hck := run_checkKey 10 kt ls k w false hl hk 10000 (by decide)
    simp only [valOf, ha] at hck
    obtain ⟨r, hr, h1, h2⟩ := run_findKey (w := w) hl ha hk his hfit
    have hr0 : r = none := h2.2 hnew
    subst hr0
    have hmem := (hset (.map es clk)).mem
    have hs := hset (.map (es.push { key := .agg k.toArray, val := u, born := clk }) (clk + 1))
    have hso : (setObj b (.map (es.push { key := .agg k.toArray, val := u, born := clk }) (clk + 1))).run X.P w = .ok () { w with heap := w.heap.setIfInBounds b (.map (es.push { key := .agg k.toArray, val := u, born := clk }) (clk + 1)) } := by simp [setObj, Sem.run, hg.own _ hmem]
    refine ⟨undef, _, _, .inr ⟨rfl, ?_⟩, hg.set hs (w' := { w with heap := w.heap.setIfInBounds b (.map (es.push { key := .agg k.toArray, val := u, born := clk }) (clk + 1)) }) rfl ⟨rfl, rfl⟩, _, _, rfl, ⟨by simp [his.eq]⟩⟩
    simp only [execOp, ho, he _ _ hm, he _ _ hy, he _ _ hv, Instr.mapUpdate, Sem.run_bind, run_underlying' hu, Result.andThen_ok, hget, hck, hr, hso, Sem.run_pure]
end

end Go.Vc

/- Joints; append; ranges over functions. -/
set_option linter.all false
namespace Go.Vc

/-! ### parts of heaps -/

theorem Good.of_sub {w0 w : World} {M : List Nat} {H H' : Heap} (h : Good w0 M H w) (hs : ∀ p ∈ H', p ∈ H) (nd : (H'.map Prod.fst).Nodup) : Good w0 M H' w :=
  ⟨h.size, h.base, fun p hp => h.own p (hs p hp), nd, fun p hp => h.out p (hs p hp), h.io⟩

theorem Good.perm {w0 w : World} {M : List Nat} {H H' : Heap} (h : Good w0 M H w) (hp : H.Perm H') : Good w0 M H' w :=
  h.of_sub (fun _ hp' => hp.mem_iff.2 hp') ((hp.map Prod.fst).nodup_iff.1 h.nd)

inductive Take : (Nat × Obj) → Heap → Heap → Prop
  | head {x : Nat × Obj} {R : Heap} : Take x (x :: R) R
  | tail {x y : Nat × Obj} {R R' : Heap} (h : Take x R R') : Take x (y :: R) (y :: R')
  | app {x : Nat × Obj} {A R R' : Heap} (h : Take x R R') : Take x (A ++ R) (A ++ R')

theorem Take.perm {x : Nat × Obj} {R R' : Heap} (h : Take x R R') : R.Perm (x :: R') := by
  induction h with
  | head => exact List.Perm.refl _
  | tail _ ih => exact (ih.cons _).trans (List.Perm.swap _ _ _)
  | app _ ih => exact (ih.append_left _).trans List.perm_middle

inductive HSub : Heap → Heap → Prop
  | refl (H : Heap) : HSub H H
  | nil (H : Heap) : HSub [] H
  | take {x : Nat × Obj} {H1 H2 H2' : Heap} (h : Take x H2 H2') (r : HSub H1 H2') : HSub (x :: H1) H2
  | drop {y : Nat × Obj} {H1 H2 : Heap} (r : HSub H1 H2) : HSub H1 (y :: H2)
  | app {A H1 H2 : Heap} (r : HSub H1 H2) : HSub H1 (A ++ H2)

theorem HSub.perm {H1 H2 : Heap} (h : HSub H1 H2) : ∃ L, H2.Perm L ∧ H1.Sublist L := by
  induction h with
  | refl H => exact ⟨H, List.Perm.refl _, List.Sublist.refl _⟩
  | nil H => exact ⟨H, List.Perm.refl _, List.nil_sublist _⟩
  | take h _ ih =>
    obtain ⟨L, h1, h2⟩ := ih
    exact ⟨_ :: L, h.perm.trans (h1.cons _), h2.cons_cons _⟩
  | drop _ ih =>
    obtain ⟨L, h1, h2⟩ := ih
    exact ⟨_ :: L, h1.cons _, h2.cons _⟩
  | app _ ih =>
    obtain ⟨L, h1, h2⟩ := ih
    exact ⟨_ ++ L, h1.append_left _, h2.trans (List.sublist_append_right _ _)⟩

theorem Good.hsub {w0 w : World} {M : List Nat} {H H' : Heap} (h : Good w0 M H w) (hp : HSub H' H) : Good w0 M H' w := by
  obtain ⟨L, h1, h2⟩ := hp.perm
  exact (h.perm h1).sub h2

/-- One block's content becomes another, by what is read. -/
theorem Good.set2 {w0 w w' : World} {M : List Nat} {H H' : Heap} {b : Nat} {o o' : Obj} (h : Good w0 M H w) (hs : SetAt H b o o' H') (hz : w.heap.size ≤ w'.heap.size) (h1 : w'.heap[b]? = some o') (h2 : ∀ k, k < w.heap.size → k ≠ b → w'.heap[k]? = w.heap[k]?) (hio : SameIO w w') : Good w0 M H' w' where
  io := h.io.trans hio
  size := Nat.le_trans h.size hz
  base := fun c hc hM => by
    have hne : c ≠ b := fun e => hM (e ▸ h.out _ hs.mem (e ▸ hc))
    rw [h2 c (Nat.lt_of_lt_of_le hc h.size) hne]; exact h.base c hc hM
  own := fun p hp => by
    rcases hs.mem' h.nd p hp with rfl | ⟨hp', hne⟩
    · exact h1
    · rw [h2 p.1 (h.lt hp') hne]; exact h.own p hp'
  nd := by rw [hs.keys]; exact h.nd
  out := fun p hp hlt => by
    rcases hs.mem' h.nd p hp with rfl | ⟨hp', _⟩
    · exact (h.out (b, o) hs.mem hlt : b ∈ M)
    · exact h.out p hp' hlt

theorem setAt_mid {b : Nat} {o o' : Obj} {post : Heap} : ∀ pre : Heap, SetAt (pre ++ (b, o) :: post) b o o' (pre ++ (b, o') :: post)
  | [] => .head
  | _ :: pre => .tail (setAt_mid pre)

section
variable {X : Cx} {ρ : PEnv} {ds : List Deferred} {H : Heap} {Q : Post}

/-- A joint: what comes behind is walked once. -/
theorem V_mid {x y : Code} {γ : Type} {ks : List Nat} {ρf : PEnv} (hk : Keep ρ ks ρf) (ρI : γ → PEnv) (HI : γ → Heap) (inv : γ → Prop)
    (h : V X x ρ ds H (Then (fun ρ' ds' H' => ∃ g, inv g ∧ Sub (ρI g ++ ρf) ρ' ∧ HSub (HI g) H' ∧ ds' = ds) Q)) (k : ∀ g, inv g → V X y (ρI g ++ ρf) ds (HI g) Q) : V X (.seq x y) ρ ds H Q := by
  refine V_seq (h.mono ?_)
  intro e ρ' ds' H' hq
  cases e <;> first | exact hq | skip
  obtain ⟨g, hi, hs, hh, hd⟩ := hq
  subst hd
  exact fun a w ha hg => k g hi a w (ha.sub hs) (hg.hsub hh)

/-! ### append -/

inductive Grow (el size : Nat) : Value → Nat → List Value → Heap → Prop
  | nil : Grow el size (.slice none 0 0) 0 [] []
  | row {b n cap : Nat} {cur : Array Value} {xs : List Value} (h1 : n ≤ cap) (h2 : cap ≤ maxLen) (h3 : cur.size = cap * size) (h4 : cur.toList.take (n * size) = xs) (h5 : xs.length = n * size) :
      Grow el size (.slice (some ⟨b, 0, none⟩) n cap) n xs [(b, .cells cur el)]

def appOf (P : Program) (t : TypeId) : Option (Nat × Nat × Nat) := match P.underlying t with
  | some (.slice e) => match P.info? e with
    | some i => match i.zero with
      | some z => bif Nat.beq z.cells.size i.size && Nat.blt 0 i.size then some (e, i.size, i.bytes) else none
      | none => none
    | none => none
  | _ => none

theorem appOf_spec {P : Program} {t e size bytes : Nat} (h : appOf P t = some (e, size, bytes)) : P.underlying t = some (.slice e) ∧ ∃ i z, P.info? e = some i ∧ i.zero = some z ∧ i.size = size ∧ i.bytes = bytes ∧ z.cells.size = size ∧ 0 < size := by
  unfold appOf at h
  cases hu : P.underlying t with
  | none => simp [hu] at h
  | some d =>
    cases d with
    | slice e' =>
      simp only [hu] at h
      cases hi : P.info? e' with
      | none => simp [hi] at h
      | some i =>
        simp only [hi] at h
        cases hz : i.zero with
        | none => simp [hz] at h
        | some z =>
          simp only [hz] at h
          cases hb : (Nat.beq z.cells.size i.size && Nat.blt 0 i.size) with
          | false => rw [hb] at h; simp at h
          | true =>
            rw [hb] at h
            simp only [cond_true, Option.some.injEq, Prod.mk.injEq] at h
            obtain ⟨rfl, rfl, rfl⟩ := h
            simp only [Bool.and_eq_true] at hb
            exact ⟨rfl, i, z, hi, hz, rfl, rfl, Nat.eq_of_beq_eq_true hb.1, Nat.le_of_ble_eq_true hb.2⟩
    | _ => simp [hu] at h

theorem Grow.cells {el size n : Nat} {v : Value} {xs : List Value} {G : Heap} (h : Grow el size v n xs G) {w : World} (hg : ∀ p ∈ G, w.heap[p.1]? = some p.2) : ∃ a cap, v = .slice a n cap ∧ n ≤ cap ∧ xs.length = n * size ∧ ∀ j u, xs[j]? = some u → ∃ b, a = some b ∧ w.cell? (b.add j) = some u := by
  cases h with
  | nil => exact ⟨none, 0, rfl, Nat.le_refl _, by simp, fun j u h => by simp at h⟩
  | row h1 h2 h3 h4 h5 =>
    refine ⟨_, _, rfl, h1, h5, fun j u hu => ⟨_, rfl, ?_⟩⟩
    rw [add_none, own_cell (hg _ (.head _))]
    rw [← h4, List.getElem?_take] at hu
    split at hu
    · simpa using hu
    · cases hu

variable {o : Oper}

theorem w_append {s x : Operand} {t e size bytes n m c : Nat} {v : Value} {xs news : List Value} {G : Heap} {HF : Heap → Heap} {a : Option Addr} (ht : appOf X.P t = some (e, size, bytes))
    (ho : o.op = .call { callee := .builtin .append, args := #[s, x], argTypes := #[t, t] }) (hs : ρ.ev s = some v) (hx : ρ.ev x = some (.slice a m c)) (hgr : Grow e size v n xs G)
    (hctx : ∃ pre post, ∀ G, HF G = pre ++ (G ++ post)) (hl : news.length = m * size) (hnews : ∀ w, Good X.w0 X.M (HF G) w → ∀ j u, news[j]? = some u → ∃ b, a = some b ∧ w.cell? (b.add j) = some u)
    (h1 : ∀ u ∈ news, u.oneCell' = true) (hb : (n + m) * bytes ≤ 140737488355328) (h63 : n + m ≤ maxLen) :
    WrA X ρ (HF G) o fun v' H' => ∃ G', H' = HF G' ∧ Grow e size v' (n + m) (xs ++ news) G' :=
  wr_value (fun c h => (by rw [ho] at h; cases h)) fun ev w he hg => by
    obtain ⟨hu, i, z, hi, hz, rfl, rfl, hzs, hsz⟩ := appOf_spec ht
    obtain ⟨pre, post, hHF⟩ := hctx
    have hn := hnews w hg
    have exec : ∀ v' w', (Builtin.append_ #[t, t] o.type #[v, .slice a m c]).run X.P w = .ok v' w' → (execOp ev o).run X.P w = .ok (.value v') w' := by
      intro v' w' h
      simp [execOp, ho, resolve, invoke, builtin, he _ _ hs, he _ _ hx, h]
    have same : news = [] → m = 0 → (Builtin.append_ #[t, t] o.type #[v, .slice a m c]).run X.P w = .ok v w → ∃ v' w' H', ((execOp ev o).run X.P w = .ok (.value v') w' ∨ (v' = undef ∧ (execOp ev o).run X.P w = .ok .skip w')) ∧ Good X.w0 X.M H' w' ∧ ∃ G', H' = HF G' ∧ Grow e i.size v' (n + m) (xs ++ news) G' := by
      rintro rfl rfl h
      exact ⟨v, w, HF G, .inl (exec _ _ h), hg, G, rfl, by simpa using hgr⟩
    -- a new block
    have grown : ∀ (old : Nat), Good X.w0 X.M (HF (((w.heap.size, .cells (xs.toArray ++ news.toArray ++ Builtin.zeroCells z.cells (grownCap w (n + m) old e - (n + m))) e)) :: [])) (w.drew.alloc (.cells (xs.toArray ++ news.toArray ++ Builtin.zeroCells z.cells (grownCap w (n + m) old e - (n + m))) e)) ∧
        Grow e i.size (.slice (some ⟨w.heap.size, 0, none⟩) (n + m) (grownCap w (n + m) old e)) (n + m) (xs ++ news) [(w.heap.size, .cells (xs.toArray ++ news.toArray ++ Builtin.zeroCells z.cells (grownCap w (n + m) old e - (n + m))) e)] := by
      intro old
      have hxl : xs.length = n * i.size := by cases hgr <;> first | assumption | simp
      have hge := grownCap_ge w (n + m) old e
      refine ⟨?_, .row hge (grownCap_le_maxLen w (n + m) old e h63) ?_ ?_ ?_⟩
      · have hd : Good X.w0 X.M (HF G) w.drew := hg.drew _
        have ha := hd.alloc (.cells (xs.toArray ++ news.toArray ++ Builtin.zeroCells z.cells (grownCap w (n + m) old e - (n + m))) e)
        rw [hHF] at ha
        rw [hHF]
        have hsz' : w.drew.heap.size = w.heap.size := rfl
        rw [hsz'] at ha
        refine (ha.sub (List.Sublist.cons_cons _ (List.Sublist.append_left (List.sublist_append_right G post) pre))).perm ?_
        exact List.perm_middle.symm
      · simp only [Array.size_append, List.size_toArray, size_zeroCells, hzs, hxl, hl, ← Nat.add_mul]
        congr 1
        omega
      · simp only [Array.toList_append, List.append_assoc]
        rw [← List.append_assoc, show (n + m) * i.size = (xs ++ news).length by rw [List.length_append, hxl, hl, Nat.add_mul]]
        exact List.take_left
      · rw [List.length_append, hxl, hl, Nat.add_mul]
    cases a with
    | none =>
      have hnil : news = [] := by
        cases news with
        | nil => rfl
        | cons u us => obtain ⟨b, hb, _⟩ := hn 0 u rfl; cases hb
      have hm : m = 0 := by
        rw [hnil] at hl
        simp only [List.length_nil] at hl
        rcases Nat.eq_zero_or_pos m with h | h
        · exact h
        · have := Nat.mul_pos h hsz; omega
      refine same hnil hm ?_
      subst hm
      cases hgr with
      | nil => simp [Builtin.append_, run_underlying hu, sizeOf, typeInfo, hi, Builtin.lenOf, Builtin.firstCells]
      | row q1 q2 q3 q4 q5 => simp [Builtin.append_, run_underlying hu, sizeOf, typeInfo, hi, Builtin.lenOf, Builtin.firstCells, q1, storeCells]
    | some b =>
      have hn' : ∀ j u, news[j]? = some u → w.cell? (b.add j) = some u := fun j u hj => by obtain ⟨b', e', h⟩ := hn j u hj; injection e' with e'; rw [e']; exact h
      have hsmall : ((n + m : Nat) : Int) ≤ 9223372036854775807 := by simp only [maxLen] at h63; omega
      cases hgr with
      | nil =>
        by_cases hm : m = 0
        · subst hm
          have hnil : news = [] := List.eq_nil_of_length_eq_zero (by simpa using hl)
          refine same hnil rfl ?_
          subst hnil
          simp [Builtin.append_, run_underlying hu, sizeOf, typeInfo, hi, Builtin.lenOf, Builtin.firstCells, loadCells, loadCellsFrom]
        · have hr := run_append_nil (P := X.P) w t o.type e i z hu hi hz b m c news hl hn' (by omega) (by omega) (by have := hb; simp only [Nat.zero_add] at this; omega)
          obtain ⟨g1, g2⟩ := grown 0
          simp only [Nat.zero_add, List.nil_append, Array.empty_append] at g1 g2
          exact ⟨_, _, _, .inl (exec _ _ hr), g1, _, rfl, by simpa using g2⟩
      | row q1 q2 q3 q4 q5 =>
        rename_i g cap cur
        have hgg : w.heap[g]? = some (.cells cur e (0, 0)) := hg.own (g, .cells cur e) (by rw [hHF]; simp)
        by_cases hroom : n + m ≤ cap
        · have hfit : n * i.size + news.length ≤ cur.size := by rw [hl, q3, ← Nat.add_mul]; exact Nat.mul_le_mul_right _ hroom
          have hr := run_append_room (P := X.P) w t o.type e i hu hi g n cap cur hgg b m c news hl hn' h1 hroom hfit
          refine ⟨_, _, _, .inl (exec _ _ hr), hg.set2 (b := g) (o := .cells cur e) (H' := HF [(g, .cells (cur.toList.take (n * i.size) ++ news ++ cur.toList.drop (n * i.size + news.length)).toArray e)]) ?_ (by simp) (setRow_heap w g cur _ e _ hgg) (fun k _ hk => setRow_other w g k _ hk) ⟨rfl, rfl⟩, _, rfl, .row hroom q2 ?_ ?_ ?_⟩
          · rw [hHF, hHF]; exact setAt_mid pre
          · simp only [List.size_toArray, List.length_append, List.length_take, List.length_drop, Array.length_toList]
            omega
          · rw [q4, show (n + m) * i.size = (xs ++ news).length by rw [List.length_append, q5, hl, Nat.add_mul]]
            exact List.take_left
          · rw [List.length_append, q5, hl, Nat.add_mul]
        · have holds : ∀ j u, xs[j]? = some u → w.cell? ((⟨g, 0, none⟩ : Addr).add j) = some u := by
            intro j u hj
            rw [add_none, own_cell hgg]
            rw [← q4, List.getElem?_take] at hj
            split at hj
            · simpa using hj
            · cases hj
          have hr := run_append_grow (P := X.P) w t o.type e i z hu hi hz ⟨g, 0, none⟩ n cap xs q5 holds b m c news hl hn' (by omega) (by omega) (growslice_fits (by omega) hb)
          obtain ⟨g1, g2⟩ := grown cap
          exact ⟨_, _, _, .inl (exec _ _ hr), g1, _, rfl, g2⟩
end

end Go.Vc

/- Ranges over functions. -/
set_option linter.all false
namespace Go.Vc

def rdy (r : Loop) : Obj := .loop { r with state := .ready, pending := none }
def bsy (r : Loop) : Obj := .loop { r with state := .busy, pending := none }
def dne (r : Loop) (c : Code) : Obj := .loop { r with state := .done, pending := some c }

/-- Behind the assignments to the left sides: the round begins; its body. -/
def AsgQ (X : Cx) (l : Nat) (r : Loop) (body : Code) (Q2 : Post) : Post := fun e ρ ds H => match e with
  | .normal => ∃ H', SetAt H l (rdy r) (bsy r) H' ∧ V X body ρ ds H' Q2
  | _ => False

/-- The round's end: it goes on. -/
def EndQ (l : Nat) (r : Loop) (K : Heap → Prop) : Post := fun e _ _ H => match e with
  | .normal => ∃ H', SetAt H l (bsy r) (rdy r) H' ∧ K H'
  | _ => False

def bindP : List Nat → List Value → PEnv → PEnv
  | t :: ts, v :: vs, ρ => bindP ts vs ((t, v) :: ρ)
  | _, _, ρ => ρ

theorem agr_bind {n : Nat} : ∀ (ts : List Nat) (vs : List Value) {ρ : PEnv} {tmps : Array Value}, (∀ t ∈ ts, t < n) → Agr n ρ [] { tmps := tmps, defers := [] } →
    Agr n (bindP ts vs ρ) [] { tmps := (ts.zip vs).foldl (fun tmps (p : Nat × Value) => tmps.setIfInBounds p.1 p.2) tmps, defers := [] } := by
  intro ts
  induction ts with
  | nil => intro vs ρ tmps _ h; simpa [bindP] using h
  | cons t ts ih =>
    intro vs ρ tmps ht h
    cases vs with
    | nil => simpa [bindP] using h
    | cons v vs =>
      simp only [bindP, List.zip_cons_cons, List.foldl_cons]
      exact ih vs (fun t ht' => ht t (.tail _ ht')) (h.put (d := some t) (fun t' e => by injection e with e; rw [← e]; exact ht t (.head _)) v)

/-- A call of yield, from outside: it asks for a round that goes on. -/
def RoundOk (P : Program) (w0 : World) (M : List Nat) (l : Nat) (Pre : List (List Value) → List Value → Prop) (I : List (List Value) → Heap → Prop) : Prop :=
  ∀ done vs Hs own w, Pre done vs → I done Hs → Good w0 M (Hs ++ own) w → ∃ f tmps assign body, (Instr.yield l vs.toArray).run P w = .ok (.round l f tmps assign body) w ∧
    RoundIn (FW none) 0 P l f tmps assign body w fun e w' => ∃ Hs', e = .returned (.bool true) ∧ Good w0 M (Hs' ++ own) w' ∧ I (done ++ [vs]) Hs'

section
variable {X : Cx} {ρ : PEnv} {ds : List Deferred} {H : Heap} {Q : Post} {o : Oper}

theorem w_yield {fo : Operand} {ags : Array Operand} {tys : Array TypeId} {l : Nat} {vs : List Value} {Pre : List (List Value) → List Value → Prop} {I : List (List Value) → Heap → Prop} {done : List (List Value)} {Hs own : Heap}
    (ho : o.op = .call { callee := .value fo, args := ags, argTypes := tys }) (hf : ρ.ev fo = some (.func (.yield l) #[] #[])) (hv : evL ρ ags.toList = some vs) (hY : RoundOk X.P X.w0 X.M l Pre I) (hpre : Pre done vs) (hI : I done Hs)
    (hH : H = own ++ Hs) : WrA X ρ H o fun v H' => ∃ Hs', v = .bool true ∧ H' = own ++ Hs' ∧ I (done ++ [vs]) Hs' := by
  subst hH
  refine ⟨fun c hc => (by rw [ho] at hc; cases hc), fun a w he hg => ?_⟩
  obtain ⟨f, tmps, assign, body, hrun, hround⟩ := hY done vs Hs own w hpre hI (hg.perm List.perm_append_comm)
  have hargs : ags.map a.eval = vs.toArray := Array.toList_inj.1 (by simp [evL_map he hv])
  have hex : (execOp a.eval o).run X.P w = .ok (.round l f tmps assign body) w := by
    simp only [execOp, ho, resolve, he _ _ hf, hargs, Deferred.ofValue, Sem.run_bind, Sem.run_pure, Result.andThen_ok, invoke, Array.empty_append, hrun]
  rw [hex]
  refine ⟨fun hd => (by simp [FW, Fence.wide] at hd), RoundIn.mono (hround : RoundIn (FW X.r) 0 X.P l f tmps assign body w _) ?_⟩
  rintro e w' ⟨Hs', rfl, hg', hI'⟩
  exact ⟨.bool true, own ++ Hs', rfl, hg'.perm List.perm_append_comm, Hs', rfl, rfl, hI'⟩

theorem getLoop_own {P : Program} {w w0 : World} {M : List Nat} {l : Nat} {r : Loop} (hg : Good w0 M H w) (h : (l, Obj.loop r) ∈ H) : w.heap[l]? = some (.loop r) := hg.own _ h

theorem roundOk_of {l : Nat} {r : Loop} {ρ0 : PEnv} {ps : Array Tmp} {Pre : List (List Value) → List Value → Prop} {I : List (List Value) → Heap → Prop} (htm : Agr X.n ρ0 [] { tmps := r.tmps, defers := [] }) (hps : r.params = ps) (hfit : ∀ t ∈ ps.toList, t < X.n)
    (hin : ∀ done Hs, I done Hs → (l, rdy r) ∈ Hs) (hlen : ∀ done vs, Pre done vs → vs.length = ps.size)
    (h : ∀ done vs Hs own, Pre done vs → I done Hs → V { X with r := some l } r.assign (bindP ps.toList vs ρ0) [] (Hs ++ own) (AsgQ { X with r := some l } l r r.body (EndQ l r fun H' => ∃ Hs', HSub (Hs' ++ own) H' ∧ I (done ++ [vs]) Hs'))) :
    RoundOk X.P X.w0 X.M l Pre I := by
  intro done vs Hs own w hpre hI hg
  have hm : (l, rdy r) ∈ Hs ++ own := List.mem_append_left _ (hin done Hs hI)
  have hl := hg.own _ hm
  refine ⟨_, _, _, _, run_yield (r := { r with state := .ready, pending := none }) hl (by simp [hlen done vs hpre, hps]), ?_⟩
  refine roundIn_of_wpIn trivial ?_
  have hag : Agr X.n (bindP ps.toList vs ρ0) [] { tmps := (r.params.zip vs.toArray).foldl (fun tmps (x : Nat × Value) => match x with | (t, a) => tmps.setIfInBounds t a) r.tmps, defers := [] } := by
    have := agr_bind ps.toList vs hfit htm
    rw [hps]
    have e : (ps.zip vs.toArray) = (ps.toList.zip vs).toArray := by apply Array.toList_inj.1; simp
    rw [e]
    simpa using this
  refine wpIn_mono (h done vs Hs own hpre hI _ w hag hg) ?_
  rintro e a₁ w₁ ⟨ρ1, ds1, H1, hag1, hg1, hq⟩
  cases e <;> first | exact hq.elim | skip
  obtain ⟨H2, hset, hbody⟩ := hq
  have hl1 : w₁.heap[l]? = some (.loop { r with state := .ready, pending := none }) := hg1.own _ hset.mem
  refine ⟨_, run_beginRound hl1 rfl, ?_⟩
  have hg2 : Good X.w0 X.M H2 (w₁.putObj l (bsy r)) := hg1.set hset rfl ⟨rfl, rfl⟩
  refine wpIn_mono (hbody a₁ _ hag1 hg2) ?_
  rintro e a₂ w₂ ⟨ρ2, ds2, H3, hag3, hg3, hq⟩
  cases e <;> first | exact hq.elim | skip
  obtain ⟨H4, hset2, Hs', hsub, hI'⟩ := hq
  have hl2 : w₂.heap[l]? = some (.loop { r with state := .busy, pending := none }) := hg3.own _ hset2.mem
  have hg4 : Good X.w0 X.M H4 (w₂.putObj l (rdy r)) := hg3.set hset2 rfl ⟨rfl, rfl⟩
  exact ⟨_, _, run_endRound none hl2, Hs', rfl, hg4.hsub hsub, hI'⟩

theorem V_range {g : Operand} {ps : Array Tmp} {assign body : Code} {f : FuncId} {cap : Array Value} {L : List (List Value)} {ks : List Nat} {ρf : PEnv} {H0 : Heap} (hr : X.r = none) (hk : Keep ρ ks ρf) (hgv : ρ.ev g = some (.func (.func f) #[] cap)) (hfit : ps.toList.all (Nat.blt · X.n) = true)
    (Pre : List (List Value) → List Value → Prop) (J : List (List Value) → Heap → Prop) (hlen : ∀ done vs, Pre done vs → vs.length = ps.size) (hsub : H0.Sublist H) (h0 : J [] H0)
    (round : ∀ l D r done vs Hr own, Pre done vs → J done Hr → V { X with r := some l } assign (bindP ps.toList vs ρf) [] ((l, rdy r) :: (D, .deferred (some [])) :: (Hr ++ own))
      (AsgQ { X with r := some l } l r body (EndQ l r fun H' => ∃ Hr', HSub ((l, rdy r) :: (D, .deferred (some [])) :: (Hr' ++ own)) H' ∧ J (done ++ [vs]) Hr')))
    (iter : ∀ l D r w, RoundOk X.P X.w0 X.M l Pre (fun done Hs => ∃ Hr, Hs = (l, rdy r) :: (D, .deferred (some [])) :: Hr ∧ J done Hr) → Good X.w0 X.M ((l, rdy r) :: (D, .deferred (some [])) :: H0) w →
      FnC X.P f (.func (.yield l) #[] #[] :: cap.toList) w fun _ w' => ∃ Hr, Good X.w0 X.M ((l, rdy r) :: (D, .deferred (some [])) :: Hr) w' ∧ J L Hr)
    (k : ∀ l D ob Hr, J L Hr → Q .normal ρf ({ target := .collected D, args := #[] } :: ds) ((l, ob) :: (D, .deferred (some [])) :: Hr)) : V X (.rangeFunc g ps assign body) ρ ds H Q := by
  intro a w ha hg
  have hg0 := hg.sub hsub
  let D := w.heap.size
  let l := w.heap.size + 1
  refine wpIn_rangeFunc fun fn _ => ?_
  let r : Loop := { state := .ready, pending := none, fn := fn, tmps := a.tmps, params := ps, assign := assign, body := body, defers := D }
  have hga : Good X.w0 X.M ((l, rdy r) :: (D, .deferred (some [])) :: H0) ((w.alloc (.deferred (some []))).alloc (.loop r)) := by
    have h1 := hg0.alloc (.deferred (some []))
    have h2 := h1.alloc (.loop r)
    have e : (w.alloc (.deferred (some []))).heap.size = w.heap.size + 1 := by simp
    rw [e] at h2
    exact h2
  have htm : Agr X.n ρf [] { tmps := r.tmps, defers := [] } := ⟨fun t v ht => (ha.sub hk.sub).at_ t v ht, ha.size, rfl⟩
  have hY : RoundOk X.P X.w0 X.M l Pre (fun done Hs => ∃ Hr, Hs = (l, rdy r) :: (D, .deferred (some [])) :: Hr ∧ J done Hr) := by
    refine roundOk_of (ps := ps) htm rfl (fun t ht => Nat.le_of_ble_eq_true (List.all_eq_true.1 hfit t ht)) ?_ hlen ?_
    · rintro done Hs ⟨Hr, rfl, _⟩; exact .head _
    · rintro done vs Hs own hp ⟨Hr, rfl, hJ⟩
      refine V.mono (round l D r done vs Hr own hp hJ) ?_
      intro e ρ1 ds1 H1 hq
      cases e <;> first | exact hq.elim | skip
      obtain ⟨H2, hs, hb⟩ := hq
      refine ⟨H2, hs, hb.mono ?_⟩
      intro e ρ2 ds2 H3 hq
      cases e <;> first | exact hq.elim | skip
      obtain ⟨H4, hs2, Hr', hh, hJ'⟩ := hq
      exact ⟨H4, hs2, _, hh, Hr', rfl, hJ'⟩
  have hc := iter l D r _ hY hga
  have hFr : (FW X.r).round = none := hr
  refine ⟨l, [{ target := .collected D, args := #[] }], (w.alloc (.deferred (some []))).alloc (.loop r), { target := .fn (.func f) cap, args := #[.func (.yield l) #[] #[]] }, (w.alloc (.deferred (some []))).alloc (.loop r), f, (.func (.yield l) #[] #[] :: cap.toList).toArray, (w.alloc (.deferred (some []))).alloc (.loop r), ?_, ?_, fun _ _ => trivial, ?_, fun hd => (by simp [FW, Fence.wide] at hd), ?_⟩
  · rw [hFr]; exact run_enterLoop_outer fn a.tmps ps assign body
  · simp only [resolve, ha.ev hgv, Deferred.ofValue]
    simp [Act.eval]
  · have e : #[Value.func (.yield l) #[] #[]] ++ cap = (.func (.yield l) #[] #[] :: cap.toList).toArray := by simp
    show (callFunc f (#[Value.func (.yield l) #[] #[]] ++ cap)).run X.P _ = _
    rw [e]; exact hc.ent _ _
  · refine callsIn_any (hc.calls.mono ?_)
    rintro e w' ⟨v, rfl, Hr, hg', hJ⟩
    have hl : w'.heap[l]? = some (.loop { r with state := .ready, pending := none }) := hg'.own _ (.head _)
    refine ⟨none, _, run_endLoop hl (by simp), ?_⟩
    refine ⟨ρf, _, _, ?_, hg'.set .head rfl ⟨rfl, rfl⟩, k l D _ Hr hJ⟩
    have h3 := ha.sub hk.sub
    exact ⟨h3.at_, h3.size, by show [({ target := .collected D, args := #[] } : Deferred)] ++ a.defers = _; rw [h3.defers]; rfl⟩

/-- 'x[i]' of an array's value, with elements of one cell -/
theorem p_at {x i : Operand} {t len el : Nat} {cs : Array Value} {k : Int} {v : Value} (hu : X.P.underlying t = some (.array len el)) (ha : tyAgg X.P el = some false) (hz : tySize X.P el = some 1) (ho : o.op = .index t x i) (hx : ρ.ev x = some (.agg cs)) (hi : ρ.ev i = some (.int .i64 k))
    (h0 : 0 ≤ k) (h1 : k < len) (hv : cs.toList[k.toNat]? = some v) : RdP X ρ o v := by
  refine ⟨fun c h => (by rw [ho] at h; cases h), fun e w he => ?_⟩
  have hv' : cs[k.toNat]? = some v := by rw [← hv]; simp
  simp [execOp, ho, he _ _ hx, he _ _ hi, Instr.index, asIntOf, run_underlying' hu, h0, h1, run_sizeOf' hz, Go.part, run_isAgg' ha, hv']

/-- the same, with elements of several cells -/
theorem p_atA {x i : Operand} {t len el n : Nat} {cs : Array Value} {k : Int} {vs : List Value} (hu : X.P.underlying t = some (.array len el)) (ha : tyAgg X.P el = some true) (hz : tySize X.P el = some n) (ho : o.op = .index t x i) (hx : ρ.ev x = some (.agg cs)) (hi : ρ.ev i = some (.int .i64 k))
    (h0 : 0 ≤ k) (h1 : k < len) (hv : (cs.toList.drop (k.toNat * n)).take n = vs) : RdP X ρ o (.agg vs.toArray) := by
  refine ⟨fun c h => (by rw [ho] at h; cases h), fun e w he => ?_⟩
  have hv' : cs.extract (k.toNat * n) (k.toNat * n + n) = vs.toArray := by
    apply Array.toList_inj.1
    rw [← hv]
    simp
  simp [execOp, ho, he _ _ hx, he _ _ hi, Instr.index, asIntOf, run_underlying' hu, h0, h1, run_sizeOf' hz, Go.part, run_isAgg' ha, hv']

/-- append, the heap taken apart -/
theorem w_app {s x : Operand} {t e size bytes n m c : Nat} {v : Value} {xs news : List Value} {pre G post : Heap} {a : Option Addr} (ht : appOf X.P t = some (e, size, bytes))
    (ho : o.op = .call { callee := .builtin .append, args := #[s, x], argTypes := #[t, t] }) (hs : ρ.ev s = some v) (hx : ρ.ev x = some (.slice a m c)) (hgr : Grow e size v n xs G) (hH : H = pre ++ (G ++ post))
    (hl : news.length = m * size) (hnews : ∀ w, Good X.w0 X.M H w → ∀ j u, news[j]? = some u → ∃ b, a = some b ∧ w.cell? (b.add j) = some u)
    (h1 : ∀ u ∈ news, u.oneCell' = true) (hb : (n + m) * bytes ≤ 140737488355328) (h63 : n + m ≤ maxLen) :
    WrA X ρ H o fun v' H' => ∃ a' cap' G', v' = .slice a' (n + m) cap' ∧ H' = pre ++ (G' ++ post) ∧ Grow e size (.slice a' (n + m) cap') (n + m) (xs ++ news) G' := by
  subst hH
  have h := w_append (HF := fun G => pre ++ (G ++ post)) ht ho hs hx hgr ⟨pre, post, fun _ => rfl⟩ hl hnews h1 hb h63
  refine ⟨h.nd, fun a w he hg => uponIn_mono ?_ (h.run a w he hg)⟩
  rintro a1 w1 ⟨v, H', h1, h2, G', h3, h4⟩
  have : ∃ a' cap', v = .slice a' (n + m) cap' := by
    generalize n + m = k at h4
    generalize xs ++ news = ys at h4
    cases h4 with
    | nil => exact ⟨_, _, rfl⟩
    | row => exact ⟨_, _, rfl⟩
  obtain ⟨a', cap', rfl⟩ := this
  exact ⟨_, H', h1, h2, a', cap', G', rfl, h3, h4⟩

theorem WrA.perm {R R' : Value → Heap → Prop} (h : WrA X ρ H o R) (hr : ∀ v H', R v H' → ∃ H'', H'.Perm H'' ∧ R' v H'') : WrA X ρ H o R' :=
  ⟨h.nd, fun a w he hg => uponIn_mono (fun a' w' ⟨v, H', h1, h2, h3⟩ => let ⟨H'', h4, h5⟩ := hr v H' h3; ⟨v, H'', h1, h2.perm h4, h5⟩) (h.run a w he hg)⟩

/-- A call that makes memory, of which part is a row that grew: it is laid behind ours. -/
theorem w_callG {fo : Operand} {ags : Array Operand} {tys : Array TypeId} {f : FuncId} {cap : Array Value} {vs : List Value} {R : Value → Heap → Heap → Prop} {pre post : Heap} (ho : o.op = .call { callee := .value fo, args := ags, argTypes := tys })
    (hf : ρ.ev fo = some (.func (.func f) #[] cap)) (hv : evL ρ ags.toList = some vs) (hH : H = pre ++ post) (h : ∀ w, Good X.w0 X.M H w → FnC X.P f (vs ++ cap.toList) w fun v w' => ∃ Hc, Good w [] Hc w' ∧ ∃ A G, Hc = A ++ G ∧ R v A G) :
    WrA X ρ H o fun u H' => ∃ A G, H' = A ++ (pre ++ (G ++ post)) ∧ (∀ p ∈ A, X.w0.heap.size ≤ p.1) ∧ R u A G := by
  refine (w_callN ho hf hv h).perm ?_
  rintro v _ ⟨_, rfl, hfr, A, G, rfl, hR⟩
  subst hH
  refine ⟨A ++ (pre ++ (G ++ post)), ?_, A, G, rfl, fun p hp => hfr p (List.mem_append_left _ hp), hR⟩
  rw [List.append_assoc]
  refine List.Perm.append_left _ ?_
  rw [← List.append_assoc, ← List.append_assoc]
  exact List.Perm.append_right _ List.perm_append_comm

/-! ### loops, round by round -/

def LoopV (X : Cx) (c : Code) (ρ : PEnv) (ds : List Deferred) (H : Heap) (Q : Post) : Prop :=
  ∀ a w, Agr X.n ρ ds a → Good X.w0 X.M H w → ∀ (b : Frame) (k : List Item) (cs : List Frame), b.roundOf = X.r →
    ∃ e a' w', Lift X Q e a' w' ∧ ArrivesIn (Machine.fenced X.P (FW X.r)) X.P (lone (b.atR a (.code c :: .inLoop c :: k)) cs w) b k cs e a' w'

theorem V_loopU {c : Code} (h : LoopV X c ρ ds H Q) : V X (.loop c) ρ ds H Q := by
  intro a w ha hg b k cs hro hb hr
  obtain ⟨e, a', w', hq, harr⟩ := h a w ha hg b k cs hro
  exact ⟨e, a', w', hq, .of_steps (.one (fenced_calm (n := 0) (fr := b.atR a (.code (.loop c) :: k)) hb hr rfl) stepR_loop) harr⟩

theorem LU_step {c : Code} (h : V X c ρ ds H (Then (fun ρ' ds' H' => LoopV X c ρ' ds' H' Q) Q)) : LoopV X c ρ ds H Q := by
  intro a w ha hg b k cs hro
  obtain ⟨e, a₁, w₁, hq, harr⟩ := h a w ha hg b (.inLoop c :: k) cs hro trivial (FW.room _ _)
  obtain ⟨ρ', ds', H', h1, h2, h3⟩ := hq
  cases e with
  | normal =>
    obtain ⟨e₂, a₂, w₂, hq₂, harr₂⟩ := h3 a₁ w₁ h1 h2 b k cs hro
    exact ⟨e₂, a₂, w₂, hq₂, .of_steps (StepsIn.trans harr (.one (fenced_calm (n := 0) (fr := b.atR a₁ (.inLoop c :: k)) trivial (FW.room _ _) rfl) stepR_inLoop)) harr₂⟩
  | exit id => exact ⟨_, a₁, w₁, ⟨ρ', ds', H', h1, h2, h3⟩, .pass (x := .inLoop c) rfl (fun _ _ => .inl (by simp)) harr⟩
  | goto l => exact ⟨_, a₁, w₁, ⟨ρ', ds', H', h1, h2, h3⟩, .pass (x := .inLoop c) rfl (fun _ _ => .inl (by simp)) harr⟩
  | ret => exact ⟨_, a₁, w₁, ⟨ρ', ds', H', h1, h2, h3⟩, .pass (x := .inLoop c) rfl (fun _ _ => .inl (by simp)) harr⟩
  | panic ch => exact ⟨_, a₁, w₁, ⟨ρ', ds', H', h1, h2, h3⟩, .pass (x := .inLoop c) rfl (fun _ _ => .inl (by simp)) harr⟩
  | outgrown => exact ⟨_, a₁, w₁, ⟨ρ', ds', H', h1, h2, h3⟩, .pass (x := .inLoop c) rfl (fun _ _ => .inl (by simp)) harr⟩

theorem asgI {X : Cx} {l : Nat} {r : Loop} {body : Code} {Q2 : Post} {H' : Heap} (hs : SetAt H l (rdy r) (bsy r) H') (h : V X body ρ ds H' Q2) : AsgQ X l r body Q2 .normal ρ ds H := ⟨H', hs, h⟩
theorem endI {l : Nat} {r : Loop} {K : Heap → Prop} {H' : Heap} (hs : SetAt H l (bsy r) (rdy r) H') (h : K H') : EndQ l r K .normal ρ ds H := ⟨H', hs, h⟩

theorem news_own {b ty : Nat} {cur : Array Value} {fr : Nat × Nat} (hm : (b, Obj.cells cur ty fr) ∈ H) : ∀ w, Good X.w0 X.M H w → ∀ (j : Nat) u, cur.toList[j]? = some u → ∃ b', some (⟨b, 0, none⟩ : Addr) = some b' ∧ w.cell? (b'.add j) = some u := by
  intro w hg j u hj
  refine ⟨_, rfl, ?_⟩
  rw [add_none, own_cell (hg.own _ hm)]
  simpa using hj

end

/-- A function's contract, over another's memory. -/
theorem fn_bodyG {P : Program} {f : FuncId} {fn : Func} {c : Code} {args : List Value} {w0 w : World} {M : List Nat} {H0 : Heap} {n : Nat} {rs : List ResultVar} {R : Value → Heap → Prop}
    (hf : P.funcs[f]? = some fn) (hb : fn.body = some c) (hname : (fn.name == "runtime.NumGoroutine") = false) (hn : fn.ntmps = n) (hr : fn.results = rs.toArray) (hl : Nat.ble args.length n = true) (hg : Good w0 M H0 w)
    (h : V ⟨P, none, n, w0, M⟩ c (argEnv args 0) [] H0 (RetQ P rs R)) : FnC P f args w fun v w' => ∃ H, Good w0 M H w' ∧ R v H := by
  refine ⟨ent_of hf hname hb, callsIn_of_wp_marks hf hb trivial ?_⟩
  subst hn
  refine wpIn_mono (h _ w (entryAgr (Nat.le_of_ble_eq_true hl)) hg) ?_
  rintro e a w' ⟨ρ, ds, H, ha, hg', hq⟩
  cases e with
  | normal => rw [show bodyPostM (FW none) 0 P fn _ .normal a w' = LeavesInM _ _ _ _ _ _ _ _ _ from rfl, ha.defers]; exact leave_leaves hr ha hq w' hg'
  | ret => rw [show bodyPostM (FW none) 0 P fn _ .ret a w' = LeavesInM _ _ _ _ _ _ _ _ _ from rfl, ha.defers]; exact leave_leaves hr ha hq w' hg'
  | _ => exact hq.elim

end Go.Vc

/- What the tables say of the types in hand. -/
set_option linter.all false
namespace Go.Proofs.YtlcccpeelombbaaDoor
open Go.Vc
theorem mixed : Tryd.prog.follows .mixedOrders = true := by kernel_rfl
theorem ag102 : tyAgg Tryd.prog 102 = some false := by kernel_rfl
theorem ag104 : tyAgg Tryd.prog 104 = some false := by kernel_rfl
theorem ag116 : tyAgg Tryd.prog 116 = some false := by kernel_rfl
theorem ag117 : tyAgg Tryd.prog 117 = some true := by kernel_rfl
theorem ag121 : tyAgg Tryd.prog 121 = some true := by kernel_rfl
theorem ag124 : tyAgg Tryd.prog 124 = some false := by kernel_rfl
theorem ag129 : tyAgg Tryd.prog 129 = some true := by kernel_rfl
theorem ag162 : tyAgg Tryd.prog 162 = some true := by kernel_rfl
theorem ag168 : tyAgg Tryd.prog 168 = some true := by kernel_rfl
theorem ag174 : tyAgg Tryd.prog 174 = some true := by kernel_rfl
theorem ag183 : tyAgg Tryd.prog 183 = some false := by kernel_rfl
theorem ag22 : tyAgg Tryd.prog 22 = some false := by kernel_rfl
theorem ag24 : tyAgg Tryd.prog 24 = some true := by kernel_rfl
theorem ag26 : tyAgg Tryd.prog 26 = some true := by kernel_rfl
theorem ag3 : tyAgg Tryd.prog 3 = some false := by kernel_rfl
theorem ag30 : tyAgg Tryd.prog 30 = some false := by kernel_rfl
theorem ag33 : tyAgg Tryd.prog 33 = some true := by kernel_rfl
theorem ag36 : tyAgg Tryd.prog 36 = some true := by kernel_rfl
theorem ag4 : tyAgg Tryd.prog 4 = some false := by kernel_rfl
theorem ag40 : tyAgg Tryd.prog 40 = some true := by kernel_rfl
theorem ag42 : tyAgg Tryd.prog 42 = some true := by kernel_rfl
theorem ag5 : tyAgg Tryd.prog 5 = some false := by kernel_rfl
theorem ag51 : tyAgg Tryd.prog 51 = some false := by kernel_rfl
theorem ag52 : tyAgg Tryd.prog 52 = some false := by kernel_rfl
theorem ag54 : tyAgg Tryd.prog 54 = some true := by kernel_rfl
theorem ag56 : tyAgg Tryd.prog 56 = some true := by kernel_rfl
theorem ag60 : tyAgg Tryd.prog 60 = some true := by kernel_rfl
theorem ag63 : tyAgg Tryd.prog 63 = some true := by kernel_rfl
theorem ag66 : tyAgg Tryd.prog 66 = some false := by kernel_rfl
theorem ag70 : tyAgg Tryd.prog 70 = some true := by kernel_rfl
theorem ag9 : tyAgg Tryd.prog 9 = some false := by kernel_rfl
theorem ag92 : tyAgg Tryd.prog 92 = some false := by kernel_rfl
theorem ag99 : tyAgg Tryd.prog 99 = some false := by kernel_rfl
theorem ap66 : appOf Tryd.prog 66 = some (3, 1, 8) := by kernel_rfl
theorem ar117 : arrOf Tryd.prog 117 = some (6, 1) := by kernel_rfl
theorem ar137 : arrOf Tryd.prog 137 = some (3, 1) := by kernel_rfl
theorem ar40 : arrOf Tryd.prog 40 = some (3, 1) := by kernel_rfl
theorem ar47 : arrOf Tryd.prog 47 = some (6, 1) := by kernel_rfl
theorem eg24 : Tryd.prog.eqGuardType Tryd.prog.depth 24 = false := by kernel_rfl
theorem eg36 : Tryd.prog.eqGuardType Tryd.prog.depth 36 = false := by kernel_rfl
theorem es170 : elemSz Tryd.prog 170 = some 1 := by kernel_rfl
theorem es187 : elemSz Tryd.prog 187 = some 1 := by kernel_rfl
theorem es22 : elemSz Tryd.prog 22 = some 4 := by kernel_rfl
theorem es34 : elemSz Tryd.prog 34 = some 1 := by kernel_rfl
theorem es51 : elemSz Tryd.prog 51 = some 6 := by kernel_rfl
theorem es52 : elemSz Tryd.prog 52 = some 5 := by kernel_rfl
theorem es66 : elemSz Tryd.prog 66 = some 1 := by kernel_rfl
theorem fo101_0 : fieldOff Tryd.prog 101 0 = some 0 := by kernel_rfl
theorem fo101_1 : fieldOff Tryd.prog 101 1 = some 5 := by kernel_rfl
theorem fo101_2 : fieldOff Tryd.prog 101 2 = some 6 := by kernel_rfl
theorem fo121_0 : fieldOff Tryd.prog 121 0 = some 0 := by kernel_rfl
theorem fo129_0 : fieldOff Tryd.prog 129 0 = some 0 := by kernel_rfl
theorem fo129_1 : fieldOff Tryd.prog 129 1 = some 13 := by kernel_rfl
theorem fo162_0 : fieldOff Tryd.prog 162 0 = some 0 := by kernel_rfl
theorem fo162_1 : fieldOff Tryd.prog 162 1 = some 1 := by kernel_rfl
theorem fo162_2 : fieldOff Tryd.prog 162 2 = some 2 := by kernel_rfl
theorem fo162_3 : fieldOff Tryd.prog 162 3 = some 3 := by kernel_rfl
theorem fo162_4 : fieldOff Tryd.prog 162 4 = some 4 := by kernel_rfl
theorem fo162_5 : fieldOff Tryd.prog 162 5 = some 5 := by kernel_rfl
theorem fo174_0 : fieldOff Tryd.prog 174 0 = some 0 := by kernel_rfl
theorem fo174_1 : fieldOff Tryd.prog 174 1 = some 1 := by kernel_rfl
theorem fo24_0 : fieldOff Tryd.prog 24 0 = some 0 := by kernel_rfl
theorem fo24_1 : fieldOff Tryd.prog 24 1 = some 1 := by kernel_rfl
theorem fo26_0 : fieldOff Tryd.prog 26 0 = some 0 := by kernel_rfl
theorem fo26_1 : fieldOff Tryd.prog 26 1 = some 1 := by kernel_rfl
theorem fo26_2 : fieldOff Tryd.prog 26 2 = some 3 := by kernel_rfl
theorem fo26_3 : fieldOff Tryd.prog 26 3 = some 4 := by kernel_rfl
theorem fo33_0 : fieldOff Tryd.prog 33 0 = some 0 := by kernel_rfl
theorem fo33_1 : fieldOff Tryd.prog 33 1 = some 1 := by kernel_rfl
theorem fo33_2 : fieldOff Tryd.prog 33 2 = some 3 := by kernel_rfl
theorem fo33_3 : fieldOff Tryd.prog 33 3 = some 5 := by kernel_rfl
theorem fo33_4 : fieldOff Tryd.prog 33 4 = some 7 := by kernel_rfl
theorem fo33_5 : fieldOff Tryd.prog 33 5 = some 9 := by kernel_rfl
theorem fo33_6 : fieldOff Tryd.prog 33 6 = some 11 := by kernel_rfl
theorem fo36_0 : fieldOff Tryd.prog 36 0 = some 0 := by kernel_rfl
theorem fo36_1 : fieldOff Tryd.prog 36 1 = some 2 := by kernel_rfl
theorem fo42_0 : fieldOff Tryd.prog 42 0 = some 0 := by kernel_rfl
theorem fo42_1 : fieldOff Tryd.prog 42 1 = some 1 := by kernel_rfl
theorem fo54_0 : fieldOff Tryd.prog 54 0 = some 0 := by kernel_rfl
theorem fo54_1 : fieldOff Tryd.prog 54 1 = some 1 := by kernel_rfl
theorem fo54_2 : fieldOff Tryd.prog 54 2 = some 2 := by kernel_rfl
theorem fo54_3 : fieldOff Tryd.prog 54 3 = some 3 := by kernel_rfl
theorem fo54_4 : fieldOff Tryd.prog 54 4 = some 4 := by kernel_rfl
theorem fo56_0 : fieldOff Tryd.prog 56 0 = some 0 := by kernel_rfl
theorem fo56_1 : fieldOff Tryd.prog 56 1 = some 13 := by kernel_rfl
theorem fo56_2 : fieldOff Tryd.prog 56 2 = some 17 := by kernel_rfl
theorem fo56_3 : fieldOff Tryd.prog 56 3 = some 19 := by kernel_rfl
theorem fo56_4 : fieldOff Tryd.prog 56 4 = some 20 := by kernel_rfl
theorem fo60_0 : fieldOff Tryd.prog 60 0 = some 0 := by kernel_rfl
theorem fo60_1 : fieldOff Tryd.prog 60 1 = some 1 := by kernel_rfl
theorem fo60_2 : fieldOff Tryd.prog 60 2 = some 2 := by kernel_rfl
theorem fo60_3 : fieldOff Tryd.prog 60 3 = some 3 := by kernel_rfl
theorem fo70_0 : fieldOff Tryd.prog 70 0 = some 0 := by kernel_rfl
theorem fo70_1 : fieldOff Tryd.prog 70 1 = some 1 := by kernel_rfl
theorem fo70_2 : fieldOff Tryd.prog 70 2 = some 2 := by kernel_rfl
theorem fo70_3 : fieldOff Tryd.prog 70 3 = some 3 := by kernel_rfl
theorem fo70_4 : fieldOff Tryd.prog 70 4 = some 4 := by kernel_rfl
theorem isl170 : (Tryd.prog.underlying 170).any (fun d => match d with | .slice _ => true | _ => false) = true := by kernel_rfl
theorem isl22 : (Tryd.prog.underlying 22).any (fun d => match d with | .slice _ => true | _ => false) = true := by kernel_rfl
theorem isl34 : (Tryd.prog.underlying 34).any (fun d => match d with | .slice _ => true | _ => false) = true := by kernel_rfl
theorem isl51 : (Tryd.prog.underlying 51).any (fun d => match d with | .slice _ => true | _ => false) = true := by kernel_rfl
theorem isl52 : (Tryd.prog.underlying 52).any (fun d => match d with | .slice _ => true | _ => false) = true := by kernel_rfl
theorem isl66 : (Tryd.prog.underlying 66).any (fun d => match d with | .slice _ => true | _ => false) = true := by kernel_rfl
theorem ist9 : (Tryd.prog.underlying 9).any (fun d => match d with | .string => true | _ => false) = true := by kernel_rfl
theorem lv168 : leaves Tryd.prog 10 168 = some [.int .i64, .int .i64] := by kernel_rfl
theorem lv174 : leaves Tryd.prog 10 174 = some [.int .i64, .int .i64] := by kernel_rfl
theorem lv24 : leaves Tryd.prog 10 24 = some [.int .i64, .int .i64] := by kernel_rfl
theorem lv36 : leaves Tryd.prog 10 36 = some [.int .i64, .int .i64, .int .i64, .int .i64] := by kernel_rfl
theorem pl101 : placesOf Tryd.prog 101 = some [(0, 5), (5, 1), (6, 1)] := by kernel_rfl
theorem pl121 : placesOf Tryd.prog 121 = some [(0, 2)] := by kernel_rfl
theorem pl129 : placesOf Tryd.prog 129 = some [(0, 13), (13, 1)] := by kernel_rfl
theorem pl168 : placesOf Tryd.prog 168 = some [(0, 1), (1, 1)] := by kernel_rfl
theorem pl174 : placesOf Tryd.prog 174 = some [(0, 1), (1, 1)] := by kernel_rfl
theorem pl24 : placesOf Tryd.prog 24 = some [(0, 1), (1, 1)] := by kernel_rfl
theorem pl26 : placesOf Tryd.prog 26 = some [(0, 1), (1, 2), (3, 1), (4, 1)] := by kernel_rfl
theorem pl33 : placesOf Tryd.prog 33 = some [(0, 1), (1, 2), (3, 2), (5, 2), (7, 2), (9, 2), (11, 2)] := by kernel_rfl
theorem pl36 : placesOf Tryd.prog 36 = some [(0, 2), (2, 2)] := by kernel_rfl
theorem pl42 : placesOf Tryd.prog 42 = some [(0, 1), (1, 1)] := by kernel_rfl
theorem pl54 : placesOf Tryd.prog 54 = some [(0, 1), (1, 1), (2, 1), (3, 1), (4, 1)] := by kernel_rfl
theorem pl56 : placesOf Tryd.prog 56 = some [(0, 13), (13, 4), (17, 2), (19, 1), (20, 1)] := by kernel_rfl
theorem pl60 : placesOf Tryd.prog 60 = some [(0, 1), (1, 1), (2, 1), (3, 1)] := by kernel_rfl
theorem pl63 : placesOf Tryd.prog 63 = some [(0, 1), (1, 1), (2, 1)] := by kernel_rfl
theorem sz102 : tySize Tryd.prog 102 = some 1 := by kernel_rfl
theorem sz116 : tySize Tryd.prog 116 = some 1 := by kernel_rfl
theorem sz117 : tySize Tryd.prog 117 = some 6 := by kernel_rfl
theorem sz121 : tySize Tryd.prog 121 = some 2 := by kernel_rfl
theorem sz124 : tySize Tryd.prog 124 = some 1 := by kernel_rfl
theorem sz129 : tySize Tryd.prog 129 = some 14 := by kernel_rfl
theorem sz162 : tySize Tryd.prog 162 = some 6 := by kernel_rfl
theorem sz168 : tySize Tryd.prog 168 = some 2 := by kernel_rfl
theorem sz174 : tySize Tryd.prog 174 = some 2 := by kernel_rfl
theorem sz183 : tySize Tryd.prog 183 = some 1 := by kernel_rfl
theorem sz24 : tySize Tryd.prog 24 = some 2 := by kernel_rfl
theorem sz26 : tySize Tryd.prog 26 = some 5 := by kernel_rfl
theorem sz3 : tySize Tryd.prog 3 = some 1 := by kernel_rfl
theorem sz30 : tySize Tryd.prog 30 = some 1 := by kernel_rfl
theorem sz33 : tySize Tryd.prog 33 = some 13 := by kernel_rfl
theorem sz36 : tySize Tryd.prog 36 = some 4 := by kernel_rfl
theorem sz4 : tySize Tryd.prog 4 = some 1 := by kernel_rfl
theorem sz40 : tySize Tryd.prog 40 = some 3 := by kernel_rfl
theorem sz42 : tySize Tryd.prog 42 = some 2 := by kernel_rfl
theorem sz54 : tySize Tryd.prog 54 = some 5 := by kernel_rfl
theorem sz56 : tySize Tryd.prog 56 = some 21 := by kernel_rfl
theorem sz60 : tySize Tryd.prog 60 = some 4 := by kernel_rfl
theorem sz63 : tySize Tryd.prog 63 = some 3 := by kernel_rfl
theorem sz66 : tySize Tryd.prog 66 = some 1 := by kernel_rfl
theorem sz70 : tySize Tryd.prog 70 = some 5 := by kernel_rfl
theorem sz92 : tySize Tryd.prog 92 = some 1 := by kernel_rfl
theorem un117 : Tryd.prog.underlying 117 = some (.array 6 116) := by kernel_rfl
theorem un137 : Tryd.prog.underlying 137 = some (.array 3 30) := by kernel_rfl
theorem un166 : Tryd.prog.underlying 166 = some (.map 168 4) := by kernel_rfl
theorem un170 : Tryd.prog.underlying 170 = some (.slice 30) := by kernel_rfl
theorem un187 : Tryd.prog.underlying 187 = some (.slice 183) := by kernel_rfl
theorem un22 : Tryd.prog.underlying 22 = some (.slice 60) := by kernel_rfl
theorem un3 : Tryd.prog.underlying 3 = some (.int .i64) := by kernel_rfl
theorem un34 : Tryd.prog.underlying 34 = some (.slice 5) := by kernel_rfl
theorem un5 : Tryd.prog.underlying 5 = some (.int .u8) := by kernel_rfl
theorem un66 : Tryd.prog.underlying 66 = some (.slice 3) := by kernel_rfl
theorem un9 : Tryd.prog.underlying 9 = some (.string) := by kernel_rfl
theorem un99 : Tryd.prog.underlying 99 = some (.map 174 121) := by kernel_rfl
theorem zr101 : tyZero Tryd.prog 101 = some (.agg #[.int .i64 0, .int .i64 0, .int .i64 0, .slice none 0 0, .slice none 0 0, .slice none 0 0, .map none]) := by kernel_rfl
theorem zr102 : tyZero Tryd.prog 102 = some (.pointer none) := by kernel_rfl
theorem zr117 : tyZero Tryd.prog 117 = some (.agg #[.pointer none, .pointer none, .pointer none, .pointer none, .pointer none, .pointer none]) := by kernel_rfl
theorem zr121 : tyZero Tryd.prog 121 = some (.agg #[.int .i64 0, .int .i64 0]) := by kernel_rfl
theorem zr124 : tyZero Tryd.prog 124 = some (.nilFunc) := by kernel_rfl
theorem zr129 : tyZero Tryd.prog 129 = some (.agg #[.int .i64 0, .int .i64 0, .int .i64 0, .int .i64 0, .int .i64 0, .int .i64 0, .int .i64 0, .int .i64 0, .int .i64 0, .int .i64 0, .int .i64 0, .int .i64 0, .int .i64 0, .int .i64 0]) := by kernel_rfl
theorem zr137 : tyZero Tryd.prog 137 = some (.agg #[.nilFunc, .nilFunc, .nilFunc]) := by kernel_rfl
theorem zr162 : tyZero Tryd.prog 162 = some (.agg #[.string ByteArray.empty, .int .i64 0, .int .i64 0, .int .i64 0, .int .i64 0, .int .i64 0]) := by kernel_rfl
theorem zr168 : tyZero Tryd.prog 168 = some (.agg #[.int .i64 0, .int .i64 0]) := by kernel_rfl
theorem zr174 : tyZero Tryd.prog 174 = some (.agg #[.int .i64 0, .int .i64 0]) := by kernel_rfl
theorem zr183 : tyZero Tryd.prog 183 = some (.nilFunc) := by kernel_rfl
theorem zr24 : tyZero Tryd.prog 24 = some (.agg #[.int .i64 0, .int .i64 0]) := by kernel_rfl
theorem zr26 : tyZero Tryd.prog 26 = some (.agg #[.slice none 0 0, .int .i64 0, .int .i64 0, .int .i64 0, .int .i64 0]) := by kernel_rfl
theorem zr3 : tyZero Tryd.prog 3 = some (.int .i64 0) := by kernel_rfl
theorem zr30 : tyZero Tryd.prog 30 = some (.nilFunc) := by kernel_rfl
theorem zr33 : tyZero Tryd.prog 33 = some (.agg #[.int .i64 0, .int .i64 0, .int .i64 0, .int .i64 0, .int .i64 0, .int .i64 0, .int .i64 0, .int .i64 0, .int .i64 0, .int .i64 0, .int .i64 0, .int .i64 0, .int .i64 0]) := by kernel_rfl
theorem zr36 : tyZero Tryd.prog 36 = some (.agg #[.int .i64 0, .int .i64 0, .int .i64 0, .int .i64 0]) := by kernel_rfl
theorem zr4 : tyZero Tryd.prog 4 = some (.bool false) := by kernel_rfl
theorem zr40 : tyZero Tryd.prog 40 = some (.agg #[.int .i64 0, .int .i64 0, .int .i64 0]) := by kernel_rfl
theorem zr42 : tyZero Tryd.prog 42 = some (.agg #[.int .i64 0, .int .i64 0]) := by kernel_rfl
theorem zr54 : tyZero Tryd.prog 54 = some (.agg #[.int .i64 0, .int .i64 0, .int .i64 0, .slice none 0 0, .slice none 0 0]) := by kernel_rfl
theorem zr56 : tyZero Tryd.prog 56 = some (.agg #[.int .i64 0, .int .i64 0, .int .i64 0, .int .i64 0, .int .i64 0, .int .i64 0, .int .i64 0, .int .i64 0, .int .i64 0, .int .i64 0, .int .i64 0, .int .i64 0, .int .i64 0, .int .i64 0, .int .i64 0, .int .i64 0, .int .i64 0, .int .i64 0, .int .i64 0, .int .i64 0, .int .i64 0]) := by kernel_rfl
theorem zr60 : tyZero Tryd.prog 60 = some (.agg #[.int .i64 0, .int .i64 0, .int .i64 0, .int .i64 0]) := by kernel_rfl
theorem zr63 : tyZero Tryd.prog 63 = some (.agg #[.int .i64 0, .int .i64 0, .int .i64 0]) := by kernel_rfl
theorem zr70 : tyZero Tryd.prog 70 = some (.agg #[.int .i64 0, .int .i64 0, .int .i64 0, .int .i64 0, .int .i64 0]) := by kernel_rfl
theorem zr92 : tyZero Tryd.prog 92 = some (.nilIface) := by kernel_rfl
end Go.Proofs.YtlcccpeelombbaaDoor
