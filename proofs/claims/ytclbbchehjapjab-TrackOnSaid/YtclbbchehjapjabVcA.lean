/- The general part: a calculus of frames and owned blocks over the fenced walk. -/
import Derived.CallsIn
import Derived.OrdersIn
import Derived.OwnWalkIn
import Derived.RangeFuncIn
import Derived.Laws.Sem
import Derived.Laws.World
set_option linter.all false
namespace Go.Vc

/-! ### the world -/

abbrev Heap := List (Nat × Obj)

theorem mH {α : Type} {x : α} {l : List α} : x ∈ x :: l := .head _
theorem mT {α : Type} {x y : α} {l : List α} (h : x ∈ l) : x ∈ y :: l := .tail _ h

/-- what tidies a condition -/
theorem td : (∀ (p : Prop) [Decidable p], (decide p = true) = p) ∧ (∀ (p : Prop) [Decidable p], (decide p = false) ↔ ¬ p) ∧ (∀ b : Bool, ((!b) = true) = (b = false)) ∧ (∀ b : Bool, ((!b) = false) = (b = true)) ∧
    ((!true) = false) ∧ ((!false) = true) ∧ (∀ (α : Type) (a b : α), (a ≠ b) = ¬ (a = b)) ∧ (∀ a b : Int, ¬ (a < b) ↔ b ≤ a) ∧ (∀ a b : Int, ¬ (a ≤ b) ↔ b < a) ∧ (∀ (p : Prop) [Decidable p], ¬ ¬ p ↔ p) ∧
    (∀ (α : Type) (f : α → Bool) (a : α) (l : List α), (a :: l).any f = (f a || l.any f)) ∧ (∀ (α : Type) (f : α → Bool), ([] : List α).any f = false) ∧ (∀ b : Bool, (b || false) = b) ∧
    (∀ a b : Bool, ((a || b) = true) = (a = true ∨ b = true)) ∧ (∀ a b : Bool, ((a || b) = false) = (a = false ∧ b = false)) :=
  ⟨fun _ => decide_eq_true_eq, fun _ => decide_eq_false_iff_not, fun b => (by cases b <;> simp), fun b => (by cases b <;> simp), rfl, rfl, fun _ _ _ => rfl, fun _ _ => Int.not_lt, fun _ _ => Int.not_le, fun _ => Decidable.not_not,
    fun _ _ _ _ => rfl, fun _ _ => rfl, fun b => (by cases b <;> rfl), fun a b => (by cases a <;> cases b <;> simp), fun a b => (by cases a <;> cases b <;> simp)⟩

/-- What is written out, and the machine around, as it was. -/
def SameIO (w0 w : World) : Prop := w.os = w0.os ∧ w.output = w0.output
theorem SameIO.trans {a b c : World} (h : SameIO a b) (k : SameIO b c) : SameIO a c := ⟨k.1.trans h.1, k.2.trans h.2⟩

structure Good (w0 : World) (M : List Nat) (H : Heap) (w : World) : Prop where
  size : w0.heap.size ≤ w.heap.size
  base : ∀ b, b < w0.heap.size → b ∉ M → w.heap[b]? = w0.heap[b]?
  own : ∀ p ∈ H, w.heap[p.1]? = some p.2
  nd : (H.map Prod.fst).Nodup
  out : ∀ p ∈ H, p.1 < w0.heap.size → p.1 ∈ M
  io : SameIO w0 w

theorem lt_of_some {α : Type} {xs : Array α} {i : Nat} {x : α} (h : xs[i]? = some x) : i < xs.size := by
  rcases Nat.lt_or_ge i xs.size with h' | h'
  · exact h'
  · simp [Array.getElem?_eq_none h'] at h

theorem Good.start (w : World) : Good w [] [] w := ⟨Nat.le_refl _, fun _ _ _ => rfl, by simp, by simp, by simp, rfl, rfl⟩

theorem Good.startWith {w : World} {H : Heap} (h : ∀ p ∈ H, w.heap[p.1]? = some p.2) (hn : (H.map Prod.fst).Nodup) : Good w (H.map Prod.fst) H w :=
  ⟨Nat.le_refl _, fun _ _ _ => rfl, h, hn, fun p hp _ => List.mem_map_of_mem hp, rfl, rfl⟩

theorem Good.lt {w0 w : World} {M : List Nat} {H : Heap} (h : Good w0 M H w) {p : Nat × Obj} (hp : p ∈ H) : p.1 < w.heap.size :=
  lt_of_some (h.own p hp)

theorem Good.drew {w0 w : World} {M : List Nat} {H : Heap} (h : Good w0 M H w) (n : Nat) : Good w0 M H { w with drawn := n } :=
  ⟨h.size, h.base, h.own, h.nd, h.out, h.io⟩

theorem Good.alloc {w0 w : World} {M : List Nat} {H : Heap} (h : Good w0 M H w) (o : Obj) : Good w0 M ((w.heap.size, o) :: H) (w.alloc o) where
  size := by have := h.size; simp; omega
  base := fun b hb hM => by
    have := h.size
    rw [← h.base b hb hM]
    simp only [World.alloc]
    rw [Array.getElem?_push, if_neg (by omega)]
  own := fun p hp => by
    simp only [List.mem_cons] at hp
    simp only [World.alloc]
    rcases hp with rfl | hp
    · simp
    · have := h.lt hp
      rw [Array.getElem?_push, if_neg (by omega)]; exact h.own p hp
  nd := by
    simp only [List.map_cons, List.nodup_cons]
    refine ⟨fun hm => ?_, h.nd⟩
    obtain ⟨p, hp, e⟩ := List.mem_map.1 hm
    have := h.lt hp
    omega
  out := fun p hp hlt => by
    simp only [List.mem_cons] at hp
    rcases hp with rfl | hp
    · have := h.size; simp at hlt; omega
    · exact h.out p hp hlt
  io := h.io

/-- One owned block's content becomes another. -/
inductive SetAt : Heap → Nat → Obj → Obj → Heap → Prop
  | head {b : Nat} {o o' : Obj} {R : Heap} : SetAt ((b, o) :: R) b o o' ((b, o') :: R)
  | tail {x : Nat × Obj} {b : Nat} {o o' : Obj} {R R' : Heap} (h : SetAt R b o o' R') : SetAt (x :: R) b o o' (x :: R')

theorem SetAt.mem {H H' : Heap} {b : Nat} {o o' : Obj} (h : SetAt H b o o' H') : (b, o) ∈ H := by
  induction h with
  | head => exact .head _
  | tail _ ih => exact .tail _ ih

theorem SetAt.keys {H H' : Heap} {b : Nat} {o o' : Obj} (h : SetAt H b o o' H') : H'.map Prod.fst = H.map Prod.fst := by
  induction h with
  | head => rfl
  | tail _ ih => simp [ih]

theorem SetAt.mem' {H H' : Heap} {b : Nat} {o o' : Obj} (h : SetAt H b o o' H') (hn : (H.map Prod.fst).Nodup) : ∀ p ∈ H', p = (b, o') ∨ (p ∈ H ∧ p.1 ≠ b) := by
  induction h with
  | head =>
    rename_i b' o1 o1' R
    intro p hp
    simp only [List.map_cons, List.nodup_cons] at hn
    rcases List.mem_cons.1 hp with rfl | hp
    · exact .inl rfl
    · exact .inr ⟨.tail _ hp, fun e => hn.1 (e ▸ List.mem_map_of_mem hp)⟩
  | tail hh ih =>
    rename_i x b' o1 o1' R R'
    intro p hp
    simp only [List.map_cons, List.nodup_cons] at hn
    rcases List.mem_cons.1 hp with rfl | hp
    · refine .inr ⟨.head _, fun e => hn.1 (e ▸ ?_)⟩
      exact List.mem_map_of_mem (f := Prod.fst) hh.mem
    · rcases ih hn.2 p hp with h | h
      · exact .inl h
      · exact .inr ⟨.tail _ h.1, h.2⟩

theorem Good.set {w0 w : World} {M : List Nat} {H H' : Heap} {b : Nat} {o o' : Obj} (h : Good w0 M H w) (hs : SetAt H b o o' H') {w' : World}
    (hw : w'.heap = w.heap.setIfInBounds b o') (hio : SameIO w w') : Good w0 M H' w' where
  io := h.io.trans hio
  size := by rw [hw]; simpa using h.size
  base := fun c hc hM => by
    rw [← h.base c hc hM, hw, Array.getElem?_setIfInBounds]
    have hne : b ≠ c := fun e => hM (e ▸ h.out _ hs.mem (e ▸ hc))
    rw [if_neg hne]
  own := fun p hp => by
    rw [hw, Array.getElem?_setIfInBounds]
    rcases hs.mem' h.nd p hp with rfl | ⟨hp', hne⟩
    · have := h.lt hs.mem; simp [this]
    · rw [if_neg (fun e => hne e.symm)]; exact h.own p hp'
  nd := by rw [hs.keys]; exact h.nd
  out := fun p hp hlt => by
    rcases hs.mem' h.nd p hp with rfl | ⟨hp', _⟩
    · exact (h.out (b, o) hs.mem hlt : b ∈ M)
    · exact h.out p hp' hlt

/-- Fewer blocks are owned. -/
theorem Good.sub {w0 w : World} {M : List Nat} {H H' : Heap} (h : Good w0 M H w) (hs : H'.Sublist H) : Good w0 M H' w :=
  ⟨h.size, h.base, fun p hp => h.own p (hs.subset hp), (hs.map Prod.fst).nodup h.nd, fun p hp => h.out p (hs.subset hp), h.io⟩

/-- A step that changed no block that lay (but may have laid new ones). -/
structure Ext (w w' : World) : Prop where
  size : w.heap.size ≤ w'.heap.size
  same : ∀ b, b < w.heap.size → w'.heap[b]? = w.heap[b]?
  io : SameIO w w'

theorem Ext.refl (w : World) : Ext w w := ⟨Nat.le_refl _, fun _ _ => rfl, rfl, rfl⟩
theorem Ext.trans {w w' w'' : World} (h : Ext w w') (h' : Ext w' w'') : Ext w w'' :=
  ⟨Nat.le_trans h.size h'.size, fun b hb => (h'.same b (Nat.lt_of_lt_of_le hb h.size)).trans (h.same b hb), h.io.trans h'.io⟩
theorem Ext.drew (w : World) (n : Nat) : Ext w { w with drawn := n } := ⟨Nat.le_refl _, fun _ _ => rfl, rfl, rfl⟩
theorem Ext.heap {w w' : World} (h : Ext w w') {b : Nat} {o : Obj} (hb : w.heap[b]? = some o) : w'.heap[b]? = some o :=
  (h.same b (lt_of_some hb)).trans hb

theorem Good.ext {w0 w w' : World} {M : List Nat} {H : Heap} (h : Good w0 M H w) (he : Ext w w') : Good w0 M H w' where
  size := Nat.le_trans h.size he.size
  base := fun b hb hM => (he.same b (Nat.lt_of_lt_of_le hb h.size)).trans (h.base b hb hM)
  own := fun p hp => (he.same _ (h.lt hp)).trans (h.own p hp)
  nd := h.nd
  out := h.out
  io := h.io.trans he.io

theorem Good.toExt {w0 w : World} {H : Heap} (h : Good w0 [] H w) : Ext w0 w := ⟨h.size, fun b hb => h.base b hb (by simp), h.io⟩

/-- Back from a callee that owned Hc (some of ours among them): what it left, and the rest of ours. -/
theorem Good.back {w0 w w' : World} {M Mc : List Nat} {H Hc H' : Heap} (h : Good w0 M H w) (hc : Good w Mc Hc w')
    (hM : ∀ b ∈ Mc, ∃ o, (b, o) ∈ H)
    (hs : ∀ p ∈ H', p ∈ Hc ∨ (p ∈ H ∧ p.1 ∉ Mc)) (hn : (H'.map Prod.fst).Nodup) : Good w0 M H' w' where
  io := h.io.trans hc.io
  size := Nat.le_trans h.size hc.size
  base := fun b hb hMb => by
    rw [hc.base b (Nat.lt_of_lt_of_le hb h.size) (fun hm => by obtain ⟨o, ho⟩ := hM b hm; exact hMb (h.out _ ho hb))]
    exact h.base b hb hMb
  own := fun p hp => by
    rcases hs p hp with hp' | ⟨hp', hn'⟩
    · exact hc.own p hp'
    · rw [hc.base p.1 (h.lt hp') hn']; exact h.own p hp'
  nd := hn
  out := fun p hp hlt => by
    rcases hs p hp with hp' | ⟨hp', _⟩
    · obtain ⟨o, ho⟩ := hM p.1 (hc.out p hp' (Nat.lt_of_lt_of_le hlt h.size))
      exact (h.out (p.1, o) ho hlt : p.1 ∈ M)
    · exact h.out p hp' hlt

/-! ### the frame -/

abbrev PEnv := List (Nat × Value)

def PEnv.get : PEnv → Nat → Option Value
  | [], _ => none
  | (k, v) :: r, t => bif Nat.beq k t then some v else PEnv.get r t

def PEnv.ev (ρ : PEnv) : Operand → Option Value
  | .tmp t => ρ.get t
  | .const v => some v
  | .global g => some (.pointer (some ⟨g, 0, none⟩))
  | .func f => some (.func (.func f) #[] #[])

def PEnv.put (ρ : PEnv) (d : Option Tmp) (v : Value) : PEnv :=
  match d with
  | some d => (d, v) :: ρ
  | none => ρ

/-- What is known of a frame. -/
structure Agr (n : Nat) (ρ : PEnv) (ds : List Deferred) (a : Act) : Prop where
  at_ : ∀ t v, ρ.get t = some v → a.tmps[t]? = some v
  size : a.tmps.size = n
  defers : a.defers = ds

theorem Agr.ev {n : Nat} {ρ : PEnv} {ds : List Deferred} {a : Act} (h : Agr n ρ ds a) {x : Operand} {v : Value} (hx : ρ.ev x = some v) : a.eval x = v := by
  cases x with
  | tmp t =>
    have := h.at_ t v hx
    simp [Act.eval, Array.getD_eq_getD_getElem?, this]
  | const c => simpa [PEnv.ev, Act.eval] using hx
  | global g => simpa [PEnv.ev, Act.eval] using hx
  | func f => simpa [PEnv.ev, Act.eval] using hx

theorem Agr.put {n : Nat} {ρ : PEnv} {ds : List Deferred} {a : Act} (h : Agr n ρ ds a) {d : Option Tmp} (hd : ∀ t, d = some t → t < n) (v : Value) :
    Agr n (ρ.put d v) ds (a.put d v) := by
  cases d with
  | none => exact h
  | some d =>
    refine ⟨fun t u ht => ?_, by simpa [Act.put] using h.size, by simpa [Act.put] using h.defers⟩
    simp only [PEnv.put, PEnv.get] at ht
    simp only [Act.put]
    rw [Array.getElem?_setIfInBounds]
    have hlt : d < a.tmps.size := by rw [h.size]; exact hd d rfl
    cases hb : Nat.beq d t with
    | true =>
      have e : d = t := Nat.eq_of_beq_eq_true hb
      subst e
      simp only [hb, cond_true, Option.some.injEq] at ht
      simp [hlt, ht]
    | false =>
      have e : d ≠ t := Nat.ne_of_beq_eq_false hb
      rw [if_neg e]
      simp only [hb, cond_false] at ht
      exact h.at_ t u ht

/-- The known part is cut to these slots. -/
inductive Keep (ρ : PEnv) : List Nat → PEnv → Prop
  | nil : Keep ρ [] []
  | cons {k : Nat} {ks : List Nat} {v : Value} {ρ' : PEnv} (h : ρ.get k = some v) (r : Keep ρ ks ρ') : Keep ρ (k :: ks) ((k, v) :: ρ')

def Sub (ρ' ρ : PEnv) : Prop := ∀ t v, ρ'.get t = some v → ρ.get t = some v

theorem Sub.nil (ρ : PEnv) : Sub [] ρ := fun _ _ h => by simp [PEnv.get] at h
theorem Sub.cons {k : Nat} {v : Value} {ρ' ρ : PEnv} (h : ρ.get k = some v) (r : Sub ρ' ρ) : Sub ((k, v) :: ρ') ρ := fun t u ht => by
  simp only [PEnv.get] at ht
  cases hb : Nat.beq k t with
  | true => have e := Nat.eq_of_beq_eq_true hb; subst e; simp only [hb, cond_true, Option.some.injEq] at ht; rw [h, ht]
  | false => simp only [hb, cond_false] at ht; exact r t u ht
theorem Keep.sub {ρ ρ' : PEnv} {ks : List Nat} (h : Keep ρ ks ρ') : Sub ρ' ρ := by
  induction h with
  | nil => exact .nil _
  | cons h _ ih => exact .cons h ih
theorem sub_app {a b ρ : PEnv} (ha : Sub a ρ) (hb : Sub b ρ) : Sub (a ++ b) ρ := by
  intro t v h
  cases hg : a.get t with
  | some u =>
    have : (a ++ b).get t = some u := by
      clear ha h
      induction a with
      | nil => simp [PEnv.get] at hg
      | cons p a ih =>
        obtain ⟨k, x⟩ := p
        simp only [List.cons_append, PEnv.get] at hg ⊢
        cases hb : Nat.beq k t
        · rw [hb] at hg; exact ih hg
        · rw [hb] at hg; exact hg
    rw [this] at h
    rw [← h]; exact ha t u hg
  | none =>
    refine hb t v ?_
    have : (a ++ b).get t = b.get t := by
      clear ha h
      induction a with
      | nil => rfl
      | cons p a ih =>
        obtain ⟨k, x⟩ := p
        simp only [List.cons_append, PEnv.get] at hg ⊢
        cases hb : Nat.beq k t
        · rw [hb] at hg; exact ih hg
        · rw [hb] at hg; cases hg
    rw [← this]; exact h
theorem Agr.sub {n : Nat} {ρ ρ' : PEnv} {ds : List Deferred} {a : Act} (h : Agr n ρ ds a) (hs : Sub ρ' ρ) : Agr n ρ' ds a :=
  ⟨fun t v ht => h.at_ t v (hs t v ht), h.size, h.defers⟩

/-! ### the judgements -/

/-- The fence: any function, any depth; in a round of loop r, or in none. -/
abbrev FW (r : Option Nat) : Fence := { Fence.wide with round := r }

theorem FW.room (r : Option Nat) (k : Nat) : (FW r).room k := fun _ h => by simp [FW, Fence.wide] at h
theorem FW.fn (r : Option Nat) (f : FuncId) : (FW r).fn f := trivial

structure Cx where
  P : Program
  r : Option Nat
  n : Nat
  w0 : World
  M : List Nat

abbrev Post := Exit → PEnv → List Deferred → Heap → Prop

def Lift (X : Cx) (Q : Post) : Exit → Act → World → Prop := fun e a w => ∃ ρ ds H, Agr X.n ρ ds a ∧ Good X.w0 X.M H w ∧ Q e ρ ds H

def V (X : Cx) (c : Code) (ρ : PEnv) (ds : List Deferred) (H : Heap) (Q : Post) : Prop :=
  ∀ a w, Agr X.n ρ ds a → Good X.w0 X.M H w → c.wpIn (FW X.r) 0 X.P (Lift X Q) a w

def Then (k : PEnv → List Deferred → Heap → Prop) (Q : Post) : Post
  | .normal, ρ, ds, H => k ρ ds H
  | e, ρ, ds, H => Q e ρ ds H

def InBlock (id : Nat) (Q : Post) : Post
  | .exit id', ρ, ds, H => bif Nat.beq id' id then Q .normal ρ ds H else Q (.exit id') ρ ds H
  | e, ρ, ds, H => Q e ρ ds H

section
variable {X : Cx} {ρ : PEnv} {ds : List Deferred} {H : Heap} {Q : Post}

theorem V.mono {c : Code} {Q' : Post} (h : V X c ρ ds H Q) (hq : ∀ e ρ ds H, Q e ρ ds H → Q' e ρ ds H) : V X c ρ ds H Q' :=
  fun a w ha hg => wpIn_mono (h a w ha hg) fun _ _ _ ⟨ρ', ds', H', h1, h2, h3⟩ => ⟨ρ', ds', H', h1, h2, hq _ _ _ _ h3⟩

theorem V_seq {x y : Code} (h : V X x ρ ds H (Then (fun ρ ds H => V X y ρ ds H Q) Q)) : V X (.seq x y) ρ ds H Q := by
  intro a w ha hg
  refine wpIn_seq (wpIn_mono (h a w ha hg) ?_)
  rintro e a' w' ⟨ρ', ds', H', h1, h2, h3⟩
  cases e <;> first | exact h3 a' w' h1 h2 | exact ⟨ρ', ds', H', h1, h2, h3⟩

theorem V_skip (h : Q .normal ρ ds H) : V X .skip ρ ds H Q := fun _ _ ha hg => wpIn_skip ⟨ρ, ds, H, ha, hg, h⟩
theorem V_label {l : Nat} (h : Q .normal ρ ds H) : V X (.label l) ρ ds H Q := fun _ _ ha hg => wpIn_label ⟨ρ, ds, H, ha, hg, h⟩
theorem V_exit {id : Nat} (h : Q (.exit id) ρ ds H) : V X (.exit id) ρ ds H Q := fun _ _ ha hg => wpIn_exit ⟨ρ, ds, H, ha, hg, h⟩
theorem V_ret (h : Q .ret ρ ds H) : V X .ret ρ ds H Q := fun _ _ ha hg => wpIn_ret ⟨ρ, ds, H, ha, hg, h⟩

theorem V_cond {c : Operand} {x y : Code} {t : Bool} (hc : ρ.ev c = some (.bool t)) (hx : t = true → V X x ρ ds H Q) (hy : t = false → V X y ρ ds H Q) :
    V X (.cond c x y) ρ ds H Q := fun a w ha hg => wpIn_cond_split (ha.ev hc) (fun h => hx h a w ha hg) (fun h => hy h a w ha hg)

theorem V_cond_t {c : Operand} {x y : Code} {t : Bool} (hc : ρ.ev c = some (.bool t)) (ht : t = true) (hx : V X x ρ ds H Q) : V X (.cond c x y) ρ ds H Q :=
  V_cond hc (fun _ => hx) (fun h => by rw [ht] at h; cases h)
theorem V_cond_f {c : Operand} {x y : Code} {t : Bool} (hc : ρ.ev c = some (.bool t)) (ht : t = false) (hy : V X y ρ ds H Q) : V X (.cond c x y) ρ ds H Q :=
  V_cond hc (fun h => by rw [ht] at h; cases h) (fun _ => hy)

theorem V_block {id : Nat} {c : Code} (h : V X c ρ ds H (InBlock id Q)) : V X (.block id c) ρ ds H Q := by
  intro a w ha hg
  refine wpIn_block (wpIn_mono (h a w ha hg) ?_)
  rintro e a' w' ⟨ρ', ds', H', h1, h2, h3⟩
  cases e with
  | exit id' =>
    simp only [Exit.inBlock]
    by_cases he : id' = id
    · rw [if_pos he]
      have hb : Nat.beq id' id = true := by rw [he]; exact Nat.beq_refl id
      simp only [InBlock, hb, cond_true] at h3
      exact ⟨ρ', ds', H', h1, h2, h3⟩
    · rw [if_neg he]
      have hb : Nat.beq id' id = false := by
        cases hh : Nat.beq id' id with
        | false => rfl
        | true => exact absurd (Nat.eq_of_beq_eq_true hh) he
      simp only [InBlock, hb, cond_false] at h3
      exact ⟨ρ', ds', H', h1, h2, h3⟩
  | _ => exact ⟨ρ', ds', H', h1, h2, h3⟩

/-- What is known is cut down. -/
theorem V_sub {c : Code} {ρ' : PEnv} {H' : Heap} (hs : Sub ρ' ρ) (hh : H'.Sublist H) (h : V X c ρ' ds H' Q) : V X c ρ ds H Q :=
  fun a w ha hg => h a w (ha.sub hs) (hg.sub hh)

theorem then_n {k : PEnv → List Deferred → Heap → Prop} (h : k ρ ds H) : Then k Q .normal ρ ds H := h
theorem then_e {k : PEnv → List Deferred → Heap → Prop} {i : Nat} (h : Q (.exit i) ρ ds H) : Then k Q (.exit i) ρ ds H := h
theorem then_r {k : PEnv → List Deferred → Heap → Prop} (h : Q .ret ρ ds H) : Then k Q .ret ρ ds H := h
theorem blk_n {i : Nat} (h : Q .normal ρ ds H) : InBlock i Q .normal ρ ds H := h
theorem blk_r {i : Nat} (h : Q .ret ρ ds H) : InBlock i Q .ret ρ ds H := h
theorem blk_e {i j : Nat} (hb : Nat.beq j i = true) (h : Q .normal ρ ds H) : InBlock i Q (.exit j) ρ ds H := by simp only [InBlock, hb, cond_true]; exact h
theorem blk_o {i j : Nat} (hb : Nat.beq j i = false) (h : Q (.exit j) ρ ds H) : InBlock i Q (.exit j) ρ ds H := by simp only [InBlock, hb, cond_false]; exact h

/-- A loop: γ runs over what the rounds' heads look like. -/
theorem V_loop {c : Code} {γ : Type} (ρI : γ → PEnv) (HI : γ → Heap) (inv : γ → Prop) (μ : γ → Nat) (g0 : γ) (hs : Sub (ρI g0) ρ) (hh : (HI g0).Sublist H) (h0 : inv g0)
    (round : ∀ g, inv g → V X c (ρI g) ds (HI g) (Then (fun ρ' ds' H' => ∃ g', inv g' ∧ μ g' < μ g ∧ Sub (ρI g') ρ' ∧ (HI g').Sublist H' ∧ ds' = ds) Q)) :
    V X (.loop c) ρ ds H Q := by
  intro a w ha hg
  have key : ∀ n g a w, μ g = n → inv g → Agr X.n (ρI g) ds a → Good X.w0 X.M (HI g) w →
      ∀ (b : Frame) (k : List Item) (cs : List Frame), b.roundOf = X.r →
        ∃ e a' w', Lift X Q e a' w' ∧ ArrivesIn (Machine.fenced X.P (FW X.r)) X.P (lone (b.atR a (.code c :: .inLoop c :: k)) cs w) b k cs e a' w' := by
    intro n
    induction n using Nat.strongRecOn with
    | _ n ih =>
      intro g a w hn hI ha hg b k cs hro
      obtain ⟨e, a₁, w₁, hq, harr⟩ := round g hI a w ha hg b (.inLoop c :: k) cs hro trivial (FW.room _ _)
      obtain ⟨ρ', ds', H', h1, h2, h3⟩ := hq
      cases e with
      | normal =>
        obtain ⟨g', hi', hlt, hsub, hhs, hds⟩ := h3
        have h1' := h1.sub hsub
        rw [hds] at h1'
        obtain ⟨e₂, a₂, w₂, hq₂, harr₂⟩ := ih (μ g') (hn ▸ hlt) g' a₁ w₁ rfl hi' h1' (h2.sub hhs) b k cs hro
        exact ⟨e₂, a₂, w₂, hq₂, .of_steps (StepsIn.trans harr (.one (fenced_calm (n := 0) (fr := b.atR a₁ (.inLoop c :: k)) trivial (FW.room _ _) rfl) stepR_inLoop)) harr₂⟩
      | exit id => exact ⟨_, a₁, w₁, ⟨ρ', ds', H', h1, h2, h3⟩, .pass (x := .inLoop c) rfl (fun _ _ => .inl (by simp)) harr⟩
      | goto l => exact ⟨_, a₁, w₁, ⟨ρ', ds', H', h1, h2, h3⟩, .pass (x := .inLoop c) rfl (fun _ _ => .inl (by simp)) harr⟩
      | ret => exact ⟨_, a₁, w₁, ⟨ρ', ds', H', h1, h2, h3⟩, .pass (x := .inLoop c) rfl (fun _ _ => .inl (by simp)) harr⟩
      | panic ch => exact ⟨_, a₁, w₁, ⟨ρ', ds', H', h1, h2, h3⟩, .pass (x := .inLoop c) rfl (fun _ _ => .inl (by simp)) harr⟩
      | outgrown => exact ⟨_, a₁, w₁, ⟨ρ', ds', H', h1, h2, h3⟩, .pass (x := .inLoop c) rfl (fun _ _ => .inl (by simp)) harr⟩
  intro b k cs hro hb hr
  obtain ⟨e, a', w', hq, harr⟩ := key _ g0 a w rfl h0 (ha.sub hs) (hg.sub hh) b k cs hro
  exact ⟨e, a', w', hq, .of_steps (.one (fenced_calm (n := 0) (fr := b.atR a (.code (.loop c) :: k)) hb hr rfl) stepR_loop) harr⟩

/-- A loop that leaves the owned blocks as they are; some slots are fixed. -/
theorem V_loop0 {c : Code} {γ : Type} {ks : List Nat} {ρf : PEnv} (hk : Keep ρ ks ρf) (ρv : γ → PEnv) (inv : γ → Prop) (μ : γ → Nat) (g0 : γ) (hs : Sub (ρv g0) ρ) (h0 : inv g0)
    (round : ∀ g, inv g → V X c (ρv g ++ ρf) ds H (Then (fun ρ' ds' H' => ∃ g', inv g' ∧ μ g' < μ g ∧ Sub (ρv g' ++ ρf) ρ' ∧ H.Sublist H' ∧ ds' = ds) Q)) :
    V X (.loop c) ρ ds H Q :=
  V_loop (fun g => ρv g ++ ρf) (fun _ => H) inv μ g0 (sub_app hs hk.sub) (List.Sublist.refl _) h0 round

/-- The same where owned blocks turn, too. -/
theorem V_loop1 {c : Code} {γ : Type} {ks : List Nat} {ρf : PEnv} (hk : Keep ρ ks ρf) (ρv : γ → PEnv) (HI : γ → Heap) (inv : γ → Prop) (μ : γ → Nat) (g0 : γ) (hs : Sub (ρv g0) ρ) (hh : (HI g0).Sublist H) (h0 : inv g0)
    (round : ∀ g, inv g → V X c (ρv g ++ ρf) ds (HI g) (Then (fun ρ' ds' H' => ∃ g', inv g' ∧ μ g' < μ g ∧ Sub (ρv g' ++ ρf) ρ' ∧ (HI g').Sublist H' ∧ ds' = ds) Q)) :
    V X (.loop c) ρ ds H Q :=
  V_loop (fun g => ρv g ++ ρf) HI inv μ g0 (sub_app hs hk.sub) hh h0 round
end

end Go.Vc
