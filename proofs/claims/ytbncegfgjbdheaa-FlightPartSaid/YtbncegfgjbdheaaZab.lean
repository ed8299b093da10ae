/- Joined texts. -/
import Derived.Test.YtbncegfgjbdheaaZaa
import Derived.Laws.Cells
import Derived.Laws.Build
import Derived.Laws.StructEq
import Derived.KernelRfl
import Derived.IntWalk
import Derived.Laws.Strings
/- What single operations do. -/
set_option linter.all false
namespace Go.Vc

/-! ### types, read off the tables -/

def tyAgg (P : Program) (t : TypeId) : Option Bool := match P.underlying t with
  | some (.struct _) => some true
  | some (.array _ _) => some true
  | some _ => some false
  | none => none
def tySize (P : Program) (t : TypeId) : Option Nat := (P.info? t).map (·.size)
def tyZero (P : Program) (t : TypeId) : Option Value := (P.info? t).bind (·.zero)
def fieldOff (P : Program) (s i : Nat) : Option Nat := match P.underlying s with
  | some (.struct fs) => match fs[i]? with
    | some f => match tySize P f.type with
      | some (_ + 1) => some f.offset
      | _ => none
    | none => none
  | _ => none
def elemSz (P : Program) (t : TypeId) : Option Nat := match P.underlying t with
  | some (.slice e) => tySize P e
  | _ => none
def arrOf (P : Program) (t : TypeId) : Option (Nat × Nat) := match P.underlying t with
  | some (.array n e) => (tySize P e).map (n, ·)
  | _ => none
/-- offset and size of each field -/
def placesOf (P : Program) (t : TypeId) : Option (List (Nat × Nat)) := match P.underlying t with
  | some (.struct fs) => fs.toList.mapM fun f => (tySize P f.type).map (f.offset, ·)
  | _ => none

section
variable {P : Program} {w : World} {t : TypeId}

theorem run_typeInfo' {i : TypeInfo} (h : P.info? t = some i) : (typeInfo t).run P w = .ok i w := by simp [typeInfo, h]

theorem run_underlying' {d : TypeDesc} (h : P.underlying t = some d) : (underlying t).run P w = .ok d w := by simp [underlying, h]

theorem run_sizeOf' {n : Nat} (h : tySize P t = some n) : (sizeOf t).run P w = .ok n w := by
  unfold tySize at h
  cases hi : P.info? t with
  | none => simp [hi] at h
  | some i =>
    simp only [hi, Option.map_some, Option.some.injEq] at h
    simp [sizeOf, run_typeInfo' hi, h]

theorem run_zeroValue' {v : Value} (h : tyZero P t = some v) : (zeroValue t).run P w = .ok v w := by
  unfold tyZero at h
  cases hi : P.info? t with
  | none => simp [hi] at h
  | some i =>
    simp only [hi, Option.bind_some] at h
    simp [zeroValue, run_typeInfo' hi, h]

theorem run_isAgg' {b : Bool} (h : tyAgg P t = some b) : (isAgg t).run P w = .ok b w := by
  unfold tyAgg at h
  cases hu : P.underlying t with
  | none => simp [hu] at h
  | some d =>
    rw [hu] at h
    cases d <;> simp at h <;> subst h <;> simp [isAgg, run_underlying' hu]
end

/-! ### cells -/

theorem add_none (b o k : Nat) : (⟨b, o, none⟩ : Addr).add k = ⟨b, o + k, none⟩ := by
  unfold Addr.add
  split
  · rename_i h; simp [h]
  rfl

theorem add_add (a : Addr) (j k : Nat) : (a.add j).add k = a.add (j + k) := by
  unfold Addr.add
  by_cases hj : j = 0
  · simp [hj]
  by_cases hk : k = 0
  · simp [hk, hj]
  have : ¬ (j + k = 0) := by omega
  simp [hj, hk, this, Nat.add_assoc]

theorem add_zero' (a : Addr) : a.add 0 = a := by simp [Addr.add]

theorem add_block (a : Addr) (k : Nat) : (a.add k).block = a.block := by unfold Addr.add; split <;> rfl

def cellsAt (w : World) (a : Addr) (vs : List Value) : Prop := ∀ j v, vs[j]? = some v → w.cell? (a.add j) = some v

theorem cellsAt.sub {w : World} {a : Addr} {vs : List Value} (h : cellsAt w a vs) (k n : Nat) : cellsAt w (a.add k) ((vs.drop k).take n) := by
  intro j v hj
  rw [add_add]
  refine h _ _ ?_
  rw [List.getElem?_take] at hj
  split at hj
  · rwa [List.getElem?_drop] at hj
  cases hj

theorem cell_lt {w : World} {a : Addr} {v : Value} (h : w.cell? a = some v) : a.block < w.heap.size := by
  unfold World.cell? at h
  cases hb : w.heap[a.block]? with
  | none => simp [hb] at h
  | some o => exact lt_of_some hb

theorem cell_of_heap {w w' : World} {a : Addr} (h : w'.heap[a.block]? = w.heap[a.block]?) : w'.cell? a = w.cell? a := by
  unfold World.cell?; rw [h]

theorem Good.cell {w0 w : World} {M : List Nat} {H : Heap} (h : Good w0 M H w) {a : Addr} {v : Value} (hc : w0.cell? a = some v) (hM : a.block ∉ M) : w.cell? a = some v := by
  rw [cell_of_heap (h.base _ (cell_lt hc) hM)]; exact hc

theorem Good.cells {w0 w : World} {M : List Nat} {H : Heap} (h : Good w0 M H w) {a : Addr} {vs : List Value} (hc : cellsAt w0 a vs) (hM : a.block ∉ M) : cellsAt w a vs :=
  fun j v hj => h.cell (hc j v hj) (by rw [add_block]; exact hM)

theorem Ext.cell {w w' : World} (h : Ext w w') {a : Addr} {v : Value} (hc : w.cell? a = some v) : w'.cell? a = some v := by
  rw [cell_of_heap (h.same _ (cell_lt hc))]; exact hc

theorem Ext.cells {w w' : World} (h : Ext w w') {a : Addr} {vs : List Value} (hc : cellsAt w a vs) : cellsAt w' a vs := fun j v hj => h.cell (hc j v hj)

theorem own_cell {w : World} {b : Nat} {cs : Array Value} {t : TypeId} {fr : Nat × Nat} (h : w.heap[b]? = some (.cells cs t fr)) (off : Nat) : w.cell? ⟨b, off, none⟩ = cs.toList[off]? := by
  simp [World.cell?, h]

theorem own_cellsAt {w : World} {b : Nat} {cs : Array Value} {t : TypeId} {fr : Nat × Nat} (h : w.heap[b]? = some (.cells cs t fr)) (off : Nat) : cellsAt w ⟨b, off, none⟩ (cs.toList.drop off) := by
  intro j v hj
  rw [add_none, own_cell h, ← hj, List.getElem?_drop]

def sliceL (l : List Value) (off n : Nat) : Option (List Value) := bif Nat.ble (off + n) l.length then some ((l.drop off).take n) else none

theorem sliceL_spec {l vs : List Value} {off n : Nat} (h : sliceL l off n = some vs) : vs = (l.drop off).take n ∧ vs.length = n := by
  unfold sliceL at h
  cases hb : Nat.ble (off + n) l.length with
  | false => simp [hb] at h
  | true =>
    have := Nat.le_of_ble_eq_true hb
    simp only [hb, cond_true, Option.some.injEq] at h
    subst h
    exact ⟨rfl, by simp; omega⟩

theorem run_loadVar {P : Program} {w : World} {t : TypeId} {a : Addr} {v : Value} (ha : tyAgg P t = some false) (hc : w.cell? a = some v) : (loadVar t a).run P w = .ok v w := by
  simp [loadVar, run_isAgg' ha, hc]

theorem run_loadVar_agg {P : Program} {w : World} {t : TypeId} {a : Addr} {n : Nat} {vs : List Value} (ha : tyAgg P t = some true) (hs : tySize P t = some n) (hn : vs.length = n) (hc : cellsAt w a vs) :
    (loadVar t a).run P w = .ok (.agg vs.toArray) w := by
  subst hn
  have := run_loadCells_list (P := P) (w := w) a vs hc
  simp [loadVar, run_isAgg' ha, run_sizeOf' hs, this]

theorem beq_dec {α : Type} [BEq α] [LawfulBEq α] [DecidableEq α] (a b : α) : (a == b) = decide (a = b) := by rw [Bool.eq_iff_iff]; simp

theorem bytes_ext {a b : ByteArray} (h : a.data.toList = b.data.toList) : a = b := by
  obtain ⟨⟨x⟩⟩ := a
  obtain ⟨⟨y⟩⟩ := b
  simp only at h
  rw [h]
theorem bytes_dec (a b : ByteArray) : (a.toList == b.toList) = decide (a = b) := by
  rw [ByteArray.toList_eq, ByteArray.toList_eq, Bool.eq_iff_iff]
  simp only [beq_iff_eq, decide_eq_true_eq]
  exact ⟨bytes_ext, fun h => by rw [h]⟩

/-! ### pure operations -/

section
variable {X : Cx} {ρ : PEnv} {H : Heap} {o : Oper}

theorem p_move {x : Operand} {v : Value} (ho : o.op = .move x) (hx : ρ.ev x = some v) : RdP X ρ o v :=
  ⟨fun c h => (by rw [ho] at h; cases h), fun e w he => by simp [execOp, ho, he _ _ hx]⟩

theorem p_assign {x : Operand} {v : Value} (ho : o.op = .assign x) (hx : ρ.ev x = some v) : RdP X ρ o v :=
  ⟨fun c h => (by rw [ho] at h; cases h), fun e w he => by simp [execOp, ho, he _ _ hx]⟩

theorem p_pick_t {c a b : Operand} {v : Value} {t : Bool} (ho : o.op = .pick c a b) (hc : ρ.ev c = some (.bool t)) (ht : t = true) (ha : ρ.ev a = some v) : RdP X ρ o v :=
  ⟨fun c h => (by rw [ho] at h; cases h), fun e w he => by simp [execOp, ho, he _ _ hc, he _ _ ha, ht, asBool]⟩

theorem p_pick_f {c a b : Operand} {v : Value} {t : Bool} (ho : o.op = .pick c a b) (hc : ρ.ev c = some (.bool t)) (ht : t = false) (hb : ρ.ev b = some v) : RdP X ρ o v :=
  ⟨fun c h => (by rw [ho] at h; cases h), fun e w he => by simp [execOp, ho, he _ _ hc, he _ _ hb, ht, asBool]⟩

theorem p_not {x : Operand} {t : TypeId} {b : Bool} (ho : o.op = .unOp .not t x) (hx : ρ.ev x = some (.bool b)) : RdP X ρ o (.bool !b) :=
  ⟨fun c h => (by rw [ho] at h; cases h), fun e w he => by simp [execOp, ho, he _ _ hx, Op.unary]⟩

theorem p_neg {x : Operand} {t : TypeId} {k : IntKind} {n : Int} (ho : o.op = .unOp .neg t x) (hx : ρ.ev x = some (.int k n)) : RdP X ρ o (.int k (k.wrap (0 - n))) :=
  ⟨fun c h => (by rw [ho] at h; cases h), fun e w he => by simp [execOp, ho, he _ _ hx, Op.unary, Op.intArith]⟩

theorem p_nil {x : Operand} {a : Addr} (ho : o.op = .nilCheck x) (hx : ρ.ev x = some (.pointer (some a))) : RdP X ρ o (.pointer (some a)) :=
  ⟨fun c h => (by rw [ho] at h; cases h), fun e w he => by simp [execOp, ho, he _ _ hx]⟩

theorem p_bin {op : BinOp} {t yt : TypeId} {x y : Operand} {k : IntKind} {a b : Int} {v : Value} (ho : o.op = .binOp op t x y yt) (hx : ρ.ev x = some (.int k a)) (hy : ρ.ev y = some (.int k b))
    (h : ∀ w, (binOp op t (.int k a) (.int k b)).run X.P w = .ok v w) : RdP X ρ o v :=
  ⟨fun c h => (by rw [ho] at h; cases h), fun e w he => by
    have hg : (eqGuard op t x y (.int k a) (.int k b)).run X.P w = .ok () w := by unfold eqGuard; split <;> simp
    simp [execOp, ho, he _ _ hx, he _ _ hy, hg, h]⟩

theorem p_add {t yt : TypeId} {x y : Operand} {k : IntKind} {a b : Int} (ho : o.op = .binOp .add t x y yt) (hx : ρ.ev x = some (.int k a)) (hy : ρ.ev y = some (.int k b)) : RdP X ρ o (.int k (k.wrap (a + b))) :=
  p_bin ho hx hy fun w => by simp [binOp, Op.intArith]
theorem p_sub {t yt : TypeId} {x y : Operand} {k : IntKind} {a b : Int} (ho : o.op = .binOp .sub t x y yt) (hx : ρ.ev x = some (.int k a)) (hy : ρ.ev y = some (.int k b)) : RdP X ρ o (.int k (k.wrap (a - b))) :=
  p_bin ho hx hy fun w => by simp [binOp, Op.intArith]
theorem p_mul {t yt : TypeId} {x y : Operand} {k : IntKind} {a b : Int} (ho : o.op = .binOp .mul t x y yt) (hx : ρ.ev x = some (.int k a)) (hy : ρ.ev y = some (.int k b)) : RdP X ρ o (.int k (k.wrap (a * b))) :=
  p_bin ho hx hy fun w => by simp [binOp, Op.intArith]
theorem p_quo {t yt : TypeId} {x y : Operand} {k : IntKind} {a b : Int} (ho : o.op = .binOp .quo t x y yt) (hx : ρ.ev x = some (.int k a)) (hy : ρ.ev y = some (.int k b)) (hb : b ≠ 0) : RdP X ρ o (.int k (k.wrap (a.tdiv b))) :=
  p_bin ho hx hy fun w => by simp [binOp, Op.intDiv, hb]
theorem p_rem {t yt : TypeId} {x y : Operand} {k : IntKind} {a b : Int} (ho : o.op = .binOp .rem t x y yt) (hx : ρ.ev x = some (.int k a)) (hy : ρ.ev y = some (.int k b)) (hb : b ≠ 0) : RdP X ρ o (.int k (a.tmod b)) :=
  p_bin ho hx hy fun w => by simp [binOp, Op.intDiv, hb]

def InI (n : Int) : Prop := -9223372036854775808 ≤ n ∧ n ≤ 9223372036854775807

theorem wrap_in {n : Int} (h : InI n) : IntKind.i64.wrap n = n := IntWalk.i64_in n h

/-- the same, where the result is in the range of int -/
theorem p_add' {t yt : TypeId} {x y : Operand} {a b : Int} (ho : o.op = .binOp .add t x y yt) (hx : ρ.ev x = some (.int .i64 a)) (hy : ρ.ev y = some (.int .i64 b)) (hr : InI (a + b)) : RdP X ρ o (.int .i64 (a + b)) := by
  have := p_add (X := X) ho hx hy; rwa [wrap_in hr] at this
theorem p_sub' {t yt : TypeId} {x y : Operand} {a b : Int} (ho : o.op = .binOp .sub t x y yt) (hx : ρ.ev x = some (.int .i64 a)) (hy : ρ.ev y = some (.int .i64 b)) (hr : InI (a - b)) : RdP X ρ o (.int .i64 (a - b)) := by
  have := p_sub (X := X) ho hx hy; rwa [wrap_in hr] at this
theorem p_mul' {t yt : TypeId} {x y : Operand} {a b : Int} (ho : o.op = .binOp .mul t x y yt) (hx : ρ.ev x = some (.int .i64 a)) (hy : ρ.ev y = some (.int .i64 b)) (hr : InI (a * b)) : RdP X ρ o (.int .i64 (a * b)) := by
  have := p_mul (X := X) ho hx hy; rwa [wrap_in hr] at this
theorem p_quo' {t yt : TypeId} {x y : Operand} {a b : Int} (ho : o.op = .binOp .quo t x y yt) (hx : ρ.ev x = some (.int .i64 a)) (hy : ρ.ev y = some (.int .i64 b)) (hb : b ≠ 0) (hr : InI (a.tdiv b)) : RdP X ρ o (.int .i64 (a.tdiv b)) := by
  have := p_quo (X := X) ho hx hy hb; rwa [wrap_in hr] at this
theorem p_neg' {x : Operand} {t : TypeId} {n : Int} (ho : o.op = .unOp .neg t x) (hx : ρ.ev x = some (.int .i64 n)) (hr : InI (-n)) : RdP X ρ o (.int .i64 (-n)) := by
  have := p_neg (X := X) ho hx; rw [Int.zero_sub] at this; rwa [wrap_in hr] at this

theorem p_lss {t yt : TypeId} {x y : Operand} {k : IntKind} {a b : Int} (ho : o.op = .binOp .lss t x y yt) (hx : ρ.ev x = some (.int k a)) (hy : ρ.ev y = some (.int k b)) : RdP X ρ o (.bool (decide (a < b))) :=
  p_bin ho hx hy fun w => by simp [binOp, Op.intCmp]
theorem p_leq {t yt : TypeId} {x y : Operand} {k : IntKind} {a b : Int} (ho : o.op = .binOp .leq t x y yt) (hx : ρ.ev x = some (.int k a)) (hy : ρ.ev y = some (.int k b)) : RdP X ρ o (.bool (decide (a ≤ b))) :=
  p_bin ho hx hy fun w => by simp [binOp, Op.intCmp]
theorem p_gtr {t yt : TypeId} {x y : Operand} {k : IntKind} {a b : Int} (ho : o.op = .binOp .gtr t x y yt) (hx : ρ.ev x = some (.int k a)) (hy : ρ.ev y = some (.int k b)) : RdP X ρ o (.bool (decide (b < a))) :=
  p_bin ho hx hy fun w => by simp [binOp, Op.intCmp]
theorem p_geq {t yt : TypeId} {x y : Operand} {k : IntKind} {a b : Int} (ho : o.op = .binOp .geq t x y yt) (hx : ρ.ev x = some (.int k a)) (hy : ρ.ev y = some (.int k b)) : RdP X ρ o (.bool (decide (b ≤ a))) :=
  p_bin ho hx hy fun w => by simp [binOp, Op.intCmp]
theorem p_eql {t yt : TypeId} {x y : Operand} {k : IntKind} {a b : Int} (ho : o.op = .binOp .eql t x y yt) (hx : ρ.ev x = some (.int k a)) (hy : ρ.ev y = some (.int k b)) : RdP X ρ o (.bool (decide (a = b))) :=
  p_bin ho hx hy fun w => by simp [binOp, Op.intCmp, beq_dec]
theorem p_neq {t yt : TypeId} {x y : Operand} {k : IntKind} {a b : Int} (ho : o.op = .binOp .neq t x y yt) (hx : ρ.ev x = some (.int k a)) (hy : ρ.ev y = some (.int k b)) : RdP X ρ o (.bool (decide (a ≠ b))) :=
  p_bin ho hx hy fun w => by simp [binOp, Op.intCmp, bne, beq_dec]

theorem p_eqls {t yt : TypeId} {x y : Operand} {a b : ByteArray} (ho : o.op = .binOp .eql t x y yt) (hx : ρ.ev x = some (.string a)) (hy : ρ.ev y = some (.string b)) : RdP X ρ o (.bool (decide (a = b))) :=
  ⟨fun c h => (by rw [ho] at h; cases h), fun e w he => by
    have hg : (eqGuard .eql t x y (.string a) (.string b)).run X.P w = .ok () w := by unfold eqGuard; simp
    have hb : (a.toList == b.toList) = decide (a = b) := bytes_dec a b
    simp [execOp, ho, he _ _ hx, he _ _ hy, hg, binOp, Op.stringOp, hb]⟩

theorem p_field {x : Operand} {t off i : Nat} {a : Addr} (hf : fieldOff X.P t i = some off) (ho : o.op = .fieldAddr t x i) (hx : ρ.ev x = some (.pointer (some a))) : RdP X ρ o (.pointer (some (a.add off))) := by
  refine ⟨fun c h => (by rw [ho] at h; cases h), fun e w he => ?_⟩
  unfold fieldOff at hf
  cases hu : X.P.underlying t with
  | none => simp [hu] at hf
  | some d =>
    cases d with
    | struct fs =>
      simp only [hu] at hf
      cases hi : fs[i]? with
      | none => simp [hi] at hf
      | some f =>
        simp only [hi] at hf
        cases hs : tySize X.P f.type with
        | none => simp [hs] at hf
        | some n =>
          cases n with
          | zero => simp [hs] at hf
          | succ n =>
            simp only [hs, Option.some.injEq] at hf
            subst hf
            simp [execOp, ho, he _ _ hx, Instr.fieldAt, run_underlying' hu, hi, Instr.sureAddr, fieldPlace, run_sizeOf' hs]
    | _ => simp [hu] at hf

theorem p_fieldo {x : Operand} {t off i b k : Nat} (hf : fieldOff X.P t i = some off) (ho : o.op = .fieldAddr t x i) (hx : ρ.ev x = some (.pointer (some ⟨b, k, none⟩))) : RdP X ρ o (.pointer (some ⟨b, k + off, none⟩)) := by
  have := p_field (X := X) hf ho hx; rwa [add_none] at this

theorem p_idx {x i : Operand} {t len cap size : Nat} {a : Addr} {k : Int} (hs : elemSz X.P t = some size) (ho : o.op = .indexAddr t x i) (hx : ρ.ev x = some (.slice (some a) len cap)) (hi : ρ.ev i = some (.int .i64 k))
    (h0 : 0 ≤ k) (h1 : k < len) : RdP X ρ o (.pointer (some (a.add (k.toNat * size)))) := by
  refine ⟨fun c h => (by rw [ho] at h; cases h), fun e w he => ?_⟩
  unfold elemSz at hs
  cases hu : X.P.underlying t with
  | none => simp [hu] at hs
  | some d =>
    cases d with
    | slice el =>
      simp only [hu] at hs
      simp [execOp, ho, he _ _ hx, he _ _ hi, Instr.indexAt, asIntOf, run_underlying' hu, h0, h1, run_sizeOf' hs]
    | _ => simp [hu] at hs

theorem p_idxa {x i : Operand} {t len size : Nat} {a : Addr} {k : Int} (hs : arrOf X.P t = some (len, size)) (ho : o.op = .indexAddr t x i) (hx : ρ.ev x = some (.pointer (some a))) (hi : ρ.ev i = some (.int .i64 k))
    (h0 : 0 ≤ k) (h1 : k < len) : RdP X ρ o (.pointer (some (a.add (k.toNat * size)))) := by
  refine ⟨fun c h => (by rw [ho] at h; cases h), fun e w he => ?_⟩
  unfold arrOf at hs
  cases hu : X.P.underlying t with
  | none => simp [hu] at hs
  | some d =>
    cases d with
    | array n el =>
      simp only [hu] at hs
      cases hz : tySize X.P el with
      | none => simp [hz] at hs
      | some z =>
        simp only [hz, Option.map_some, Option.some.injEq, Prod.mk.injEq] at hs
        obtain ⟨rfl, rfl⟩ := hs
        simp [execOp, ho, he _ _ hx, he _ _ hi, Instr.indexAt, asIntOf, run_underlying' hu, h0, h1, run_sizeOf' hz, Instr.sureAddr]
    | _ => simp [hu] at hs

theorem p_len {x : Operand} {t len cap : Nat} {a : Option Addr} (hu : (X.P.underlying t).any (fun d => match d with | .slice _ => true | _ => false) = true)
    (ho : o.op = .call { callee := .builtin .len, args := #[x], argTypes := #[t] }) (hx : ρ.ev x = some (.slice a len cap)) : RdP X ρ o (.int .i64 len) := by
  refine ⟨fun c h => (by rw [ho] at h; cases h), fun e w he => ?_⟩
  cases hd : X.P.underlying t with
  | none => simp [hd] at hu
  | some d =>
    cases d with
    | slice el => simp [execOp, ho, resolve, invoke, builtin, Builtin.len_, he _ _ hx, run_underlying' hd, goInt]
    | _ => simp [hd] at hu

theorem p_lens {x : Operand} {t : Nat} {s : ByteArray} (hu : (X.P.underlying t).any (fun d => match d with | .string => true | _ => false) = true)
    (ho : o.op = .call { callee := .builtin .len, args := #[x], argTypes := #[t] }) (hx : ρ.ev x = some (.string s)) : RdP X ρ o (.int .i64 s.size) := by
  refine ⟨fun c h => (by rw [ho] at h; cases h), fun e w he => ?_⟩
  cases hd : X.P.underlying t with
  | none => simp [hd] at hu
  | some d =>
    cases d with
    | string => simp [execOp, ho, resolve, invoke, builtin, Builtin.len_, he _ _ hx, run_underlying' hd, goInt]
    | _ => simp [hd] at hu

def imin (a b : Int) : Int := if b < a then b else a
def imax (a b : Int) : Int := if b > a then b else a
theorem imin_eq (a b : Int) : imin a b = min a b := by unfold imin; split <;> omega
theorem imax_eq (a b : Int) : imax a b = max a b := by unfold imax; split <;> omega

theorem p_min {x y : Operand} {ty : Array TypeId} {k : IntKind} {a b : Int} (ho : o.op = .call { callee := .builtin .min, args := #[x, y], argTypes := ty }) (hx : ρ.ev x = some (.int k a)) (hy : ρ.ev y = some (.int k b)) :
    RdP X ρ o (.int k (min a b)) := imin_eq a b ▸
  ⟨fun c h => (by rw [ho] at h; cases h), fun e w he => by simp [execOp, ho, resolve, invoke, builtin, Builtin.min_, Builtin.min2, he _ _ hx, he _ _ hy, imin]⟩
theorem p_max {x y : Operand} {ty : Array TypeId} {k : IntKind} {a b : Int} (ho : o.op = .call { callee := .builtin .max, args := #[x, y], argTypes := ty }) (hx : ρ.ev x = some (.int k a)) (hy : ρ.ev y = some (.int k b)) :
    RdP X ρ o (.int k (max a b)) := imax_eq a b ▸
  ⟨fun c h => (by rw [ho] at h; cases h), fun e w he => by simp [execOp, ho, resolve, invoke, builtin, Builtin.max_, Builtin.max2, he _ _ hx, he _ _ hy, imax]⟩
theorem p_max3 {x y z : Operand} {ty : Array TypeId} {k : IntKind} {a b c : Int} (ho : o.op = .call { callee := .builtin .max, args := #[x, y, z], argTypes := ty }) (hx : ρ.ev x = some (.int k a)) (hy : ρ.ev y = some (.int k b))
    (hz : ρ.ev z = some (.int k c)) : RdP X ρ o (.int k (max (max a b) c)) := imax_eq (max a b) c ▸ imax_eq a b ▸
  ⟨fun c h => (by rw [ho] at h; cases h), fun e w he => (by simp [execOp, ho, resolve, invoke, builtin, Builtin.max_, Builtin.max2, he _ _ hx, he _ _ hy, he _ _ hz, imax]; try rfl)⟩

theorem p_ext {x : Operand} {i : Nat} {vs : Array Value} {v : Value} (ho : o.op = .extract x i) (hx : ρ.ev x = some (.tuple vs)) (hv : vs.toList[i]? = some v) : RdP X ρ o v :=
  ⟨fun c h => (by rw [ho] at h; cases h), fun e w he => by
    have : vs[i]? = some v := by simpa using hv
    simp [execOp, ho, he _ _ hx, Instr.extract, this]⟩

theorem p_conv {x : Operand} {s t : TypeId} {k k' : IntKind} {n : Int} {ds : TypeDesc} (hs : X.P.underlying s = some ds) (hu : X.P.underlying t = some (.int k)) (ho : o.op = .convert s t x) (hx : ρ.ev x = some (.int k' n)) : RdP X ρ o (.int k (k.wrap n)) :=
  ⟨fun c h => (by rw [ho] at h; cases h), fun e w he => by
    simp [execOp, ho, he _ _ hx, convert, run_underlying' hs, run_underlying' hu, Conv.intToInt]⟩

/-- operands' values, one by one -/
def evL (ρ : PEnv) : List Operand → Option (List Value)
  | [] => some []
  | x :: l => match ρ.ev x with
    | some v => match evL ρ l with
      | some vs => some (v :: vs)
      | none => none
    | none => none

theorem evL_map {e : Operand → Value} (he : Evs ρ e) : ∀ {l : List Operand} {vs : List Value}, evL ρ l = some vs → l.map e = vs := by
  intro l
  induction l with
  | nil => intro vs h; simp [evL] at h; simp [h]
  | cons x l ih =>
    intro vs h
    simp only [evL] at h
    cases hx : ρ.ev x with
    | none => simp [hx] at h
    | some v =>
      cases hl : evL ρ l with
      | none => simp [hx, hl] at h
      | some us =>
        simp only [hx, hl, Option.some.injEq] at h
        subst h
        simp [he _ _ hx, ih hl]

theorem p_func {fn : Fn} {first captured : Array Operand} {fs cs : List Value} (ho : o.op = .makeFunc fn first captured) (hf : evL ρ first.toList = some fs) (hc : evL ρ captured.toList = some cs) :
    RdP X ρ o (.func fn fs.toArray cs.toArray) :=
  ⟨fun c h => (by rw [ho] at h; cases h), fun e w he => by
    have h1 : first.map e = fs.toArray := Array.toList_inj.1 (by simp [evL_map he hf])
    have h2 : captured.map e = cs.toArray := Array.toList_inj.1 (by simp [evL_map he hc])
    simp [execOp, ho, Instr.makeFunc, h1, h2]⟩
end

end Go.Vc

/- What operations do that read memory, or write it; calls; a function's body. -/
set_option linter.all false
namespace Go.Vc

section
variable {X : Cx} {ρ : PEnv} {ds : List Deferred} {H : Heap} {o : Oper}

/-! ### reading -/

theorem r_load {x : Operand} {t ty b off : Nat} {cs : Array Value} {fr : Nat × Nat} {v : Value} (ha : tyAgg X.P t = some false) (ho : o.op = .load t x) (hx : ρ.ev x = some (.pointer (some ⟨b, off, none⟩)))
    (hm : (b, Obj.cells cs ty fr) ∈ H) (hv : cs.toList[off]? = some v) : RdA X ρ H o v :=
  ⟨fun c h => (by rw [ho] at h; cases h), fun e w he hg => by
    have hc : w.cell? ⟨b, off, none⟩ = some v := by rw [own_cell (hg.own _ hm)]; exact hv
    simp [execOp, ho, he _ _ hx, Instr.loadAt, Instr.sureAddr, run_loadVar ha hc]⟩

theorem r_loadA {x : Operand} {t ty b off n : Nat} {cs : Array Value} {fr : Nat × Nat} {vs : List Value} (ha : tyAgg X.P t = some true) (hs : tySize X.P t = some n) (ho : o.op = .load t x) (hx : ρ.ev x = some (.pointer (some ⟨b, off, none⟩)))
    (hm : (b, Obj.cells cs ty fr) ∈ H) (hv : sliceL cs.toList off n = some vs) : RdA X ρ H o (.agg vs.toArray) :=
  ⟨fun c h => (by rw [ho] at h; cases h), fun e w he hg => by
    obtain ⟨h1, h2⟩ := sliceL_spec hv
    have hc : cellsAt w ⟨b, off, none⟩ vs := by
      intro j v hj
      refine own_cellsAt (hg.own _ hm) off j v ?_
      rw [h1, List.getElem?_take] at hj
      split at hj
      · exact hj
      cases hj
    simp [execOp, ho, he _ _ hx, Instr.loadAt, Instr.sureAddr, run_loadVar_agg ha hs h2 hc]⟩

theorem r_loadB {x : Operand} {t : Nat} {a : Addr} {v : Value} (ha : tyAgg X.P t = some false) (ho : o.op = .load t x) (hx : ρ.ev x = some (.pointer (some a)))
    (hc : X.w0.cell? a = some v) (hM : a.block ∉ X.M) : RdA X ρ H o v :=
  ⟨fun c h => (by rw [ho] at h; cases h), fun e w he hg => by
    simp [execOp, ho, he _ _ hx, Instr.loadAt, Instr.sureAddr, run_loadVar ha (hg.cell hc hM)]⟩

theorem r_loadBA {x : Operand} {t n : Nat} {a : Addr} {vs : List Value} (ha : tyAgg X.P t = some true) (hs : tySize X.P t = some n) (ho : o.op = .load t x) (hx : ρ.ev x = some (.pointer (some a)))
    (hc : cellsAt X.w0 a vs) (hn : vs.length = n) (hM : a.block ∉ X.M) : RdA X ρ H o (.agg vs.toArray) :=
  ⟨fun c h => (by rw [ho] at h; cases h), fun e w he hg => by
    simp [execOp, ho, he _ _ hx, Instr.loadAt, Instr.sureAddr, run_loadVar_agg ha hs hn (hg.cells hc hM)]⟩

/-! ### writing -/

theorem wr_value {o : Oper} {R : Value → Heap → Prop} (hnd : ∀ c, o.op ≠ .defer c)
    (h : ∀ e w, Evs ρ e → Good X.w0 X.M H w → ∃ v w' H', ((execOp e o).run X.P w = .ok (.value v) w' ∨ (v = undef ∧ (execOp e o).run X.P w = .ok .skip w')) ∧ Good X.w0 X.M H' w' ∧ R v H') : WrA X ρ H o R :=
  ⟨hnd, fun a w he hg => by
    obtain ⟨v, w', H', hr, hg', hR⟩ := h a.eval w he hg
    rcases hr with hr | ⟨rfl, hr⟩
    · rw [hr]; exact ⟨v, H', rfl, hg', hR⟩
    rw [hr]; exact ⟨undef, H', rfl, hg', hR⟩⟩

theorem w_alloc {t : TypeId} {z : Value} (hz : tyZero X.P t = some z) (ho : o.op = .alloc t) :
    WrA X ρ H o fun v H' => ∃ b, X.w0.heap.size ≤ b ∧ v = .pointer (some ⟨b, 0, none⟩) ∧ H' = (b, .cells z.cells t) :: H :=
  wr_value (fun c h => (by rw [ho] at h; cases h)) fun e w he hg => by
    refine ⟨_, _, _, .inl ?_, hg.alloc (.cells z.cells t), w.heap.size, hg.size, rfl, rfl⟩
    simp [execOp, ho, Instr.alloc, run_zeroValue' hz, newVar, newRow]

theorem w_box {t : TypeId} {x : Operand} {v : Value} (ho : o.op = .box t x) (hx : ρ.ev x = some v) :
    WrA X ρ H o fun u H' => ∃ b, X.w0.heap.size ≤ b ∧ u = .pointer (some ⟨b, 0, none⟩) ∧ H' = (b, .cells v.cells t) :: H :=
  wr_value (fun c h => (by rw [ho] at h; cases h)) fun e w he hg => by
    refine ⟨_, _, _, .inl ?_, hg.alloc (.cells v.cells t), w.heap.size, hg.size, rfl, rfl⟩
    simp [execOp, ho, Instr.box, he _ _ hx, newVar, newRow]

/-- the cells with some of them turned -/
def setL : List Value → Nat → List Value → List Value
  | cs, _, [] => cs
  | cs, off, v :: vs => setL (cs.set off v) (off + 1) vs

theorem run_storeCells {P : Program} {b : Nat} {t : TypeId} : ∀ (vs : List Value) (w : World) (cs : List Value) (k i : Nat), w.heap[b]? = some (.cells cs.toArray t (0, 0)) → k + i + vs.length ≤ cs.length → (∀ v ∈ vs, v.oneCell' = true) →
    ∃ w', (storeCells ⟨b, k, none⟩ vs i).run P w = .ok () w' ∧ w'.heap = w.heap.setIfInBounds b (.cells (setL cs (k + i) vs).toArray t (0, 0)) ∧ SameIO w w' := by
  intro vs
  induction vs with
  | nil =>
    intro w cs k i hb _ _
    refine ⟨w, rfl, ?_, rfl, rfl⟩
    simp only [setL]
    apply Array.ext
    · simp
    intro j hj _
    rw [Array.getElem_setIfInBounds]
    split
    · rename_i h; subst h
      have := (Array.getElem?_eq_some_iff.1 hb).2
      exact this
    rfl
  | cons v vs ih =>
    intro w cs k i hb hlen hone
    simp only [List.length_cons] at hlen
    have hcell : w.cell? ⟨b, k + i, none⟩ = some (cs[k + i]'(by omega)) := by rw [own_cell hb]; simp
    have hfr : w.frozen? ⟨b, k + i, none⟩ = false := by simp [World.frozen?, hb]
    have hst : (store ((⟨b, k, none⟩ : Addr).add i) v).run P w = .ok () (w.setCell ⟨b, k + i, none⟩ v) := by
      rw [add_none, run_store P w _ v .plain (hone v (.head _)), hcell]
      simp [hfr]
    have hheap : (w.setCell ⟨b, k + i, none⟩ v).heap = w.heap.setIfInBounds b (.cells (cs.set (k + i) v).toArray t (0, 0)) := by
      simp only [World.setCell]
      apply Array.ext
      · simp
      intro j hj _
      have hjb : j < w.heap.size := by simpa using hj
      rw [Array.getElem_modify, Array.getElem_setIfInBounds]
      split
      · rename_i h
        subst h
        have := (Array.getElem?_eq_some_iff.1 hb).2
        simp [this]
      rfl
    have hb' : (w.setCell ⟨b, k + i, none⟩ v).heap[b]? = some (.cells (cs.set (k + i) v).toArray t (0, 0)) := by
      rw [hheap]; simp [lt_of_some hb]
    obtain ⟨w', hr, hh, hio⟩ := ih (w.setCell ⟨b, k + i, none⟩ v) (cs.set (k + i) v) k (i + 1) hb' (by simp; omega) (fun u hu => hone u (.tail _ hu))
    refine ⟨w', ?_, ?_, SameIO.trans (b := w.setCell ⟨b, k + i, none⟩ v) ⟨rfl, rfl⟩ hio⟩
    · simp only [storeCells, Sem.run_bind, hst, Result.andThen_ok, hr]
    rw [hh, hheap, Array.setIfInBounds_setIfInBounds]; simp only [setL]; rw [Nat.add_assoc]

theorem run_storeVar {P : Program} {b : Nat} {t ty : TypeId} {v : Value} {w : World} {cs : Array Value} {off n : Nat} (hs : tySize P t = some n) (hb : w.heap[b]? = some (.cells cs ty (0, 0))) (hn : v.cells.toList.length = n)
    (hl : off + n ≤ cs.toList.length) (hone : ∀ u ∈ v.cells.toList, u.oneCell' = true) :
    ∃ w', (storeVar t ⟨b, off, none⟩ v).run P w = .ok () w' ∧ w'.heap = w.heap.setIfInBounds b (.cells (setL cs.toList off v.cells.toList).toArray ty (0, 0)) ∧ SameIO w w' := by
  obtain ⟨w', hr, hh, hio⟩ := run_storeCells (P := P) (t := ty) v.cells.toList w cs.toList off 0 (by simpa using hb) (by omega) hone
  refine ⟨w', ?_, by simpa using hh, hio⟩
  have : v.cells.size = n := by simpa using hn
  simp [storeVar, run_sizeOf' hs, this, hr]

def oneL : List Value → Bool
  | [] => true
  | v :: l => v.oneCell' && oneL l

theorem oneL_spec {l : List Value} (h : oneL l = true) : ∀ v ∈ l, v.oneCell' = true := by
  induction l with
  | nil => intro v hv; cases hv
  | cons u l ih =>
    simp only [oneL, Bool.and_eq_true] at h
    intro v hv
    rcases List.mem_cons.1 hv with rfl | hv
    · exact h.1
    exact ih h.2 v hv

theorem w_store {x y : Operand} {t ty b off n : Nat} {cs : Array Value} {v : Value} {cs' : List Value} {H' : Heap} (hs : tySize X.P t = some n) (ho : o.op = .store t x y) (hx : ρ.ev x = some (.pointer (some ⟨b, off, none⟩)))
    (hy : ρ.ev y = some v) (hn : v.cells.toList.length = n) (hone : oneL v.cells.toList = true) (hset : SetAt H b (.cells cs ty) (.cells cs'.toArray ty) H') (hl : off + n ≤ cs.toList.length) (hcs : setL cs.toList off v.cells.toList = cs') :
    WrA X ρ H o fun u H'' => u = undef ∧ H'' = H' :=
  wr_value (fun c h => (by rw [ho] at h; cases h)) fun e w he hg => by
    subst hcs
    obtain ⟨w', hr, hh, hio⟩ := run_storeVar (P := X.P) (t := t) (off := off) (v := v) hs (hg.own _ hset.mem) hn hl (oneL_spec hone)
    refine ⟨undef, w', H', .inr ⟨rfl, ?_⟩, hg.set hset hh hio, rfl, rfl⟩
    simp [execOp, ho, he _ _ hx, he _ _ hy, Instr.storeAt, Instr.sureAddr, hr]

/-! ### struct and slice literals -/

def splice (cs : List Value) (off : Nat) (vs : List Value) : List Value := cs.take off ++ vs ++ cs.drop (off + vs.length)

def fillL (pl : List (Nat × Nat)) : List Value → List (Nat × Value) → Option (List Value)
  | cs, [] => some cs
  | cs, (i, v) :: r => match pl[i]? with
    | none => none
    | some (off, size) => bif Nat.beq v.cells.toList.length size && Nat.ble (off + size) cs.length then fillL pl (splice cs off v.cells.toList) r else none

theorem fold_splice : ∀ (vs : List Value) (cs : List Value) (off k : Nat), off + k + vs.length ≤ cs.length →
    ((vs.zipIdx k).foldl (fun (cs : Array Value) (p : Value × Nat) => cs.setIfInBounds (off + p.2) p.1) cs.toArray) = (splice cs (off + k) vs).toArray := by
  intro vs
  induction vs with
  | nil => intro cs off k _; simp [splice]
  | cons v vs ih =>
    intro cs off k h
    simp only [List.length_cons] at h
    simp only [List.zipIdx_cons, List.foldl_cons, List.setIfInBounds_toArray]
    rw [ih (cs.set (off + k) v) off (k + 1) (by simp; omega)]
    congr 1
    simp only [splice]
    apply List.ext_getElem?
    intro j
    simp only [List.getElem?_append, List.length_append, List.length_take, List.length_set, List.length_cons, List.getElem?_take, List.getElem?_drop, List.getElem?_set]
    by_cases h1 : j < off + k
    · have a1 : j < min (off + (k + 1)) cs.length := by omega
      have a2 : j < min (off + (k + 1)) cs.length + vs.length := by omega
      have a3 : j < min (off + k) cs.length := by omega
      have a4 : j < min (off + k) cs.length + (vs.length + 1) := by omega
      have a5 : j < off + (k + 1) := by omega
      have a6 : ¬ (off + k = j) := by omega
      simp [a1, a2, a3, a4, a5, a6, h1]
    by_cases h2 : j = off + k
    · subst h2
      have a1 : off + k < min (off + (k + 1)) cs.length := by omega
      have a2 : off + k < min (off + (k + 1)) cs.length + vs.length := by omega
      have a3 : ¬ (off + k < min (off + k) cs.length) := by omega
      have a4 : off + k < min (off + k) cs.length + (vs.length + 1) := by omega
      have a5 : off + k < off + (k + 1) := by omega
      have a6 : off + k < cs.length := by omega
      have a7 : off + k - min (off + k) cs.length = 0 := by omega
      simp [a1, a2, a3, a4, a5, a6, a7]
    by_cases h3 : j < off + k + 1 + vs.length
    · have a1 : ¬ (j < min (off + (k + 1)) cs.length) := by omega
      have a2 : j < min (off + (k + 1)) cs.length + vs.length := by omega
      have a3 : ¬ (j < min (off + k) cs.length) := by omega
      have a4 : j < min (off + k) cs.length + (vs.length + 1) := by omega
      have a5 : j - min (off + k) cs.length = (j - min (off + (k + 1)) cs.length) + 1 := by omega
      simp [a1, a2, a3, a4, a5]
    have a2 : ¬ (j < min (off + (k + 1)) cs.length + vs.length) := by omega
    have a4 : ¬ (j < min (off + k) cs.length + (vs.length + 1)) := by omega
    have a5 : off + (k + 1) + vs.length + (j - (min (off + (k + 1)) cs.length + vs.length)) = off + k + (vs.length + 1) + (j - (min (off + k) cs.length + (vs.length + 1))) := by omega
    have a6 : ¬ (off + k = off + k + (vs.length + 1) + (j - (min (off + k) cs.length + (vs.length + 1)))) := by omega
    simp only [a2, a4, if_false, a5]
    rw [if_neg a6]

theorem fillL_fill {pl : List (Nat × Nat)} {place : Nat → Option (Nat × Nat)} (hp : ∀ i x, pl[i]? = some x → place i = some x) : ∀ (ps : List (Nat × Value)) (cs r : List Value), fillL pl cs ps = some r → Instr.fill place cs.toArray ps = some r.toArray := by
  intro ps
  induction ps with
  | nil => intro cs r h; simp only [fillL, Option.some.injEq] at h; subst h; rfl
  | cons p ps ih =>
    intro cs r h
    obtain ⟨i, v⟩ := p
    simp only [fillL] at h
    cases hi : pl[i]? with
    | none => simp [hi] at h
    | some q =>
      obtain ⟨off, size⟩ := q
      simp only [hi] at h
      cases hb : (Nat.beq v.cells.toList.length size && Nat.ble (off + size) cs.length) with
      | false => rw [hb] at h; cases h
      | true =>
        rw [hb, cond_true] at h
        rw [Bool.and_eq_true] at hb
        have h1 : v.cells.size = size := by have := Nat.eq_of_beq_eq_true hb.1; simpa using this
        have h2 := Nat.le_of_ble_eq_true hb.2
        simp only [Instr.fill, hp i _ hi]
        have hc : ¬ ((v.cells.size ≠ size) ∨ (off + v.cells.size > cs.toArray.size)) := by simp [h1]; omega
        have hc' : (decide (v.cells.size ≠ size) || decide (off + v.cells.size > cs.toArray.size)) = false := by simp [h1]; omega
        have hf := fold_splice v.cells.toList cs off 0 (by simp [h1]; omega)
        rw [Nat.add_zero] at hf
        have := ih _ _ h
        simp only [← Array.foldl_toList, Array.toList_zipIdx] at *
        rw [show (v.cells.toList.zipIdx).foldl (fun (cs : Array Value) (x : Value × Nat) => cs.setIfInBounds (off + x.2) x.1) cs.toArray = (splice cs off v.cells.toList).toArray from hf]
        simp only [h1, ne_eq, not_true_eq_false, decide_false, Bool.false_or, decide_eq_true_eq]
        rw [if_neg (by simp; omega)]
        exact this


theorem run_mapM_pure {α β : Type} {P : Program} {f : α → Sem β} {g : α → Option β} : ∀ (l : List α) (r : List β), l.mapM g = some r → (∀ x y, g x = some y → ∀ w, (f x).run P w = .ok y w) → ∀ w, (l.mapM f).run P w = .ok r w := by
  intro l
  induction l with
  | nil => intro r h _ w; simp at h; subst h; simp
  | cons x l ih =>
    intro r h hf w
    simp only [List.mapM_cons] at h ⊢
    cases hx : g x with
    | none => simp [hx] at h
    | some y =>
      cases hl : l.mapM g with
      | none => simp [hx, hl] at h
      | some ys =>
        simp [hx, hl] at h
        subst h
        simp [hf x y hx w, ih ys hl hf w]

theorem run_places {P : Program} {t : TypeId} {fs : Array Field} {pl : List (Nat × Nat)} (hu : P.underlying t = some (.struct fs)) (hp : placesOf P t = some pl) (w : World) :
    (fs.mapM fun f => do pure (f.offset, ← sizeOf f.type) : Sem (Array (Nat × Nat))).run P w = .ok pl.toArray w := by
  simp only [placesOf, hu] at hp
  rw [Array.mapM_eq_mapM_toList]
  have := run_mapM_pure (P := P) (f := fun f : Field => (do pure (f.offset, ← sizeOf f.type) : Sem (Nat × Nat))) fs.toList pl hp (fun f y hy w => by
    cases hs : tySize P f.type with
    | none => simp [hs] at hy
    | some n => simp [hs] at hy; subst hy; simp [run_sizeOf' hs]) w
  rw [Sem.run_map, this]
  rfl

theorem evP_map {e : Operand → Value} (he : Evs ρ e) : ∀ {l : List (Nat × Operand)} {vs : List Value}, evL ρ (l.map (·.2)) = some vs → (l.map fun p => (p.1, e p.2)) = (l.map (·.1)).zip vs := by
  intro l
  induction l with
  | nil => intro vs h; simp
  | cons x l ih =>
    intro vs h
    simp only [List.map_cons, evL] at h
    cases hx : ρ.ev x.2 with
    | none => simp [hx] at h
    | some v =>
      cases hl : evL ρ (l.map (·.2)) with
      | none => simp [hx, hl] at h
      | some us =>
        simp only [hx, hl, Option.some.injEq] at h
        subst h
        simp [he _ _ hx, ih hl]

theorem map_parts {e : Operand → Value} (ps : Array (Nat × Operand)) : (ps.map fun (i, x) => (i, e x)).toList = ps.toList.map fun p => (p.1, e p.2) := by simp

theorem p_build {t : TypeId} {ps : Array (Nat × Operand)} {pl : List (Nat × Nat)} {z : Value} {vs r : List Value} (hp : placesOf X.P t = some pl) (hz : tyZero X.P t = some z) (ho : o.op = .build t ps)
    (hv : evL ρ (ps.toList.map (·.2)) = some vs) (hf : fillL pl z.cells.toList ((ps.toList.map (·.1)).zip vs) = some r) : RdP X ρ o (.agg r.toArray) := by
  refine ⟨fun c h => (by rw [ho] at h; cases h), fun e w he => ?_⟩
  cases hu : X.P.underlying t with
  | none => simp [placesOf, hu] at hp
  | some d =>
    cases d with
    | struct fs =>
      have h1 := run_places hu hp w
      have h2 := fillL_fill (place := (pl.toArray[·]?)) (fun i x h => by simpa using h) _ _ _ hf
      rw [← evP_map he hv, ← map_parts] at h2
      simp only [Array.toArray_toList] at h2
      simp only [execOp, ho, Instr.build, Sem.run_bind, run_zeroValue' hz, Result.andThen_ok, run_underlying' hu, h1, h2]
      simp
    | _ => simp [placesOf, hu] at hp

/-- places of an array's elements -/
def arrPl (n size : Nat) : List (Nat × Nat) := (List.range n).map fun i => (i * size, size)

theorem p_buildA {t n size : Nat} {ps : Array (Nat × Operand)} {z : Value} {vs r : List Value} (hs : arrOf X.P t = some (n, size)) (hz : tyZero X.P t = some z) (ho : o.op = .build t ps)
    (hv : evL ρ (ps.toList.map (·.2)) = some vs) (hf : fillL (arrPl n size) z.cells.toList ((ps.toList.map (·.1)).zip vs) = some r) : RdP X ρ o (.agg r.toArray) := by
  refine ⟨fun c h => (by rw [ho] at h; cases h), fun e w he => ?_⟩
  unfold arrOf at hs
  cases hu : X.P.underlying t with
  | none => simp [hu] at hs
  | some d =>
    cases d with
    | array m el =>
      simp only [hu] at hs
      cases hsz : tySize X.P el with
      | none => simp [hsz] at hs
      | some s0 =>
        simp only [hsz, Option.map_some, Option.some.injEq, Prod.mk.injEq] at hs
        obtain ⟨rfl, rfl⟩ := hs
        have h2 := fillL_fill (place := fun i => some (i * s0, s0)) (fun i x h => by
          simp only [arrPl, List.getElem?_map] at h
          cases hr : (List.range m)[i]? with
          | none => simp [hr] at h
          | some j =>
            rw [hr] at h
            have : j = i := by rw [List.getElem?_range (by have := List.getElem?_eq_some_iff.1 hr; simpa using this.1)] at hr; exact (Option.some.inj hr).symm
            subst this; simpa using h) _ _ _ hf
        rw [← evP_map he hv, ← map_parts] at h2
        simp only [Array.toArray_toList] at h2
        simp only [execOp, ho, Instr.build, Sem.run_bind, run_zeroValue' hz, Result.andThen_ok, run_underlying' hu, run_sizeOf' hsz, h2]
        simp
    | _ => simp [hu] at hs

/-- the zero cells of n elements -/
def zeros (z : List Value) : Nat → List Value
  | 0 => []
  | n + 1 => z ++ zeros z n

theorem zeros_length (z : List Value) (n : Nat) : (zeros z n).length = n * z.length := by
  induction n with
  | zero => simp [zeros]
  | succ n ih => simp [zeros, ih, Nat.add_mul, Nat.add_comm]

theorem zeros_get (z : List Value) (hz : 0 < z.length) : ∀ (n i : Nat), i < n * z.length → (zeros z n)[i]? = z[i % z.length]? := by
  intro n
  induction n with
  | zero => intro i h; omega
  | succ n ih =>
    intro i h
    simp only [zeros, List.getElem?_append]
    split
    · rename_i h1; rw [Nat.mod_eq_of_lt h1]
    rename_i h1
    have h' : i < n * z.length + z.length := by rw [Nat.succ_mul] at h; exact h
    rw [ih (i - z.length) (by omega)]
    congr 1
    exact (Nat.mod_eq_sub_mod (by omega)).symm

theorem zeros_eq (z : Array Value) (n size : Nat) (hz : z.size = size) (h0 : 0 < size) : ((Array.range (n * size)).map (z[· % z.size]!)) = (zeros z.toList n).toArray := by
  apply Array.toList_inj.1
  apply List.ext_getElem?
  intro i
  simp only [Array.toList_map, Array.toList_range, List.getElem?_map]
  by_cases hi : i < n * size
  · rw [List.getElem?_range hi, zeros_get z.toList (by simp; omega) n i (by simp [hz]; omega)]
    have hlt : i % size < z.size := by rw [hz]; exact Nat.mod_lt _ h0
    simp only [Option.map_some, Array.length_toList, hz]
    rw [getElem!_pos z (i % size) hlt]
    simp [hlt]
  rw [List.getElem?_eq_none (by simp; omega), List.getElem?_eq_none (by simp [zeros_length, hz]; omega)]
  rfl

theorem w_slice {t n size el : Nat} {ps : Array (Nat × Operand)} {z : Value} {vs r : List Value} (hu : X.P.underlying t = some (.slice el)) (hs : tySize X.P el = some size) (hz : tyZero X.P el = some z) (hzs : z.cells.size = size) (h0 : 0 < size) (ho : o.op = .buildSlice t n ps)
    (hn : n * size ≤ 2 ^ 24) (hv : evL ρ (ps.toList.map (·.2)) = some vs) (hf : fillL (arrPl n size) (zeros z.cells.toList n) ((ps.toList.map (·.1)).zip vs) = some r) :
    WrA X ρ H o fun v H' => ∃ b, X.w0.heap.size ≤ b ∧ v = .slice (some ⟨b, 0, none⟩) n n ∧ H' = (b, .cells r.toArray el) :: H :=
  wr_value (fun c h => (by rw [ho] at h; cases h)) fun e w he hg => by
    have h2 := fillL_fill (place := fun i => some (i * size, size)) (fun i x h => by
      simp only [arrPl, List.getElem?_map] at h
      cases hr : (List.range n)[i]? with
      | none => simp [hr] at h
      | some j =>
        rw [hr] at h
        have : j = i := by rw [List.getElem?_range (by have := List.getElem?_eq_some_iff.1 hr; simpa using this.1)] at hr; exact (Option.some.inj hr).symm
        subst this; simpa using h) _ _ _ hf
    rw [← evP_map he hv, ← map_parts] at h2
    simp only [Array.toArray_toList] at h2
    refine ⟨_, _, _, .inl ?_, hg.alloc (.cells r.toArray el), w.heap.size, hg.size, rfl, rfl⟩
    have hbig : ¬ (n * size > 2 ^ 24) := by omega
    simp only [execOp, ho, Instr.buildSlice, Sem.run_bind, run_underlying' hu, Result.andThen_ok, run_sizeOf' hs, hbig, if_false]
    by_cases hz0 : n * size = 0
    · have hn0 : n = 0 := by rcases Nat.mul_eq_zero.1 hz0 with h | h <;> omega
      subst hn0
      have hx : ∀ f : Nat → Value, (Array.range (0 * size)).map f = (zeros z.cells.toList 0).toArray := fun f => by simp [zeros]
      rw [if_pos hz0]
      simp only [Sem.run_pure, Result.andThen_ok, hx, h2]
      simp [newRow]
    rw [if_neg hz0]
    simp only [Sem.run_bind, run_zeroValue' hz, Result.andThen_ok, Sem.run_pure, zeros_eq z.cells n size hzs h0, h2]
    simp [newRow]

end

end Go.Vc
