/- What single operations do. -/
import Derived.Test.YtclbbchehjapjabVcB
import Derived.Laws.Cells
import Derived.Laws.Build
import Derived.Laws.StructEq
import Derived.KernelRfl
import Derived.IntWalk
import Derived.Laws.Strings
set_option linter.all false
namespace Go.Vc

/-! ### types, read off the tables -/

def tyAgg (P : Program) (t : TypeId) : Option Bool := match P.underlying t with
  | some (.struct _) => some true
  | some (.array _ _) => some true
  | some _ => some false
  | none => none
def tySize (P : Program) (t : TypeId) : Option Nat := (P.info? t).map (·.size)
def tyZero (P : Program) (t : TypeId) : Option Value := (P.info? t).bind (·.zero)
def fieldOff (P : Program) (s i : Nat) : Option Nat := match P.underlying s with
  | some (.struct fs) => match fs[i]? with
    | some f => match tySize P f.type with
      | some (_ + 1) => some f.offset
      | _ => none
    | none => none
  | _ => none
def elemSz (P : Program) (t : TypeId) : Option Nat := match P.underlying t with
  | some (.slice e) => tySize P e
  | _ => none
def arrOf (P : Program) (t : TypeId) : Option (Nat × Nat) := match P.underlying t with
  | some (.array n e) => (tySize P e).map (n, ·)
  | _ => none
/-- offset and size of each field -/
def placesOf (P : Program) (t : TypeId) : Option (List (Nat × Nat)) := match P.underlying t with
  | some (.struct fs) => fs.toList.mapM fun f => (tySize P f.type).map (f.offset, ·)
  | _ => none

section
variable {P : Program} {w : World} {t : TypeId}

theorem run_typeInfo' {i : TypeInfo} (h : P.info? t = some i) : (typeInfo t).run P w = .ok i w := by simp [typeInfo, h]

theorem run_underlying' {d : TypeDesc} (h : P.underlying t = some d) : (underlying t).run P w = .ok d w := by simp [underlying, h]

theorem run_sizeOf' {n : Nat} (h : tySize P t = some n) : (sizeOf t).run P w = .ok n w := by
  unfold tySize at h
  cases hi : P.info? t with
  | none => simp [hi] at h
  | some i =>
    simp only [hi, Option.map_some, Option.some.injEq] at h
    simp [sizeOf, run_typeInfo' hi, h]

theorem run_zeroValue' {v : Value} (h : tyZero P t = some v) : (zeroValue t).run P w = .ok v w := by
  unfold tyZero at h
  cases hi : P.info? t with
  | none => simp [hi] at h
  | some i =>
    simp only [hi, Option.bind_some] at h
    simp [zeroValue, run_typeInfo' hi, h]

theorem run_isAgg' {b : Bool} (h : tyAgg P t = some b) : (isAgg t).run P w = .ok b w := by
  unfold tyAgg at h
  cases hu : P.underlying t with
  | none => simp [hu] at h
  | some d =>
    rw [hu] at h
    cases d <;> simp at h <;> subst h <;> simp [isAgg, run_underlying' hu]
end

/-! ### cells -/

theorem add_none (b o k : Nat) : (⟨b, o, none⟩ : Addr).add k = ⟨b, o + k, none⟩ := by
  unfold Addr.add
  split
  · rename_i h; simp [h]
  · rfl

theorem add_add (a : Addr) (j k : Nat) : (a.add j).add k = a.add (j + k) := by
  unfold Addr.add
  by_cases hj : j = 0
  · simp [hj]
  · by_cases hk : k = 0
    · simp [hk, hj]
    · have : ¬ (j + k = 0) := by omega
      simp [hj, hk, this, Nat.add_assoc]

theorem add_zero' (a : Addr) : a.add 0 = a := by simp [Addr.add]

theorem add_block (a : Addr) (k : Nat) : (a.add k).block = a.block := by unfold Addr.add; split <;> rfl

def cellsAt (w : World) (a : Addr) (vs : List Value) : Prop := ∀ j v, vs[j]? = some v → w.cell? (a.add j) = some v

theorem cellsAt.sub {w : World} {a : Addr} {vs : List Value} (h : cellsAt w a vs) (k n : Nat) : cellsAt w (a.add k) ((vs.drop k).take n) := by
  intro j v hj
  rw [add_add]
  refine h _ _ ?_
  rw [List.getElem?_take] at hj
  split at hj
  · rwa [List.getElem?_drop] at hj
  · cases hj

theorem cell_lt {w : World} {a : Addr} {v : Value} (h : w.cell? a = some v) : a.block < w.heap.size := by
  unfold World.cell? at h
  cases hb : w.heap[a.block]? with
  | none => simp [hb] at h
  | some o => exact lt_of_some hb

theorem cell_of_heap {w w' : World} {a : Addr} (h : w'.heap[a.block]? = w.heap[a.block]?) : w'.cell? a = w.cell? a := by
  unfold World.cell?; rw [h]

theorem Good.cell {w0 w : World} {M : List Nat} {H : Heap} (h : Good w0 M H w) {a : Addr} {v : Value} (hc : w0.cell? a = some v) (hM : a.block ∉ M) : w.cell? a = some v := by
  rw [cell_of_heap (h.base _ (cell_lt hc) hM)]; exact hc

theorem Good.cells {w0 w : World} {M : List Nat} {H : Heap} (h : Good w0 M H w) {a : Addr} {vs : List Value} (hc : cellsAt w0 a vs) (hM : a.block ∉ M) : cellsAt w a vs :=
  fun j v hj => h.cell (hc j v hj) (by rw [add_block]; exact hM)

theorem Ext.cell {w w' : World} (h : Ext w w') {a : Addr} {v : Value} (hc : w.cell? a = some v) : w'.cell? a = some v := by
  rw [cell_of_heap (h.same _ (cell_lt hc))]; exact hc

theorem Ext.cells {w w' : World} (h : Ext w w') {a : Addr} {vs : List Value} (hc : cellsAt w a vs) : cellsAt w' a vs := fun j v hj => h.cell (hc j v hj)

theorem own_cell {w : World} {b : Nat} {cs : Array Value} {t : TypeId} {fr : Nat × Nat} (h : w.heap[b]? = some (.cells cs t fr)) (off : Nat) : w.cell? ⟨b, off, none⟩ = cs.toList[off]? := by
  simp [World.cell?, h]

theorem own_cellsAt {w : World} {b : Nat} {cs : Array Value} {t : TypeId} {fr : Nat × Nat} (h : w.heap[b]? = some (.cells cs t fr)) (off : Nat) : cellsAt w ⟨b, off, none⟩ (cs.toList.drop off) := by
  intro j v hj
  rw [add_none, own_cell h, ← hj, List.getElem?_drop]

def sliceL (l : List Value) (off n : Nat) : Option (List Value) := bif Nat.ble (off + n) l.length then some ((l.drop off).take n) else none

theorem sliceL_spec {l vs : List Value} {off n : Nat} (h : sliceL l off n = some vs) : vs = (l.drop off).take n ∧ vs.length = n := by
  unfold sliceL at h
  cases hb : Nat.ble (off + n) l.length with
  | false => simp [hb] at h
  | true =>
    have := Nat.le_of_ble_eq_true hb
    simp only [hb, cond_true, Option.some.injEq] at h
    subst h
    exact ⟨rfl, by simp; omega⟩

theorem run_loadVar {P : Program} {w : World} {t : TypeId} {a : Addr} {v : Value} (ha : tyAgg P t = some false) (hc : w.cell? a = some v) : (loadVar t a).run P w = .ok v w := by
  simp [loadVar, run_isAgg' ha, hc]

theorem run_loadVar_agg {P : Program} {w : World} {t : TypeId} {a : Addr} {n : Nat} {vs : List Value} (ha : tyAgg P t = some true) (hs : tySize P t = some n) (hn : vs.length = n) (hc : cellsAt w a vs) :
    (loadVar t a).run P w = .ok (.agg vs.toArray) w := by
  subst hn
  have := run_loadCells_list (P := P) (w := w) a vs hc
  simp [loadVar, run_isAgg' ha, run_sizeOf' hs, this]

theorem beq_dec {α : Type} [BEq α] [LawfulBEq α] [DecidableEq α] (a b : α) : (a == b) = decide (a = b) := by rw [Bool.eq_iff_iff]; simp

theorem bytes_ext {a b : ByteArray} (h : a.data.toList = b.data.toList) : a = b := by
  obtain ⟨⟨x⟩⟩ := a
  obtain ⟨⟨y⟩⟩ := b
  simp only at h
  rw [h]
theorem bytes_dec (a b : ByteArray) : (a.toList == b.toList) = decide (a = b) := by
  rw [ByteArray.toList_eq, ByteArray.toList_eq, Bool.eq_iff_iff]
  simp only [beq_iff_eq, decide_eq_true_eq]
  exact ⟨bytes_ext, fun h => by rw [h]⟩

/-! ### pure operations -/

section
variable {X : Cx} {ρ : PEnv} {H : Heap} {o : Oper}

theorem p_move {x : Operand} {v : Value} (ho : o.op = .move x) (hx : ρ.ev x = some v) : RdP X ρ o v :=
  ⟨fun c h => (by rw [ho] at h; cases h), fun e w he => by simp [execOp, ho, he _ _ hx]⟩

theorem p_assign {x : Operand} {v : Value} (ho : o.op = .assign x) (hx : ρ.ev x = some v) : RdP X ρ o v :=
  ⟨fun c h => (by rw [ho] at h; cases h), fun e w he => by simp [execOp, ho, he _ _ hx]⟩

theorem p_pick_t {c a b : Operand} {v : Value} {t : Bool} (ho : o.op = .pick c a b) (hc : ρ.ev c = some (.bool t)) (ht : t = true) (ha : ρ.ev a = some v) : RdP X ρ o v :=
  ⟨fun c h => (by rw [ho] at h; cases h), fun e w he => by simp [execOp, ho, he _ _ hc, he _ _ ha, ht, asBool]⟩

theorem p_pick_f {c a b : Operand} {v : Value} {t : Bool} (ho : o.op = .pick c a b) (hc : ρ.ev c = some (.bool t)) (ht : t = false) (hb : ρ.ev b = some v) : RdP X ρ o v :=
  ⟨fun c h => (by rw [ho] at h; cases h), fun e w he => by simp [execOp, ho, he _ _ hc, he _ _ hb, ht, asBool]⟩

theorem p_not {x : Operand} {t : TypeId} {b : Bool} (ho : o.op = .unOp .not t x) (hx : ρ.ev x = some (.bool b)) : RdP X ρ o (.bool !b) :=
  ⟨fun c h => (by rw [ho] at h; cases h), fun e w he => by simp [execOp, ho, he _ _ hx, Op.unary]⟩

theorem p_neg {x : Operand} {t : TypeId} {k : IntKind} {n : Int} (ho : o.op = .unOp .neg t x) (hx : ρ.ev x = some (.int k n)) : RdP X ρ o (.int k (k.wrap (0 - n))) :=
  ⟨fun c h => (by rw [ho] at h; cases h), fun e w he => by simp [execOp, ho, he _ _ hx, Op.unary, Op.intArith]⟩

theorem p_nil {x : Operand} {a : Addr} (ho : o.op = .nilCheck x) (hx : ρ.ev x = some (.pointer (some a))) : RdP X ρ o (.pointer (some a)) :=
  ⟨fun c h => (by rw [ho] at h; cases h), fun e w he => by simp [execOp, ho, he _ _ hx]⟩

theorem p_bin {op : BinOp} {t yt : TypeId} {x y : Operand} {k : IntKind} {a b : Int} {v : Value} (ho : o.op = .binOp op t x y yt) (hx : ρ.ev x = some (.int k a)) (hy : ρ.ev y = some (.int k b))
    (h : ∀ w, (binOp op t (.int k a) (.int k b)).run X.P w = .ok v w) : RdP X ρ o v :=
  ⟨fun c h => (by rw [ho] at h; cases h), fun e w he => by
    have hg : (eqGuard op t x y (.int k a) (.int k b)).run X.P w = .ok () w := by unfold eqGuard; split <;> simp
    simp [execOp, ho, he _ _ hx, he _ _ hy, hg, h]⟩

theorem p_add {t yt : TypeId} {x y : Operand} {k : IntKind} {a b : Int} (ho : o.op = .binOp .add t x y yt) (hx : ρ.ev x = some (.int k a)) (hy : ρ.ev y = some (.int k b)) : RdP X ρ o (.int k (k.wrap (a + b))) :=
  p_bin ho hx hy fun w => by simp [binOp, Op.intArith]
theorem p_sub {t yt : TypeId} {x y : Operand} {k : IntKind} {a b : Int} (ho : o.op = .binOp .sub t x y yt) (hx : ρ.ev x = some (.int k a)) (hy : ρ.ev y = some (.int k b)) : RdP X ρ o (.int k (k.wrap (a - b))) :=
  p_bin ho hx hy fun w => by simp [binOp, Op.intArith]
theorem p_mul {t yt : TypeId} {x y : Operand} {k : IntKind} {a b : Int} (ho : o.op = .binOp .mul t x y yt) (hx : ρ.ev x = some (.int k a)) (hy : ρ.ev y = some (.int k b)) : RdP X ρ o (.int k (k.wrap (a * b))) :=
  p_bin ho hx hy fun w => by simp [binOp, Op.intArith]
theorem p_quo {t yt : TypeId} {x y : Operand} {k : IntKind} {a b : Int} (ho : o.op = .binOp .quo t x y yt) (hx : ρ.ev x = some (.int k a)) (hy : ρ.ev y = some (.int k b)) (hb : b ≠ 0) : RdP X ρ o (.int k (k.wrap (a.tdiv b))) :=
  p_bin ho hx hy fun w => by simp [binOp, Op.intDiv, hb]
theorem p_rem {t yt : TypeId} {x y : Operand} {k : IntKind} {a b : Int} (ho : o.op = .binOp .rem t x y yt) (hx : ρ.ev x = some (.int k a)) (hy : ρ.ev y = some (.int k b)) (hb : b ≠ 0) : RdP X ρ o (.int k (a.tmod b)) :=
  p_bin ho hx hy fun w => by simp [binOp, Op.intDiv, hb]

def InI (n : Int) : Prop := -9223372036854775808 ≤ n ∧ n ≤ 9223372036854775807

theorem wrap_in {n : Int} (h : InI n) : IntKind.i64.wrap n = n := IntWalk.i64_in n h

/-- the same, where the result is in the range of int -/
theorem p_add' {t yt : TypeId} {x y : Operand} {a b : Int} (ho : o.op = .binOp .add t x y yt) (hx : ρ.ev x = some (.int .i64 a)) (hy : ρ.ev y = some (.int .i64 b)) (hr : InI (a + b)) : RdP X ρ o (.int .i64 (a + b)) := by
  have := p_add (X := X) ho hx hy; rwa [wrap_in hr] at this
theorem p_sub' {t yt : TypeId} {x y : Operand} {a b : Int} (ho : o.op = .binOp .sub t x y yt) (hx : ρ.ev x = some (.int .i64 a)) (hy : ρ.ev y = some (.int .i64 b)) (hr : InI (a - b)) : RdP X ρ o (.int .i64 (a - b)) := by
  have := p_sub (X := X) ho hx hy; rwa [wrap_in hr] at this
theorem p_mul' {t yt : TypeId} {x y : Operand} {a b : Int} (ho : o.op = .binOp .mul t x y yt) (hx : ρ.ev x = some (.int .i64 a)) (hy : ρ.ev y = some (.int .i64 b)) (hr : InI (a * b)) : RdP X ρ o (.int .i64 (a * b)) := by
  have := p_mul (X := X) ho hx hy; rwa [wrap_in hr] at this
theorem p_quo' {t yt : TypeId} {x y : Operand} {a b : Int} (ho : o.op = .binOp .quo t x y yt) (hx : ρ.ev x = some (.int .i64 a)) (hy : ρ.ev y = some (.int .i64 b)) (hb : b ≠ 0) (hr : InI (a.tdiv b)) : RdP X ρ o (.int .i64 (a.tdiv b)) := by
  have := p_quo (X := X) ho hx hy hb; rwa [wrap_in hr] at this
theorem p_neg' {x : Operand} {t : TypeId} {n : Int} (ho : o.op = .unOp .neg t x) (hx : ρ.ev x = some (.int .i64 n)) (hr : InI (-n)) : RdP X ρ o (.int .i64 (-n)) := by
  have := p_neg (X := X) ho hx; rw [Int.zero_sub] at this; rwa [wrap_in hr] at this

theorem p_lss {t yt : TypeId} {x y : Operand} {k : IntKind} {a b : Int} (ho : o.op = .binOp .lss t x y yt) (hx : ρ.ev x = some (.int k a)) (hy : ρ.ev y = some (.int k b)) : RdP X ρ o (.bool (decide (a < b))) :=
  p_bin ho hx hy fun w => by simp [binOp, Op.intCmp]
theorem p_leq {t yt : TypeId} {x y : Operand} {k : IntKind} {a b : Int} (ho : o.op = .binOp .leq t x y yt) (hx : ρ.ev x = some (.int k a)) (hy : ρ.ev y = some (.int k b)) : RdP X ρ o (.bool (decide (a ≤ b))) :=
  p_bin ho hx hy fun w => by simp [binOp, Op.intCmp]
theorem p_gtr {t yt : TypeId} {x y : Operand} {k : IntKind} {a b : Int} (ho : o.op = .binOp .gtr t x y yt) (hx : ρ.ev x = some (.int k a)) (hy : ρ.ev y = some (.int k b)) : RdP X ρ o (.bool (decide (b < a))) :=
  p_bin ho hx hy fun w => by simp [binOp, Op.intCmp]
theorem p_geq {t yt : TypeId} {x y : Operand} {k : IntKind} {a b : Int} (ho : o.op = .binOp .geq t x y yt) (hx : ρ.ev x = some (.int k a)) (hy : ρ.ev y = some (.int k b)) : RdP X ρ o (.bool (decide (b ≤ a))) :=
  p_bin ho hx hy fun w => by simp [binOp, Op.intCmp]
theorem p_eql {t yt : TypeId} {x y : Operand} {k : IntKind} {a b : Int} (ho : o.op = .binOp .eql t x y yt) (hx : ρ.ev x = some (.int k a)) (hy : ρ.ev y = some (.int k b)) : RdP X ρ o (.bool (decide (a = b))) :=
  p_bin ho hx hy fun w => by simp [binOp, Op.intCmp, beq_dec]
theorem p_neq {t yt : TypeId} {x y : Operand} {k : IntKind} {a b : Int} (ho : o.op = .binOp .neq t x y yt) (hx : ρ.ev x = some (.int k a)) (hy : ρ.ev y = some (.int k b)) : RdP X ρ o (.bool (decide (a ≠ b))) :=
  p_bin ho hx hy fun w => by simp [binOp, Op.intCmp, bne, beq_dec]

theorem p_eqls {t yt : TypeId} {x y : Operand} {a b : ByteArray} (ho : o.op = .binOp .eql t x y yt) (hx : ρ.ev x = some (.string a)) (hy : ρ.ev y = some (.string b)) : RdP X ρ o (.bool (decide (a = b))) :=
  ⟨fun c h => (by rw [ho] at h; cases h), fun e w he => by
    have hg : (eqGuard .eql t x y (.string a) (.string b)).run X.P w = .ok () w := by unfold eqGuard; simp
    have hb : (a.toList == b.toList) = decide (a = b) := bytes_dec a b
    simp [execOp, ho, he _ _ hx, he _ _ hy, hg, binOp, Op.stringOp, hb]⟩

theorem p_eqlb {t yt : TypeId} {x y : Operand} {a b : Bool} (hu : X.P.underlying t = some .bool) (ho : o.op = .binOp .eql t x y yt) (hx : ρ.ev x = some (.bool a)) (hy : ρ.ev y = some (.bool b)) : RdP X ρ o (.bool (a == b)) :=
  ⟨fun c h => (by rw [ho] at h; cases h), fun e w he => by
    have hg : (eqGuard .eql t x y (.bool a) (.bool b)).run X.P w = .ok () w := by unfold eqGuard; simp
    have h1 : (Op.equal t (.bool a) (.bool b)).run X.P w = .ok (a == b) w := run_equalIn_bool' w 9999 t a b hu
    simp [execOp, ho, he _ _ hx, he _ _ hy, hg, binOp, h1]⟩
theorem p_neqb {t yt : TypeId} {x y : Operand} {a b : Bool} (hu : X.P.underlying t = some .bool) (ho : o.op = .binOp .neq t x y yt) (hx : ρ.ev x = some (.bool a)) (hy : ρ.ev y = some (.bool b)) : RdP X ρ o (.bool (!(a == b))) :=
  ⟨fun c h => (by rw [ho] at h; cases h), fun e w he => by
    have hg : (eqGuard .neq t x y (.bool a) (.bool b)).run X.P w = .ok () w := by unfold eqGuard; simp
    have h1 : (Op.equal t (.bool a) (.bool b)).run X.P w = .ok (a == b) w := run_equalIn_bool' w 9999 t a b hu
    simp [execOp, ho, he _ _ hx, he _ _ hy, hg, binOp, h1]⟩

theorem p_field {x : Operand} {t off i : Nat} {a : Addr} (hf : fieldOff X.P t i = some off) (ho : o.op = .fieldAddr t x i) (hx : ρ.ev x = some (.pointer (some a))) : RdP X ρ o (.pointer (some (a.add off))) := by
  refine ⟨fun c h => (by rw [ho] at h; cases h), fun e w he => ?_⟩
  unfold fieldOff at hf
  cases hu : X.P.underlying t with
  | none => simp [hu] at hf
  | some d =>
    cases d with
    | struct fs =>
      simp only [hu] at hf
      cases hi : fs[i]? with
      | none => simp [hi] at hf
      | some f =>
        simp only [hi] at hf
        cases hs : tySize X.P f.type with
        | none => simp [hs] at hf
        | some n =>
          cases n with
          | zero => simp [hs] at hf
          | succ n =>
            simp only [hs, Option.some.injEq] at hf
            subst hf
            simp [execOp, ho, he _ _ hx, Instr.fieldAt, run_underlying' hu, hi, Instr.sureAddr, fieldPlace, run_sizeOf' hs]
    | _ => simp [hu] at hf

theorem p_fieldo {x : Operand} {t off i b k : Nat} (hf : fieldOff X.P t i = some off) (ho : o.op = .fieldAddr t x i) (hx : ρ.ev x = some (.pointer (some ⟨b, k, none⟩))) : RdP X ρ o (.pointer (some ⟨b, k + off, none⟩)) := by
  have := p_field (X := X) hf ho hx; rwa [add_none] at this

theorem p_idx {x i : Operand} {t len cap size : Nat} {a : Addr} {k : Int} (hs : elemSz X.P t = some size) (ho : o.op = .indexAddr t x i) (hx : ρ.ev x = some (.slice (some a) len cap)) (hi : ρ.ev i = some (.int .i64 k))
    (h0 : 0 ≤ k) (h1 : k < len) : RdP X ρ o (.pointer (some (a.add (k.toNat * size)))) := by
  refine ⟨fun c h => (by rw [ho] at h; cases h), fun e w he => ?_⟩
  unfold elemSz at hs
  cases hu : X.P.underlying t with
  | none => simp [hu] at hs
  | some d =>
    cases d with
    | slice el =>
      simp only [hu] at hs
      simp [execOp, ho, he _ _ hx, he _ _ hi, Instr.indexAt, asIntOf, run_underlying' hu, h0, h1, run_sizeOf' hs]
    | _ => simp [hu] at hs

theorem p_idxa {x i : Operand} {t len size : Nat} {a : Addr} {k : Int} (hs : arrOf X.P t = some (len, size)) (ho : o.op = .indexAddr t x i) (hx : ρ.ev x = some (.pointer (some a))) (hi : ρ.ev i = some (.int .i64 k))
    (h0 : 0 ≤ k) (h1 : k < len) : RdP X ρ o (.pointer (some (a.add (k.toNat * size)))) := by
  refine ⟨fun c h => (by rw [ho] at h; cases h), fun e w he => ?_⟩
  unfold arrOf at hs
  cases hu : X.P.underlying t with
  | none => simp [hu] at hs
  | some d =>
    cases d with
    | array n el =>
      simp only [hu] at hs
      cases hz : tySize X.P el with
      | none => simp [hz] at hs
      | some z =>
        simp only [hz, Option.map_some, Option.some.injEq, Prod.mk.injEq] at hs
        obtain ⟨rfl, rfl⟩ := hs
        simp [execOp, ho, he _ _ hx, he _ _ hi, Instr.indexAt, asIntOf, run_underlying' hu, h0, h1, run_sizeOf' hz, Instr.sureAddr]
    | _ => simp [hu] at hs

theorem p_len {x : Operand} {t len cap : Nat} {a : Option Addr} (hu : (X.P.underlying t).any (fun d => match d with | .slice _ => true | _ => false) = true)
    (ho : o.op = .call { callee := .builtin .len, args := #[x], argTypes := #[t] }) (hx : ρ.ev x = some (.slice a len cap)) : RdP X ρ o (.int .i64 len) := by
  refine ⟨fun c h => (by rw [ho] at h; cases h), fun e w he => ?_⟩
  cases hd : X.P.underlying t with
  | none => simp [hd] at hu
  | some d =>
    cases d with
    | slice el => simp [execOp, ho, resolve, invoke, builtin, Builtin.len_, he _ _ hx, run_underlying' hd, goInt]
    | _ => simp [hd] at hu

theorem p_lens {x : Operand} {t : Nat} {s : ByteArray} (hu : (X.P.underlying t).any (fun d => match d with | .string => true | _ => false) = true)
    (ho : o.op = .call { callee := .builtin .len, args := #[x], argTypes := #[t] }) (hx : ρ.ev x = some (.string s)) : RdP X ρ o (.int .i64 s.size) := by
  refine ⟨fun c h => (by rw [ho] at h; cases h), fun e w he => ?_⟩
  cases hd : X.P.underlying t with
  | none => simp [hd] at hu
  | some d =>
    cases d with
    | string => simp [execOp, ho, resolve, invoke, builtin, Builtin.len_, he _ _ hx, run_underlying' hd, goInt]
    | _ => simp [hd] at hu

def imin (a b : Int) : Int := if b < a then b else a
def imax (a b : Int) : Int := if b > a then b else a
theorem imin_eq (a b : Int) : imin a b = min a b := by unfold imin; split <;> omega
theorem imax_eq (a b : Int) : imax a b = max a b := by unfold imax; split <;> omega

theorem p_min {x y : Operand} {ty : Array TypeId} {k : IntKind} {a b : Int} (ho : o.op = .call { callee := .builtin .min, args := #[x, y], argTypes := ty }) (hx : ρ.ev x = some (.int k a)) (hy : ρ.ev y = some (.int k b)) :
    RdP X ρ o (.int k (min a b)) := imin_eq a b ▸
  ⟨fun c h => (by rw [ho] at h; cases h), fun e w he => by simp [execOp, ho, resolve, invoke, builtin, Builtin.min_, Builtin.min2, he _ _ hx, he _ _ hy, imin]⟩
theorem p_max {x y : Operand} {ty : Array TypeId} {k : IntKind} {a b : Int} (ho : o.op = .call { callee := .builtin .max, args := #[x, y], argTypes := ty }) (hx : ρ.ev x = some (.int k a)) (hy : ρ.ev y = some (.int k b)) :
    RdP X ρ o (.int k (max a b)) := imax_eq a b ▸
  ⟨fun c h => (by rw [ho] at h; cases h), fun e w he => by simp [execOp, ho, resolve, invoke, builtin, Builtin.max_, Builtin.max2, he _ _ hx, he _ _ hy, imax]⟩
theorem p_min3 {x y z : Operand} {ty : Array TypeId} {k : IntKind} {a b c : Int} (ho : o.op = .call { callee := .builtin .min, args := #[x, y, z], argTypes := ty }) (hx : ρ.ev x = some (.int k a)) (hy : ρ.ev y = some (.int k b))
    (hz : ρ.ev z = some (.int k c)) : RdP X ρ o (.int k (min (min a b) c)) := imin_eq (min a b) c ▸ imin_eq a b ▸
  ⟨fun c h => (by rw [ho] at h; cases h), fun e w he => (by simp [execOp, ho, resolve, invoke, builtin, Builtin.min_, Builtin.min2, he _ _ hx, he _ _ hy, he _ _ hz, imin]; try rfl)⟩
theorem p_max3 {x y z : Operand} {ty : Array TypeId} {k : IntKind} {a b c : Int} (ho : o.op = .call { callee := .builtin .max, args := #[x, y, z], argTypes := ty }) (hx : ρ.ev x = some (.int k a)) (hy : ρ.ev y = some (.int k b))
    (hz : ρ.ev z = some (.int k c)) : RdP X ρ o (.int k (max (max a b) c)) := imax_eq (max a b) c ▸ imax_eq a b ▸
  ⟨fun c h => (by rw [ho] at h; cases h), fun e w he => (by simp [execOp, ho, resolve, invoke, builtin, Builtin.max_, Builtin.max2, he _ _ hx, he _ _ hy, he _ _ hz, imax]; try rfl)⟩

theorem p_ext {x : Operand} {i : Nat} {vs : Array Value} {v : Value} (ho : o.op = .extract x i) (hx : ρ.ev x = some (.tuple vs)) (hv : vs.toList[i]? = some v) : RdP X ρ o v :=
  ⟨fun c h => (by rw [ho] at h; cases h), fun e w he => by
    have : vs[i]? = some v := by simpa using hv
    simp [execOp, ho, he _ _ hx, Instr.extract, this]⟩

theorem p_conv {x : Operand} {s t : TypeId} {k k' : IntKind} {n : Int} {ds : TypeDesc} (hs : X.P.underlying s = some ds) (hu : X.P.underlying t = some (.int k)) (ho : o.op = .convert s t x) (hx : ρ.ev x = some (.int k' n)) : RdP X ρ o (.int k (k.wrap n)) :=
  ⟨fun c h => (by rw [ho] at h; cases h), fun e w he => by
    simp [execOp, ho, he _ _ hx, convert, run_underlying' hs, run_underlying' hu, Conv.intToInt]⟩

/-- operands' values, one by one -/
def evL (ρ : PEnv) : List Operand → Option (List Value)
  | [] => some []
  | x :: l => match ρ.ev x with
    | some v => match evL ρ l with
      | some vs => some (v :: vs)
      | none => none
    | none => none

theorem evL_map {e : Operand → Value} (he : Evs ρ e) : ∀ {l : List Operand} {vs : List Value}, evL ρ l = some vs → l.map e = vs := by
  intro l
  induction l with
  | nil => intro vs h; simp [evL] at h; simp [h]
  | cons x l ih =>
    intro vs h
    simp only [evL] at h
    cases hx : ρ.ev x with
    | none => simp [hx] at h
    | some v =>
      cases hl : evL ρ l with
      | none => simp [hx, hl] at h
      | some us =>
        simp only [hx, hl, Option.some.injEq] at h
        subst h
        simp [he _ _ hx, ih hl]

theorem p_func {fn : Fn} {first captured : Array Operand} {fs cs : List Value} (ho : o.op = .makeFunc fn first captured) (hf : evL ρ first.toList = some fs) (hc : evL ρ captured.toList = some cs) :
    RdP X ρ o (.func fn fs.toArray cs.toArray) :=
  ⟨fun c h => (by rw [ho] at h; cases h), fun e w he => by
    have h1 : first.map e = fs.toArray := Array.toList_inj.1 (by simp [evL_map he hf])
    have h2 : captured.map e = cs.toArray := Array.toList_inj.1 (by simp [evL_map he hc])
    simp [execOp, ho, Instr.makeFunc, h1, h2]⟩
end

end Go.Vc
