/- Structs that are compared; maps with such keys; bytes of a string; append. -/
import Derived.Test.YtclbbchehjapjabVcE
set_option linter.all false
namespace Go.Vc

/-! ### comparing what is made of numbers, strings and bools alone -/

inductive Leaf where
  | int (k : IntKind) | str | bool
  deriving DecidableEq

def Leaf.fits : Leaf → Value → Bool
  | .int k, .int k' _ => k == k'
  | .str, .string _ => true
  | .bool, .bool _ => true
  | _, _ => false

def fitsL : List Leaf → List Value → Bool
  | [], [] => true
  | l :: ls, v :: vs => l.fits v && fitsL ls vs
  | _, _ => false

def eqv : Value → Value → Bool
  | .int _ a, .int _ b => decide (a = b)
  | .string a, .string b => decide (a = b)
  | .bool a, .bool b => a == b
  | _, _ => false

def eqL : List Value → List Value → Bool
  | [], [] => true
  | v :: vs, u :: us => eqv v u && eqL vs us
  | _, _ => false

def leavesF (P : Program) (lv : TypeId → Option (List Leaf)) : List Field → Nat → Option (List Leaf)
  | [], _ => some []
  | f :: fs, off =>
    if f.name = "_" then none else if f.offset ≠ off then none else
    match lv f.type with
    | none => none
    | some l => if tySize P f.type ≠ some l.length then none else
      match leavesF P lv fs (off + l.length) with
      | none => none
      | some r => some (l ++ r)

def leaves (P : Program) : Nat → TypeId → Option (List Leaf)
  | 0, _ => none
  | d + 1, t => match P.underlying t with
    | some (.int k) => some [.int k]
    | some .string => some [.str]
    | some .bool => some [.bool]
    | some (.struct fs) => if P.stoodInHeld t then none else leavesF P (leaves P d) fs.toList 0
    | _ => none

/-- the value of a type that has these cells -/
def valOf (P : Program) (t : TypeId) (xs : List Value) : Value := match tyAgg P t with
  | some true => .agg xs.toArray
  | _ => match xs with
    | [v] => v
    | _ => .agg xs.toArray

theorem fitsL_length {ls : List Leaf} : ∀ {vs : List Value}, fitsL ls vs = true → vs.length = ls.length := by
  induction ls with
  | nil => intro vs h; cases vs <;> simp [fitsL] at h ⊢
  | cons l ls ih => intro vs h; cases vs with
    | nil => simp [fitsL] at h
    | cons v vs => simp only [fitsL, Bool.and_eq_true] at h; simp [ih h.2]

theorem fitsL_append {l r : List Leaf} : ∀ {vs : List Value}, fitsL (l ++ r) vs = true → fitsL l (vs.take l.length) = true ∧ fitsL r (vs.drop l.length) = true := by
  induction l with
  | nil => intro vs h; exact ⟨by simp [fitsL], by simpa using h⟩
  | cons x l ih => intro vs h; cases vs with
    | nil => simp [fitsL] at h
    | cons v vs =>
      simp only [List.cons_append, fitsL, Bool.and_eq_true] at h
      have := ih h.2
      simp only [List.length_cons, List.take_succ_cons, List.drop_succ_cons, fitsL, Bool.and_eq_true]
      exact ⟨⟨h.1, this.1⟩, this.2⟩

theorem eqL_split (n : Nat) : ∀ (xs ys : List Value), xs.length = ys.length → eqL xs ys = (eqL (xs.take n) (ys.take n) && eqL (xs.drop n) (ys.drop n)) := by
  induction n with
  | zero => intro xs ys _; simp [eqL]
  | succ n ih => intro xs ys h; cases xs with
    | nil => cases ys with
      | nil => simp [eqL]
      | cons y ys => simp at h
    | cons x xs => cases ys with
      | nil => simp at h
      | cons y ys =>
        simp only [eqL, List.take_succ_cons, List.drop_succ_cons, Bool.and_assoc]
        rw [ih xs ys (by simpa using h)]

theorem run_part {P : Program} {w : World} {t : TypeId} {l : List Leaf} {xs : List Value} {off d : Nat} (hl : leaves P d t = some l) (hs : tySize P t = some l.length) (hx : fitsL l ((xs.drop off).take l.length) = true) :
    (part t xs.toArray off).run P w = .ok (valOf P t ((xs.drop off).take l.length)) w := by
  have hlen := fitsL_length hx
  cases d with
  | zero => simp [leaves] at hl
  | succ d =>
    simp only [leaves] at hl
    have scal : ∀ k : Leaf, l = [k] → tyAgg P t = some false → (part t xs.toArray off).run P w = .ok (valOf P t ((xs.drop off).take l.length)) w := by
      intro k e ha
      subst e
      simp only [List.length_cons, List.length_nil, Nat.zero_add] at hlen ⊢
      cases hd : xs.drop off with
      | nil => rw [hd] at hlen; simp at hlen
      | cons v r =>
        have hv : xs[off]? = some v := by
          have := congrArg (·[0]?) hd
          simpa using this
        simp [part, run_isAgg' ha, valOf, ha, hv]
    cases hu : P.underlying t with
    | none => simp [hu] at hl
    | some u =>
      cases u <;> simp only [hu] at hl <;> try (simp at hl; done)
      case bool => injection hl with hl; exact scal .bool hl.symm (by simp [tyAgg, hu])
      case int k => injection hl with hl; exact scal (.int k) hl.symm (by simp [tyAgg, hu])
      case string => injection hl with hl; exact scal .str hl.symm (by simp [tyAgg, hu])
      case struct fs =>
        have ha : tyAgg P t = some true := by simp [tyAgg, hu]
        have he : xs.toArray.extract off (off + l.length) = ((xs.drop off).take l.length).toArray := by
          apply Array.toList_inj.1
          simp
        simp [part, run_isAgg' ha, run_sizeOf' hs, valOf, ha, he]

theorem fits1 {k : Leaf} {xs : List Value} (h : fitsL [k] xs = true) : ∃ x, xs = [x] ∧ k.fits x = true := by
  match xs, h with
  | [], h => simp [fitsL] at h
  | [x], h => simp [fitsL] at h; exact ⟨x, rfl, h⟩
  | _ :: _ :: _, h => simp [fitsL] at h

theorem fits_bool {x : Value} (h : Leaf.bool.fits x = true) : ∃ b, x = .bool b := by cases x <;> simp [Leaf.fits] at h; exact ⟨_, rfl⟩
theorem fits_str {x : Value} (h : Leaf.str.fits x = true) : ∃ b, x = .string b := by cases x <;> simp [Leaf.fits] at h; exact ⟨_, rfl⟩
theorem fits_int {k : IntKind} {x : Value} (h : (Leaf.int k).fits x = true) : ∃ n, x = .int k n := by
  cases x <;> simp [Leaf.fits] at h
  subst h; exact ⟨_, rfl⟩

theorem run_equal_leaves {P : Program} : ∀ (d : Nat) (t : TypeId) (l : List Leaf) (xs ys : List Value) (w : World), leaves P d t = some l → fitsL l xs = true → fitsL l ys = true →
    ∀ k, d ≤ k → (Op.equalIn k t (valOf P t xs) (valOf P t ys)).run P w = .ok (eqL xs ys) w := by
  intro d
  induction d with
  | zero => intro t l xs ys w h; simp [leaves] at h
  | succ d ih =>
    intro t l xs ys w h hx hy k hk
    obtain ⟨k, rfl⟩ : ∃ j, k = j + 1 := ⟨k - 1, by omega⟩
    have h0 := h
    simp only [leaves] at h
    cases hu : P.underlying t with
    | none => simp [hu] at h
    | some u =>
      cases u <;> simp only [hu] at h <;> try (simp at h; done)
      case bool =>
        injection h with h; subst h
        have ha : tyAgg P t = some false := by simp [tyAgg, hu]
        obtain ⟨x, rfl, hx'⟩ := fits1 hx
        obtain ⟨y, rfl, hy'⟩ := fits1 hy
        · obtain ⟨x, rfl⟩ := fits_bool hx'
          obtain ⟨y, rfl⟩ := fits_bool hy'
          simp [valOf, ha, run_equalIn_bool' w k t _ _ hu, eqL, eqv]
      case int kk =>
        injection h with h; subst h
        have ha : tyAgg P t = some false := by simp [tyAgg, hu]
        obtain ⟨x, rfl, hx'⟩ := fits1 hx
        obtain ⟨y, rfl, hy'⟩ := fits1 hy
        · obtain ⟨x, rfl⟩ := fits_int hx'
          obtain ⟨y, rfl⟩ := fits_int hy'
          simp [valOf, ha, run_equalIn_int w k t _ _ _ _ hu, eqL, eqv, beq_dec]
      case string =>
        injection h with h; subst h
        have ha : tyAgg P t = some false := by simp [tyAgg, hu]
        obtain ⟨x, rfl, hx'⟩ := fits1 hx
        obtain ⟨y, rfl, hy'⟩ := fits1 hy
        · obtain ⟨x, rfl⟩ := fits_str hx'
          obtain ⟨y, rfl⟩ := fits_str hy'
          simp [valOf, ha, run_equalIn_string w k t _ _ hu, eqL, eqv, bytes_dec]
      case struct fs =>
        have ha : tyAgg P t = some true := by simp [tyAgg, hu]
        cases hst : P.stoodInHeld t with
        | true => simp [hst] at h
        | false =>
          simp only [hst, Bool.false_eq_true, if_false] at h
          simp only [valOf, ha]
          have hfo : P.underlying t = some (.struct (P.fieldsOf t)) := by simp [Program.fieldsOf, hu]
          rw [run_equalIn_agg w k t _ _ hfo hst]
          have hfs : (P.fieldsOf t) = fs := by simp [Program.fieldsOf, hu]
          rw [hfs]
          -- field by field
          have key : ∀ (fl : List Field) (off : Nat) (r : List Leaf), leavesF P (leaves P d) fl off = some r → fitsL r (xs.drop off) = true → fitsL r (ys.drop off) = true →
              (Op.eqFields k xs.toArray ys.toArray fl).run P w = .ok (eqL (xs.drop off) (ys.drop off)) w := by
            intro fl
            induction fl with
            | nil =>
              intro off r hr hfx hfy
              simp only [leavesF, Option.some.injEq] at hr
              subst hr
              have e1 : xs.drop off = [] := by cases hd : xs.drop off with
                | nil => rfl
                | cons a b => rw [hd] at hfx; simp [fitsL] at hfx
              have e2 : ys.drop off = [] := by cases hd : ys.drop off with
                | nil => rfl
                | cons a b => rw [hd] at hfy; simp [fitsL] at hfy
              simp [Op.eqFields, e1, e2, eqL]
            | cons f fl ihf =>
              intro off r hr hfx hfy
              simp only [leavesF] at hr
              by_cases hn : f.name = "_"
              · simp [hn] at hr
              · rw [if_neg hn] at hr
                by_cases ho : f.offset ≠ off
                · rw [if_pos ho] at hr; cases hr
                · rw [if_neg ho] at hr
                  have ho' : f.offset = off := Classical.not_not.1 ho
                  cases hl : leaves P d f.type with
                  | none => simp [hl] at hr
                  | some lf =>
                    simp only [hl] at hr
                    by_cases hz : tySize P f.type ≠ some lf.length
                    · rw [if_pos hz] at hr; cases hr
                    · rw [if_neg hz] at hr
                      have hz' := Classical.not_not.1 hz
                      cases hrest : leavesF P (leaves P d) fl (off + lf.length) with
                      | none => simp [hrest] at hr
                      | some rr =>
                        simp only [hrest, Option.some.injEq] at hr
                        subst hr
                        obtain ⟨x1, x2⟩ := fitsL_append hfx
                        obtain ⟨y1, y2⟩ := fitsL_append hfy
                        have hpx := run_part (w := w) hl hz' x1
                        have hpy := run_part (w := w) hl hz' y1
                        have he := ih f.type lf _ _ w hl x1 y1 k (by omega)
                        have hrec := ihf (off + lf.length) rr hrest (by rwa [List.drop_drop] at x2) (by rwa [List.drop_drop] at y2)
                        have hlx := fitsL_length hfx
                        have hly := fitsL_length hfy
                        rw [eqL_split lf.length (xs.drop off) (ys.drop off) (by omega), List.drop_drop, List.drop_drop]
                        simp only [Op.eqFields, hn, ne_eq, not_false_eq_true, if_true, Sem.run_bind, ho', hpx, hpy, Result.andThen_ok, he]
                        cases hb : eqL (List.take lf.length (List.drop off xs)) (List.take lf.length (List.drop off ys))
                        · simp
                        · simp [hrec]
          have := key fs.toList 0 l h (by simpa using hx) (by simpa using hy)
          simpa using this

section
variable {X : Cx} {ρ : PEnv} {ds : List Deferred} {H : Heap} {o : Oper}

theorem run_equal_top {P : Program} {t : TypeId} {l : List Leaf} {xs ys : List Value} {w : World} (hl : leaves P 10 t = some l) (ha : tyAgg P t = some true) (hx : fitsL l xs = true) (hy : fitsL l ys = true) :
    (Op.equal t (.agg xs.toArray) (.agg ys.toArray)).run P w = .ok (eqL xs ys) w := by
  have := run_equal_leaves 10 t l xs ys w hl hx hy 10000 (by decide)
  simp only [valOf, ha] at this
  exact this

theorem p_eqS {t yt : TypeId} {x y : Operand} {l : List Leaf} {xs ys : Array Value} (hl : leaves X.P 10 t = some l) (ha : tyAgg X.P t = some true) (hgd : X.P.eqGuardType X.P.depth t = false) (ho : o.op = .binOp .eql t x y yt) (hx : ρ.ev x = some (.agg xs)) (hy : ρ.ev y = some (.agg ys))
    (fx : fitsL l xs.toList = true) (fy : fitsL l ys.toList = true) : RdP X ρ o (.bool (eqL xs.toList ys.toList)) :=
  ⟨fun c h => (by rw [ho] at h; cases h), fun e w he => by
    have h1 := run_equal_top (w := w) hl ha fx fy
    simp only [Array.toArray_toList] at h1
    simp [execOp, ho, he _ _ hx, he _ _ hy, run_eqGuard_agg w .eql t x y xs ys hgd, binOp, h1]⟩

theorem p_neS {t yt : TypeId} {x y : Operand} {l : List Leaf} {xs ys : Array Value} (hl : leaves X.P 10 t = some l) (ha : tyAgg X.P t = some true) (hgd : X.P.eqGuardType X.P.depth t = false) (ho : o.op = .binOp .neq t x y yt) (hx : ρ.ev x = some (.agg xs)) (hy : ρ.ev y = some (.agg ys))
    (fx : fitsL l xs.toList = true) (fy : fitsL l ys.toList = true) : RdP X ρ o (.bool (!(eqL xs.toList ys.toList))) :=
  ⟨fun c h => (by rw [ho] at h; cases h), fun e w he => by
    have h1 := run_equal_top (w := w) hl ha fx fy
    simp only [Array.toArray_toList] at h1
    simp [execOp, ho, he _ _ hx, he _ _ hy, run_eqGuard_agg w .neq t x y xs ys hgd, binOp, h1]⟩

theorem p_idxo {x i : Operand} {t len cap size b off : Nat} {k : Int} (hs : elemSz X.P t = some size) (ho : o.op = .indexAddr t x i) (hx : ρ.ev x = some (.slice (some ⟨b, off, none⟩) len cap)) (hi : ρ.ev i = some (.int .i64 k))
    (h0 : 0 ≤ k) (h1 : k < len) : RdP X ρ o (.pointer (some ⟨b, off + k.toNat * size, none⟩)) := by
  have := p_idx (X := X) hs ho hx hi h0 h1; rwa [add_none] at this

theorem p_idxao {x i : Operand} {t len size b off : Nat} {k : Int} (hs : arrOf X.P t = some (len, size)) (ho : o.op = .indexAddr t x i) (hx : ρ.ev x = some (.pointer (some ⟨b, off, none⟩))) (hi : ρ.ev i = some (.int .i64 k))
    (h0 : 0 ≤ k) (h1 : k < len) : RdP X ρ o (.pointer (some ⟨b, off + k.toNat * size, none⟩)) := by
  have := p_idxa (X := X) hs ho hx hi h0 h1; rwa [add_none] at this

theorem cellsAt.zero {w : World} {a : Addr} {v : Value} {vs : List Value} (h : cellsAt w a (v :: vs)) : w.cell? a = some v := by
  have := h 0 v rfl; rwa [add_zero'] at this

theorem cellsAt.nth {w : World} {a : Addr} {v : Value} {vs : List Value} (h : cellsAt w a vs) (j : Nat) (hj : vs[j]? = some v) : w.cell? (a.add j) = some v := h j v hj

theorem Good.push {w0 w w' : World} {M : List Nat} {H : Heap} (h : Good w0 M H w) {o : Obj} (hw : w'.heap = w.heap.push o) (hio : SameIO w w') : Good w0 M ((w.heap.size, o) :: H) w' := by
  have := h.alloc o
  exact ⟨by have := this.size; simp only [World.alloc] at this; rw [hw]; exact this, fun b hb hM => by rw [hw]; exact this.base b hb hM, fun p hp => by rw [hw]; exact this.own p hp, this.nd, this.out, h.io.trans hio⟩

def bytesV (s : ByteArray) : List Value := s.data.toList.map fun b => Value.int .u8 b.toNat

theorem modify_push (h : Array Obj) (o : Obj) (f : Obj → Obj) : (h.push o).modify h.size f = h.push (f o) := by
  apply Array.ext (by simp)
  intro i h1 h2
  rw [Array.getElem_modify, Array.getElem_push, Array.getElem_push]
  simp only [Array.size_modify, Array.size_push] at h1
  by_cases e : i < h.size
  · have : ¬ h.size = i := by omega
    simp [e, this]
  · have : h.size = i := by omega
    simp [e, this]

theorem run_stb {P : Program} (w : World) (el : TypeId) (s : ByteArray) : ∃ cap pad fr w', (Conv.stringToBytes el s).run P w = .ok (.slice (some ⟨w.heap.size, 0, none⟩) s.size cap) w' ∧ w'.heap = w.heap.push (.cells (bytesV s ++ pad).toArray el fr) ∧ SameIO w w' := by
  have hel : (s.data.map fun b => Value.int .u8 b.toNat) = (bytesV s).toArray := by apply Array.toList_inj.1; simp [bytesV]
  have hnf : (Question.appendCap s.size 0 el).forced = false := rfl
  generalize hc : Question.cut (.appendCap s.size 0 el) (w.tape w.drawn (.appendCap s.size 0 el)) = cap
  generalize hp : List.replicate (cap - s.size) (Value.int .u8 0) = pad
  have hpad : Array.replicate (cap - s.size) (Value.int .u8 0) = pad.toArray := by rw [← hp]; simp
  have hrow : (bytesV s).toArray ++ pad.toArray = (bytesV s ++ pad).toArray := by simp
  let o : Obj := .cells (bytesV s ++ pad).toArray el
  let w1 : World := { w with drawn := w.drawn + 1 }
  have hsh : (w1.alloc o).shape? w.heap.size = some (el, (bytesV s ++ pad).toArray.size) := by simp [World.shape?, World.alloc, w1, o]
  refine ⟨cap, pad, ((bytesV s ++ pad).toArray.size, (bytesV s ++ pad).toArray.size + 1), (w1.alloc o).freeze { block := w.heap.size, off := (bytesV s ++ pad).toArray.size } 1, ?_, ?_, ?_⟩
  · have hnew : (newRow el ((bytesV s).toArray ++ pad.toArray)).run P w1 = .ok ⟨w.heap.size, 0, none⟩ (w1.alloc o) := by rw [hrow]; rfl
    have hmark : (markStringish ⟨w.heap.size, 0, none⟩).run P (w1.alloc o) = .ok () ((w1.alloc o).freeze { block := w.heap.size, off := (bytesV s ++ pad).toArray.size } 1) := by
      simp only [markStringish, Sem.run_bind, run_shape, hsh, Result.andThen_ok, run_freeze]
    have hch : (choose (.appendCap s.size 0 el)).run P w = .ok cap w1 := by rw [run_choose, hnf, hc]; rfl
    simp only [Conv.stringToBytes, Sem.run_bind, hch, Result.andThen_ok, hel, hpad, hnew, hmark, Sem.run_pure]
  · have e : w1.heap.size = w.heap.size := rfl
    simp only [World.freeze, World.alloc, o, w1]
    rw [if_neg (by decide)]
    dsimp only
    rw [modify_push]
    rfl
  · constructor <;> (simp only [World.freeze]; split <;> rfl)

/-- '[]byte(s)' -/
theorem w_bytes {x : Operand} {st t el : TypeId} {s : ByteArray} (hs : X.P.underlying st = some .string) (ht : X.P.underlying t = some (.slice el)) (he : X.P.underlying el = some (.int .u8)) (ho : o.op = .convert st t x) (hx : ρ.ev x = some (.string s)) :
    WrA X ρ H o fun v H' => ∃ b cap pad fr, X.w0.heap.size ≤ b ∧ v = .slice (some ⟨b, 0, none⟩) s.size cap ∧ H' = (b, .cells (bytesV s ++ pad).toArray el fr) :: H :=
  wr_value (fun c h => (by rw [ho] at h; cases h)) fun e w hev hg => by
    obtain ⟨cap, pad, fr, w', hrun, hheap, hio⟩ := run_stb (P := X.P) w el s
    refine ⟨_, w', _, .inl ?_, hg.push hheap hio, w.heap.size, cap, pad, fr, hg.size, rfl, rfl⟩
    simp only [execOp, ho, hev _ _ hx, convert, Sem.run_bind, run_underlying' hs, run_underlying' ht, run_underlying' he, Result.andThen_ok, hrun, Sem.run_pure]

def byteAt (s : ByteArray) (i : Nat) : Int := ((s.data.toList.getD i 0).toNat : Int)

/-- 's[k]' of a string -/
theorem p_chr {x i : Operand} {t : Nat} {s : ByteArray} {k : Int} (hu : X.P.underlying t = some .string) (ho : o.op = .index t x i) (hx : ρ.ev x = some (.string s)) (hi : ρ.ev i = some (.int .i64 k)) (h0 : 0 ≤ k) (h1 : k < s.size) :
    RdP X ρ o (.int .u8 (byteAt s k.toNat)) :=
  ⟨fun c h => (by rw [ho] at h; cases h), fun e w he => by
    have hlt : k.toNat < s.data.toList.length := by rw [Array.length_toList]; exact (by omega : k.toNat < s.size)
    have hlt' : k.toNat < s.size := by omega
    have hb : s[k.toNat]? = some (s.data.toList.getD k.toNat 0) := by
      rw [getElem?_pos s k.toNat hlt']
      rw [List.getD_eq_getElem?_getD, List.getElem?_eq_getElem hlt]
      rfl
    simp [execOp, ho, he _ _ hx, he _ _ hi, Instr.index, asIntOf, run_underlying' hu, h0, hb, byteAt]⟩

/-! ### parts of slices -/

theorem run_bound {P : Program} {w : World} {k : Int} {y : Nat} {c : BoundsCode} (h0 : 0 ≤ k) (h1 : k ≤ y) : (Instr.sliceBound (.int .i64 k) y c).run P w = .ok k.toNat w := by
  simp [Instr.sliceBound, asIntOf, h0, h1]

theorem map_add0 (a : Option Addr) (size : Nat) : a.map (·.add (0 * size)) = a := by cases a <;> simp [Addr.add]

/-- 's[:k]' -/
theorem p_slTo {x y : Operand} {t len cap size : Nat} {a : Option Addr} {k : Int} (hs : elemSz X.P t = some size) (ho : o.op = .slice t x none (some y) none) (hx : ρ.ev x = some (.slice a len cap)) (hy : ρ.ev y = some (.int .i64 k))
    (h0 : 0 ≤ k) (h1 : k ≤ cap) : RdP X ρ o (.slice a k.toNat cap) := by
  refine ⟨fun c h => (by rw [ho] at h; cases h), fun e w he => ?_⟩
  unfold elemSz at hs
  cases hu : X.P.underlying t with
  | none => simp [hu] at hs
  | some d =>
    cases d with
    | slice el =>
      simp only [hu] at hs
      have e1 : (if cap = 0 then a else a.map (·.add (0 * size))) = a := by rw [map_add0]; split <;> rfl
      simp only [execOp, ho, he _ _ hx, Option.map_none, Option.map_some, he _ _ hy, Instr.sliceAt, Instr.slice, Sem.run_bind, run_underlying' hu, Result.andThen_ok, Instr.sliceBounds, Sem.run_pure, run_bound h0 h1, if_true, run_sizeOf' hs, e1]
      simp
    | _ => simp [hu] at hs

/-- 's[k:]' -/
theorem p_slFrom {x y : Operand} {t len cap size : Nat} {a : Option Addr} {k : Int} (hs : elemSz X.P t = some size) (ho : o.op = .slice t x (some y) none none) (hx : ρ.ev x = some (.slice a len cap)) (hy : ρ.ev y = some (.int .i64 k))
    (h0 : 0 ≤ k) (h1 : k ≤ len) (h2 : len ≤ cap) : RdP X ρ o (.slice (if cap = k.toNat then a else a.map (·.add (k.toNat * size))) (len - k.toNat) (cap - k.toNat)) := by
  refine ⟨fun c h => (by rw [ho] at h; cases h), fun e w he => ?_⟩
  unfold elemSz at hs
  cases hu : X.P.underlying t with
  | none => simp [hu] at hs
  | some d =>
    cases d with
    | slice el =>
      simp only [hu] at hs
      simp only [execOp, ho, he _ _ hx, Option.map_none, Option.map_some, he _ _ hy, Instr.sliceAt, Instr.slice, Sem.run_bind, run_underlying' hu, Result.andThen_ok, Instr.sliceBounds, Sem.run_pure, run_bound h0 h1, run_sizeOf' hs]
    | _ => simp [hu] at hs

/-! ### maps whose keys are structs of numbers, strings and bools -/

structure MapIs (es : Array MapEntry) (l : List (List Value × Value)) : Prop where
  eq : es.toList.map (fun e => (e.key, e.val)) = l.map fun p => (Value.agg p.1.toArray, p.2)

theorem MapIs.nil : MapIs #[] [] := ⟨rfl⟩

theorem run_forIn_unit {α : Type} {P : Program} {w : World} (xs : Array α) (g : α → PUnit → Sem (ForInStep PUnit)) (h : ∀ x ∈ xs, (g x PUnit.unit).run P w = .ok (.yield PUnit.unit) w) : (forIn xs PUnit.unit g : Sem PUnit).run P w = .ok PUnit.unit w := by
  rw [← Array.forIn_toList]
  have : ∀ l : List α, (∀ x ∈ l, (g x PUnit.unit).run P w = .ok (.yield PUnit.unit) w) → (forIn l PUnit.unit g : Sem PUnit).run P w = .ok PUnit.unit w := by
    intro l
    induction l with
    | nil => intro _; simp
    | cons x l ih => intro hl; simp only [List.forIn_cons, Sem.run_bind, hl x (.head _), Result.andThen_ok]; exact ih fun y hy => hl y (.tail _ hy)
  exact this _ fun x hx => h x (Array.mem_toList_iff.1 hx)

theorem run_checkKey {P : Program} : ∀ (d : Nat) (t : TypeId) (l : List Leaf) (xs : List Value) (w : World) (em : Bool), leaves P d t = some l → fitsL l xs = true →
    ∀ k, d ≤ k → (Instr.checkKey em k t (valOf P t xs)).run P w = .ok () w := by
  intro d
  induction d with
  | zero => intro t l xs w em h; simp [leaves] at h
  | succ d ih =>
    intro t l xs w em h hx k hk
    obtain ⟨k, rfl⟩ : ∃ j, k = j + 1 := ⟨k - 1, by omega⟩
    simp only [leaves] at h
    cases hu : P.underlying t with
    | none => simp [hu] at h
    | some u =>
      cases u <;> simp only [hu] at h <;> try (simp at h; done)
      case bool => simp [Instr.checkKey, run_underlying' hu]
      case int => simp [Instr.checkKey, run_underlying' hu]
      case string => simp [Instr.checkKey, run_underlying' hu]
      case struct fs =>
        have ha : tyAgg P t = some true := by simp [tyAgg, hu]
        cases hst : P.stoodInHeld t with
        | true => simp [hst] at h
        | false =>
          simp only [hst, Bool.false_eq_true, if_false] at h
          simp only [valOf, ha, Instr.checkKey, Sem.run_bind, run_underlying' hu, Result.andThen_ok]
          have key : ∀ (fl : List Field) (off : Nat) (r : List Leaf), leavesF P (leaves P d) fl off = some r → fitsL r (xs.drop off) = true → ∀ f ∈ fl, ∃ v, (part f.type xs.toArray f.offset).run P w = .ok v w ∧ (Instr.checkKey em k f.type v).run P w = .ok () w := by
            intro fl
            induction fl with
            | nil => intro off r _ _ f hf; cases hf
            | cons f fl ihf =>
              intro off r hr hfx
              simp only [leavesF] at hr
              by_cases hn : f.name = "_"
              · simp [hn] at hr
              · rw [if_neg hn] at hr
                by_cases ho : f.offset ≠ off
                · rw [if_pos ho] at hr; cases hr
                · rw [if_neg ho] at hr
                  have ho' : f.offset = off := Classical.not_not.1 ho
                  cases hl : leaves P d f.type with
                  | none => simp [hl] at hr
                  | some lf =>
                    simp only [hl] at hr
                    by_cases hz : tySize P f.type ≠ some lf.length
                    · rw [if_pos hz] at hr; cases hr
                    · rw [if_neg hz] at hr
                      have hz' := Classical.not_not.1 hz
                      cases hrest : leavesF P (leaves P d) fl (off + lf.length) with
                      | none => simp [hrest] at hr
                      | some rr =>
                        simp only [hrest, Option.some.injEq] at hr
                        subst hr
                        obtain ⟨x1, x2⟩ := fitsL_append hfx
                        have hpx := run_part (w := w) hl hz' x1
                        have hc := ih f.type lf _ w em hl x1 k (by omega)
                        have hrec := ihf (off + lf.length) rr hrest (by rwa [List.drop_drop] at x2)
                        intro g hg
                        rcases List.mem_cons.1 hg with rfl | hg
                        · exact ⟨_, by rw [ho']; exact hpx, hc⟩
                        · exact hrec g hg
          have hk := key fs.toList 0 l h (by simpa using hx)
          rw [run_forIn_unit (P := P) (w := w) fs _ fun f hf => ?_]
          · rfl
          obtain ⟨v, h1, h2⟩ := hk f (Array.mem_toList_iff.2 hf)
          by_cases hn : f.name = "_"
          · simp [hn]
          · simp [hn, h1, h2]

theorem run_findAsking {P : Program} {w : World} {kt : TypeId} {k : Value} {f : MapEntry → Bool} : ∀ (es : List MapEntry) (i : Nat), (∀ e ∈ es, (Op.equal kt k e.key).run P w = .ok (f e) w) →
    ∃ r, (Instr.findAsking kt k es i).run P w = .ok r w ∧ ((r = none ∧ es.find? f = none) ∨ ∃ e j, es.find? f = some e ∧ r = some (j, e.val)) := by
  intro es
  induction es with
  | nil => intro i _; exact ⟨none, by simp [Instr.findAsking], .inl ⟨rfl, rfl⟩⟩
  | cons e es ih =>
    intro i h
    have h1 := h e (.head _)
    obtain ⟨r, hr, hcase⟩ := ih (i + 1) (fun e he => h e (.tail _ he))
    cases hf : f e with
    | true => exact ⟨some (i, e.val), by simp [Instr.findAsking, h1, hf], .inr ⟨e, i, by simp [hf], rfl⟩⟩
    | false =>
      refine ⟨r, by simp [Instr.findAsking, h1, hf, hr], ?_⟩
      rcases hcase with ⟨h2, h3⟩ | ⟨e', j, h2, h3⟩
      · exact .inl ⟨h2, by simp [hf, h3]⟩
      · exact .inr ⟨e', j, by simp [hf, h2], h3⟩

def keyEq (k : List Value) (p : List Value × Value) : Bool := eqL k p.1

theorem mapIs_find {es : List MapEntry} {l : List (List Value × Value)} (h : es.map (fun e => (e.key, e.val)) = l.map fun p => (Value.agg p.1.toArray, p.2)) (f : MapEntry → Bool) (k : List Value)
    (hf : ∀ e ∈ es, ∀ q : List Value, e.key = .agg q.toArray → f e = eqL k q) : (es.find? f).map (·.val) = (l.find? (keyEq k)).map (·.2) := by
  induction es generalizing l with
  | nil => cases l with
    | nil => rfl
    | cons p l => simp at h
  | cons e es ih => cases l with
    | nil => simp at h
    | cons p l =>
      simp only [List.map_cons, List.cons.injEq, Prod.mk.injEq] at h
      obtain ⟨⟨h1, h2⟩, h3⟩ := h
      have hfe := hf e (.head _) p.1 h1
      simp only [List.find?_cons, keyEq, hfe]
      cases eqL k p.1
      · exact ih h3 (fun e he => hf e (.tail _ he))
      · simp [h2]

/-- finding a key -/
theorem run_findKey {P : Program} {w : World} {kt : TypeId} {ls : List Leaf} {es : Array MapEntry} {l : List (List Value × Value)} {k : List Value} (hl : leaves P 10 kt = some ls) (ha : tyAgg P kt = some true) (hk : fitsL ls k = true) (hm : MapIs es l)
    (hfit : ∀ p ∈ l, fitsL ls p.1 = true) : ∃ r, (Instr.findKey kt (.agg k.toArray) es.toList).run P w = .ok r w ∧ r.map (·.2) = (l.find? (keyEq k)).map (·.2) ∧ (r = none ↔ l.find? (keyEq k) = none) := by
  have hkeys : ∀ e ∈ es.toList, ∃ q : List Value, e.key = .agg q.toArray ∧ fitsL ls q = true := by
    intro e he
    have : (e.key, e.val) ∈ l.map fun p => (Value.agg p.1.toArray, p.2) := by rw [← hm.eq]; exact List.mem_map_of_mem (f := fun e : MapEntry => (e.key, e.val)) he
    obtain ⟨p, hp, e2⟩ := List.mem_map.1 this
    simp only [Prod.mk.injEq] at e2
    exact ⟨p.1, e2.1.symm, hfit p hp⟩
  have heq : ∀ e ∈ es.toList, (Op.equal kt (.agg k.toArray) e.key).run P w = .ok (match e.key with | .agg q => eqL k q.toList | _ => false) w := by
    intro e he
    obtain ⟨q, hq, hfq⟩ := hkeys e he
    rw [hq]
    simpa using run_equal_top hl ha hk hfq
  obtain ⟨r, hr, hcase⟩ := run_findAsking (P := P) (w := w) (kt := kt) (k := .agg k.toArray) es.toList 0 heq
  have hfind := mapIs_find hm.eq (fun e => match e.key with | .agg q => eqL k q.toList | _ => false) k (fun e he q hq => by simp only [hq])
  have hU : ∃ u, P.underlying kt = some u := by
    unfold tyAgg at ha
    cases hu : P.underlying kt with
    | none => simp [hu] at ha
    | some u => exact ⟨u, rfl⟩
  obtain ⟨u, hu⟩ := hU
  have hrun : (Instr.findKey kt (.agg k.toArray) es.toList).run P w = .ok r w := by
    simp only [Instr.findKey, Sem.run_bind, run_underlying' hu, Result.andThen_ok]
    cases hes : es.toList with
    | nil =>
      have hr0 : r = none := by
        rcases hcase with ⟨h1, _⟩ | ⟨e, j, h1, _⟩
        · exact h1
        · rw [hes] at h1; simp at h1
      simp [Instr.findNow, hr0]
    | cons e rest =>
      obtain ⟨q, hq, _⟩ := hkeys e (by rw [hes]; exact .head _)
      have : Instr.sameNow u (.agg k.toArray) e.key = none := by rw [hq]; cases u <;> rfl
      simp only [Instr.findNow, this]
      rw [hes] at hr
      exact hr
  refine ⟨r, hrun, ?_, ?_⟩
  · rw [← hfind]
    rcases hcase with ⟨h1, h2⟩ | ⟨e, j, h1, h2⟩
    · rw [h1, h2]; rfl
    · rw [h1, h2]; rfl
  · rcases hcase with ⟨h1, h2⟩ | ⟨e, j, h1, h2⟩
    · rw [h2] at hfind
      constructor
      · intro _
        cases hf : l.find? (keyEq k) with
        | none => rfl
        | some p => rw [hf] at hfind; simp at hfind
      · intro _; exact h1
    · rw [h1] at hfind
      constructor
      · intro h; rw [h] at h2; cases h2
      · intro h; rw [h] at hfind; simp at hfind

def found (l : List (List Value × Value)) (k : List Value) (z : Value) : Value := ((l.find? (keyEq k)).map (·.2)).getD z

theorem r_look {m y : Operand} {t kt et b clk : Nat} {ls : List Leaf} {es : Array MapEntry} {l : List (List Value × Value)} {k : List Value} {z : Value} (hu : X.P.underlying t = some (.map kt et)) (hl : leaves X.P 10 kt = some ls) (ha : tyAgg X.P kt = some true) (hz : tyZero X.P et = some z)
    (ho : o.op = .lookup t m y false) (hm : ρ.ev m = some (.map (some b))) (hy : ρ.ev y = some (.agg k.toArray)) (hk : fitsL ls k = true) (hmem : (b, Obj.map es clk) ∈ H) (his : MapIs es l) (hfit : ∀ p ∈ l, fitsL ls p.1 = true) :
    RdA X ρ H o (found l k z) :=
  ⟨fun c h => (by rw [ho] at h; cases h), fun e w he hg => by
    have hget : (getObj b).run X.P w = .ok (.map es clk) w := by simp [getObj, Sem.run, hg.own _ hmem]
    have hck := run_checkKey 10 kt ls k w es.isEmpty hl hk 10000 (by decide)
    simp only [valOf, ha] at hck
    obtain ⟨r, hr, h1, h2⟩ := run_findKey (w := w) hl ha hk his hfit
    simp only [execOp, ho, he _ _ hm, he _ _ hy, Instr.lookup, Sem.run_bind, run_underlying' hu, Result.andThen_ok, hget, Sem.run_pure, hck, hr]
    cases r with
    | none => have := h2.1 rfl; simp [run_zeroValue' hz, found, this]
    | some q => simp only [Option.map_some] at h1; simp [found, ← h1]⟩

theorem r_look2 {m y : Operand} {t kt et b clk : Nat} {ls : List Leaf} {es : Array MapEntry} {l : List (List Value × Value)} {k : List Value} {z : Value} (hu : X.P.underlying t = some (.map kt et)) (hl : leaves X.P 10 kt = some ls) (ha : tyAgg X.P kt = some true) (hz : tyZero X.P et = some z)
    (ho : o.op = .lookup t m y true) (hm : ρ.ev m = some (.map (some b))) (hy : ρ.ev y = some (.agg k.toArray)) (hk : fitsL ls k = true) (hmem : (b, Obj.map es clk) ∈ H) (his : MapIs es l) (hfit : ∀ p ∈ l, fitsL ls p.1 = true) :
    RdA X ρ H o (.tuple #[found l k z, .bool (l.find? (keyEq k)).isSome]) :=
  ⟨fun c h => (by rw [ho] at h; cases h), fun e w he hg => by
    have hget : (getObj b).run X.P w = .ok (.map es clk) w := by simp [getObj, Sem.run, hg.own _ hmem]
    have hck := run_checkKey 10 kt ls k w es.isEmpty hl hk 10000 (by decide)
    simp only [valOf, ha] at hck
    obtain ⟨r, hr, h1, h2⟩ := run_findKey (w := w) hl ha hk his hfit
    simp only [execOp, ho, he _ _ hm, he _ _ hy, Instr.lookup, Sem.run_bind, run_underlying' hu, Result.andThen_ok, hget, Sem.run_pure, hck, hr]
    cases r with
    | none => have := h2.1 rfl; simp [run_zeroValue' hz, found, this]
    | some q =>
      simp only [Option.map_some] at h1
      cases hf : l.find? (keyEq k) with
      | none => rw [hf] at h1; simp at h1
      | some p => rw [hf] at h1; simp at h1; simp [found, hf, h1]⟩

/-- A new key is stored. -/
theorem w_mapNew {m y v : Operand} {t kt et b clk : Nat} {ls : List Leaf} {es : Array MapEntry} {l : List (List Value × Value)} {k : List Value} {u : Value} (hu : X.P.underlying t = some (.map kt et)) (hl : leaves X.P 10 kt = some ls) (ha : tyAgg X.P kt = some true)
    (ho : o.op = .mapUpdate t m y v) (hm : ρ.ev m = some (.map (some b))) (hy : ρ.ev y = some (.agg k.toArray)) (hv : ρ.ev v = some u) (hk : fitsL ls k = true) {HF : Obj → Heap} (hset : ∀ o', SetAt H b (Obj.map es clk) o' (HF o')) (his : MapIs es l) (hfit : ∀ p ∈ l, fitsL ls p.1 = true)
    (hnew : l.find? (keyEq k) = none) : WrA X ρ H o fun _ H' => ∃ es' clk', H' = HF (.map es' clk') ∧ MapIs es' (l ++ [(k, u)]) :=
  wr_value (fun c h => (by rw [ho] at h; cases h)) fun e w he hg => by
    have hget : (getObj b).run X.P w = .ok (.map es clk) w := by simp [getObj, Sem.run, hg.own _ (hset (.map es clk)).mem]
    have hck := run_checkKey 10 kt ls k w false hl hk 10000 (by decide)
    simp only [valOf, ha] at hck
    obtain ⟨r, hr, h1, h2⟩ := run_findKey (w := w) hl ha hk his hfit
    have hr0 : r = none := h2.2 hnew
    subst hr0
    have hmem := (hset (.map es clk)).mem
    have hs := hset (.map (es.push { key := .agg k.toArray, val := u, born := clk }) (clk + 1))
    have hso : (setObj b (.map (es.push { key := .agg k.toArray, val := u, born := clk }) (clk + 1))).run X.P w = .ok () { w with heap := w.heap.setIfInBounds b (.map (es.push { key := .agg k.toArray, val := u, born := clk }) (clk + 1)) } := by simp [setObj, Sem.run, hg.own _ hmem]
    refine ⟨undef, _, _, .inr ⟨rfl, ?_⟩, hg.set hs (w' := { w with heap := w.heap.setIfInBounds b (.map (es.push { key := .agg k.toArray, val := u, born := clk }) (clk + 1)) }) rfl ⟨rfl, rfl⟩, _, _, rfl, ⟨by simp [his.eq]⟩⟩
    simp only [execOp, ho, he _ _ hm, he _ _ hy, he _ _ hv, Instr.mapUpdate, Sem.run_bind, run_underlying' hu, Result.andThen_ok, hget, hck, hr, hso, Sem.run_pure]
end

end Go.Vc
