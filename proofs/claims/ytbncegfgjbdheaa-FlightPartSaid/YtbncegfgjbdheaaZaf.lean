/- Joined texts. -/
import Derived.Test.YtbncegfgjbdheaaZad
import Derived.Deep.Slices
import Derived.OpenShut
import Derived.Carry
import Derived.ChangeSame
import Derived.WideKeyArgs
import Derived.Test.YtbncegfgjbdheaaZae
/- Layer 5: arguments opened; a row's last step. -/
set_option linter.all false
namespace Go.Vc
open Go.ChangeShapes Go.WideShapes Go.RowKit

/-! ### values without references -/

def Leaf.ok : Leaf → Value → Prop
  | .int k, v => ∃ n, v = .int k n ∧ (Lit.int k n).wf = true
  | .str, v => ∃ s : ByteArray, v = .string s ∧ s.size ≤ maxLen
  | .bool, v => ∃ b, v = .bool b

def OkL : List Leaf → List Value → Prop
  | [], [] => True
  | l :: ls, v :: vs => l.ok v ∧ OkL ls vs
  | _, _ => False

theorem OkL.cons {l : Leaf} {ls : List Leaf} {cs : List Value} (h : OkL (l :: ls) cs) : ∃ v vs, cs = v :: vs ∧ l.ok v ∧ OkL ls vs := by
  cases cs with
  | nil => exact h.elim
  | cons v vs => exact ⟨v, vs, rfl, h.1, h.2⟩
theorem OkL.nil {cs : List Value} (h : OkL [] cs) : cs = [] := by
  cases cs with
  | nil => rfl
  | cons v vs => exact h.elim
theorem OkL.int {k : IntKind} {ls : List Leaf} {cs : List Value} (h : OkL (.int k :: ls) cs) : ∃ n vs, cs = .int k n :: vs ∧ (Lit.int k n).wf = true ∧ OkL ls vs := by
  obtain ⟨v, vs, rfl, ⟨n, rfl, hw⟩, h2⟩ := h.cons
  exact ⟨n, vs, rfl, hw, h2⟩

theorem OkL.app {l : List Leaf} : ∀ {r : List Leaf} {cs : List Value}, OkL l (cs.take l.length) → OkL r (cs.drop l.length) → OkL (l ++ r) cs := by
  induction l with
  | nil => intro r cs _ h; exact h
  | cons a l ih =>
    intro r cs h1 h2
    cases cs with
    | nil => exact h1.elim
    | cons v vs => exact ⟨h1.1, ih h1.2 h2⟩

def flatF (P : Program) (fl : TypeId → Option (List Leaf)) : List Field → Nat → Option (List Leaf)
  | [], _ => some []
  | f :: fs, off => if f.offset ≠ off then none else match fl f.type with
    | none => none
    | some l => if P.cellsOf f.type ≠ l.length then none else match flatF P fl fs (off + l.length) with
      | none => none
      | some r => some (l ++ r)

def flatA : Nat → List Leaf → List Leaf
  | 0, _ => []
  | n + 1, l => l ++ flatA n l

/-- the leaves of a type without references -/
def flat (P : Program) : Nat → TypeId → Option (List Leaf)
  | 0, _ => none
  | d + 1, t => match P.underlying t with
    | some (.int k) => some [.int k]
    | some .string => some [.str]
    | some .bool => some [.bool]
    | some (.struct fs) => match flatF P (flat P d) fs.toList 0 with
      | some r => if P.cellsOf t = r.length then some r else none
      | none => none
    | some (.array n e) => match flat P d e with
      | some l => if P.cellsOf e = l.length ∧ P.cellsOf t = n * l.length then some (flatA n l) else none
      | none => none
    | _ => none

theorem flatF_ok {P : Program} {fl : TypeId → Option (List Leaf)} {cs : List Value} : ∀ (fs : List Field) (off : Nat) (r : List Leaf), flatF P fl fs off = some r →
    (∀ f ∈ fs, ∀ l, fl f.type = some l → P.cellsOf f.type = l.length → OkL l ((cs.drop f.offset).take l.length)) → OkL r ((cs.drop off).take r.length) := by
  intro fs
  induction fs with
  | nil => intro off r h _; simp only [flatF, Option.some.injEq] at h; subst h; simp [OkL]
  | cons f fs ih =>
    intro off r h hf
    simp only [flatF] at h
    split at h
    · cases h
    rename_i ho
    cases hl : fl f.type with
    | none => simp [hl] at h
    | some l =>
      simp only [hl] at h
      split at h
      · cases h
      rename_i hc
      cases hr : flatF P fl fs (off + l.length) with
      | none => simp [hr] at h
      | some r' =>
        simp only [hr, Option.some.injEq] at h
        subst h
        have ho' : f.offset = off := Decidable.of_not_not ho
        have h1 := hf f (.head _) l hl (Decidable.of_not_not hc)
        rw [ho'] at h1
        have h2 := ih (off + l.length) r' hr (fun g hg => hf g (.tail _ hg))
        refine OkL.app ?_ ?_
        · rw [List.take_take, List.length_append, Nat.min_eq_left (Nat.le_add_right _ _)]; exact h1
        rw [List.length_append, List.drop_take, List.drop_drop, Nat.add_sub_cancel_left]; exact h2

theorem flatA_ok {l : List Leaf} {cs : List Value} : ∀ (n k : Nat), (∀ i, i < n → OkL l ((cs.drop ((k + i) * l.length)).take l.length)) → OkL (flatA n l) ((cs.drop (k * l.length)).take (n * l.length)) := by
  intro n
  induction n with
  | zero => intro k _; simp [flatA, OkL]
  | succ n ih =>
    intro k h
    refine OkL.app ?_ ?_
    · rw [List.take_take, Nat.min_eq_left (by rw [Nat.add_mul]; omega)]; simpa using h 0 (by omega)
    have h2 := ih (k + 1) (fun i hi => by have := h (i + 1) (by omega); rwa [show k + (i + 1) = k + 1 + i by omega] at this)
    rw [List.drop_take, List.drop_drop, show k * l.length + l.length = (k + 1) * l.length by rw [Nat.add_mul]; omega, show (n + 1) * l.length - l.length = n * l.length by rw [Nat.add_mul]; omega]
    exact h2

section
variable {H : Type} {enc : TypeId × Value → H} {P : Program} {w : World} {base : Nat} {spare : Nat → Bool} {held : Bool}

theorem flat_ok : ∀ (d : Nat) (t : TypeId) (ls : List Leaf), flat P d t = some ls → ∀ (fuel : Nat) (cs : List Value) (x : DataW H × List MemPlace), DataW.trod enc P w base spare held fuel t cs = some x → OkL ls cs := by
  intro d
  induction d with
  | zero => intro t ls h; simp [flat] at h
  | succ d ih =>
    intro t ls h fuel cs x hx
    simp only [flat] at h
    split at h
    · rename_i k hu
      cases h
      obtain ⟨n, rfl, _, hw⟩ := DataW.trod_int hu hx
      exact ⟨⟨n, rfl, hw⟩, trivial⟩
    · rename_i hu
      cases h
      obtain ⟨s, rfl, _, hs⟩ := DataW.trod_string hu hx
      exact ⟨⟨s, rfl, hs⟩, trivial⟩
    · rename_i hu
      cases h
      obtain ⟨b, rfl, _⟩ := DataW.trod_bool hu hx
      exact ⟨⟨b, rfl⟩, trivial⟩
    · rename_i fs hu
      split at h
      · rename_i r hr
        split at h
        · rename_i hc
          simp only [Option.some.injEq] at h
          subst h
          obtain ⟨xs, n, _, _, hlen, hxl, hf⟩ := DataW.trod_struct hu hx
          have := flatF_ok (cs := cs) fs.toList 0 r hr (fun f hfm l hl hcl => by
            obtain ⟨i, hi, hfi⟩ := List.getElem_of_mem hfm
            have hfi' : fs[i]? = some f := by rw [← Array.getElem?_toList, List.getElem?_eq_getElem hi, hfi]
            have h1 := hf i f hfi'
            rw [hcl] at h1
            have hi' : i < xs.length := by rw [hxl]; simpa using hi
            rw [List.getElem?_eq_getElem hi'] at h1
            exact ih f.type l hl n _ _ h1)
          rw [List.drop_zero, ← hc, ← hlen, List.take_length] at this
          exact this
        cases h
      cases h
    · rename_i n e hu
      split at h
      · rename_i l hl
        split at h
        · rename_i hc
          cases h
          obtain ⟨xs, m, _, _, hlen, hxl, hf⟩ := DataW.trod_array hu hx
          have := flatA_ok (l := l) (cs := cs) n 0 (fun i hi => by
            have h1 := hf i hi
            rw [hc.1] at h1
            rw [List.getElem?_eq_getElem (by omega)] at h1
            rw [Nat.zero_add]
            exact ih e l hl m _ _ h1)
          rw [Nat.zero_mul, List.drop_zero, ← hc.2, ← hlen, List.take_length] at this
          exact this
        cases h
      cases h
    cases h

theorem list_of {α : Type} {Q : Nat → α → Prop} : ∀ n, (∀ i, i < n → ∃ x, Q i x) → ∃ l : List α, l.length = n ∧ ∀ i x, l[i]? = some x → Q i x := by
  intro n
  induction n with
  | zero => intro _; exact ⟨[], rfl, fun i x h => by simp at h⟩
  | succ n ih =>
    intro h
    obtain ⟨l, hl, hq⟩ := ih (fun i hi => h i (by omega))
    obtain ⟨x, hx⟩ := h n (by omega)
    refine ⟨l ++ [x], by simp [hl], fun i y hi => ?_⟩
    rw [List.getElem?_append] at hi
    split at hi
    · exact hq i y hi
    rename_i hge
    have hlt := (List.getElem?_eq_some_iff.1 hi).1
    simp only [List.length_cons, List.length_nil] at hlt
    have h0 : i - l.length = 0 := by omega
    rw [h0] at hi
    simp only [List.getElem?_cons_zero, Option.some.injEq] at hi
    subst hi
    rw [show i = n by omega]; exact hx

/-- a slice of values without references -/
theorem slice_ok {t e : TypeId} {ls : List Leaf} {d fuel : Nat} {cs : List Value} {x : DataW H × List MemPlace} (ht : P.underlying t = some (.slice e)) (hf : flat P d e = some ls) (hc : P.cellsOf e = ls.length)
    (h : DataW.trod enc P w base spare held fuel t cs = some x) : ∃ v els, cs = [v] ∧ Go.Tk.SliceR w ls.length v els ∧ (∀ e ∈ els, OkL ls e) ∧ els.length ≤ maxLen := by
  rcases Go.Deep.open_slice ht h with ⟨rfl, _⟩ | ⟨a, len, cap, m, n, D, Pl, rfl, hb, hl, hm, hmm, hx, hi⟩
  · exact ⟨_, [], rfl, Go.Tk.SliceR.nil w _, (fun e he => absurd he List.not_mem_nil), Nat.zero_le _⟩
  have hlm : len ≤ m := by rw [hmm]; split <;> omega
  obtain ⟨els, hel, hq⟩ := list_of (Q := fun i (e : List Value) => cellsAt w (a.add (i * ls.length)) e ∧ OkL ls e) len (fun i him => by
    obtain ⟨cs', hcs, ht'⟩ := hi i (by omega)
    rw [hc] at hcs
    obtain ⟨_, hcl, hat⟩ := World.cells?_some hcs
    refine ⟨cs', fun j v hj => ?_, flat_ok d e ls hf n cs' _ ht'⟩
    have hjl : j < cs'.length := (List.getElem?_eq_some_iff.1 hj).1
    rw [hat j (by omega)]
    exact hj)
  refine ⟨_, els, rfl, ⟨some a, cap, by rw [hel], by omega, fun i e he => ⟨a, rfl, (hq i e he).1⟩⟩, fun e he => ?_, by omega⟩
  obtain ⟨i, hi, rfl⟩ := List.getElem_of_mem he
  exact (hq i _ (List.getElem?_eq_getElem hi)).2

theorem map_of {α : Type} {f : α → List Value} {Q : α → Prop} : ∀ {els : List (List Value)}, (∀ e ∈ els, ∃ x, e = f x ∧ Q x) → ∃ l : List α, els = l.map f ∧ ∀ x ∈ l, Q x := by
  intro els
  induction els with
  | nil => intro _; exact ⟨[], rfl, fun x h => by cases h⟩
  | cons e els ih =>
    intro h
    obtain ⟨x, rfl, hx⟩ := h e (.head _)
    obtain ⟨l, rfl, hl⟩ := ih (fun e he => h e (.tail _ he))
    exact ⟨x :: l, rfl, fun y hy => (List.mem_cons.1 hy).elim (fun e => e ▸ hx) (hl y)⟩
end

theorem calls_of {P : Program} {f : FuncId} {args : List Value} {w : World} {R : Value → World → Prop} (h : FnC P f args w R) : Calls P f args.toArray w (fun e w' => ∃ v, e = .returned v ∧ R v w') := callsIn_wide.1 h.calls

/-! ### a row's last step: nothing that lay has turned, and the answer is true -/
section
variable {H : Type} {enc : TypeId × Value → H} {P : Program}

theorem Ext.kept {W W' : World} (h : Ext W W') (may : MemPlace → Prop) : W.keptBut W' may := by
  refine ⟨h.io.1, h.io.2, fun i hi => ?_⟩
  rw [h.same i hi]
  split <;> simp_all

theorem Ext.sameAt {W W' : World} (h : Ext W W') {p : MemPlace} (hp : p.block < W.heap.size) : W.sameAt W' p := by
  cases p with
  | cell b o => exact World.cell?_of_block (w := W) (h.same b hp)
  | map b => exact h.same b hp

theorem TrodAll_stays {W W' : World} {sp : Nat → Bool} (hl : laidOutB P = true) (hE : Ext W W') : ∀ {ts : List TypeId} {vs : List Value} {ds : List (DataW H)} {ps : List MemPlace}, (ts.all fun t => P.readableRec t && Nat.blt t P.types.size) = true →
    DataW.TrodAll enc P W 0 (fun _ => true) true ts vs ds ps → (∀ p ∈ ps, p.block < W.heap.size) → (∀ p ∈ ps, sp p.block = true) → DataW.TrodAll enc P W' 0 sp true ts vs ds ps
  | [], [], [], _, _, h, _, _ => h
  | t :: _, _ :: _, _ :: _, _, ht, ⟨p, q, h1, h2, e⟩, hlt, hs => by
    simp only [List.all_cons, Bool.and_eq_true] at ht
    subst e
    refine ⟨p, q, Go.WideElems.Trod_stays hl ht.1.1 (Nat.le_of_ble_eq_true ht.1.2) h1 (fun x hx => hE.sameAt (hlt x (List.mem_append_left _ hx))) (fun x hx => hs x (List.mem_append_left _ hx)), ?_, rfl⟩
    exact TrodAll_stays hl hE ht.2 h2 (fun x hx => hlt x (List.mem_append_right _ hx)) (fun x hx => hs x (List.mem_append_right _ hx))

theorem post_true {f : Func} {s : ChangeSpec} {apart fresh handsOn again : Bool} {W W' : World} {args : Array Value} {ds gs : List (DataW H)} {before : List MemPlace} {tb : TypeId}
    (hW : DataW.Whole enc P f.params.toList s.vars apart W args.toList ds gs before) (hv : s.vars = []) (hE : Ext W W') (hl : laidOutB P = true) (hts : (f.params.toList.all fun t => P.readableRec t && Nat.blt t P.types.size) = true)
    (h1 : (s.fn H ds).results = [.lit (.bool true)]) (h2 : (s.fn H ds).args = ds) (h3 : (s.fn H ds).vars = []) (hr : f.resultTypes = #[tb]) (hb : P.underlying tb = some .bool) :
    s.post enc P f apart fresh handsOn again W args (.bool true) W' := by
  have hlt : ∀ p ∈ before, p.block < W.heap.size := fun p hp => hW.lt p hp
  have hW' := hW
  obtain ⟨p, q, hA, hV, rfl, hz, hn⟩ := hW
  rw [hv] at hV
  obtain ⟨rfl, rfl⟩ := trodVars_none hV
  simp only [List.append_nil] at hW' hlt hz hn
  have hres : ∀ (b : Nat) (sp : Nat → Bool) (hd : Bool), DataW.TrodAll enc P W' b sp hd f.resultTypes.toList ((Value.bool true).resultList f.resultTypes.size) (s.fn H (ds ++ [])).results [] := by
    intro b sp hd
    rw [List.append_nil, h1, hr]
    exact trodAll_mk1 (shut_bool hb _)
  have hargs : ∀ sp : Nat → Bool, (∀ x ∈ p, sp x.block = true) → DataW.TrodAll enc P W' 0 sp true f.params.toList args.toList (s.fn H (ds ++ [])).args p := by
    intro sp hsp
    rw [List.append_nil, h2]
    exact TrodAll_stays hl hE hts hA hlt hsp
  have hvars : ∀ sp : Nat → Bool, DataW.TrodVars enc P W' sp s.vars (s.fn H (ds ++ [])).vars [] := by
    intro sp
    rw [List.append_nil, h3, hv]; rfl
  have hold : ∀ x ∈ p, (fun b => decide (b < W.heap.size)) x.block = true := fun x hx => by simpa using hlt x hx
  refine ⟨ds, [], p, [], p, [], hW', hres _ _ _, hargs _ hold, hvars _, hE.kept _, fun _ => ?_⟩
  refine ⟨ok_one hr rfl (okWide_bool_mk hb _), _, _, ([] ++ p) ++ [], ⟨[] ++ p, [], trodAll_append (hargs _ (fun _ _ => rfl)) (hres _ _ _), hvars _, rfl, ?_, ?_⟩, ?_⟩
  · intro b off hp
    simp only [List.nil_append, List.append_nil] at hp
    rw [World.frozen?_of_block (w := W) (hE.same b (hlt _ hp))]
    exact hz b off hp
  · intro ha
    simpa using hn ha
  intro x hx _
  simpa using hx
end
end Go.Vc

namespace Go.Tk
open Go.Vc Go.ChangeShapes Go.WideShapes Go.RowKit

theorem ok_int1 {cs : List Value} (h : OkL [.int .i64] cs) : ∃ n, cs = [.int .i64 n] := by
  obtain ⟨n, _, rfl, _, q1⟩ := h.int
  rw [q1.nil]; exact ⟨n, rfl⟩
/-! ### values of ints -/
theorem int_wf {n : Int} (h : (Lit.int .i64 n).wf = true) : InI n := by
  simp only [Lit.wf, IntKind.min, IntKind.max, IntKind.signed, IntKind.bits, Bool.and_eq_true, decide_eq_true_eq] at h
  exact ⟨by have := h.1; simp at this; omega, by have := h.2; simp at this; omega⟩
theorem ok_ints2 {cs : List Value} (h : OkL [.int .i64, .int .i64] cs) : ∃ a b, cs = [.int .i64 a, .int .i64 b] ∧ InI a ∧ InI b := by
  obtain ⟨a, _, rfl, w1, q1⟩ := h.int
  obtain ⟨b, _, rfl, w2, q2⟩ := q1.int
  rw [q2.nil]; exact ⟨a, b, rfl, int_wf w1, int_wf w2⟩

section
variable {H : Type} {enc : TypeId × Value → H} {P : Program} {w : World} {base : Nat} {spare : Nat → Bool} {held : Bool} {r : Reach} {b0 : Nat} {t : TypeId} {v : Value} {d : DataW H} {p : List MemPlace}
end
theorem u8_wf {n : Int} (h : (Lit.int .u8 n).wf = true) : 0 ≤ n ∧ n ≤ 255 := by
  simp only [Lit.wf, IntKind.min, IntKind.max, IntKind.signed, IntKind.bits, Bool.and_eq_true, decide_eq_true_eq] at h
  exact ⟨by have := h.1; simp at this; omega, by have := h.2; simp at this; omega⟩
end Go.Tk

/- Layer 5: a box as an argument. -/
set_option linter.all false
namespace Go.Tk
open Go.Vc Go.ChangeShapes Go.WideShapes Go.RowKit
section
variable {H : Type} {enc : TypeId × Value → H} {P : Program} {w : World} {base : Nat} {spare : Nat → Bool} {held : Bool} {r : Reach} {b0 : Nat} {t : TypeId} {v : Value} {d : DataW H} {p : List MemPlace}
end
end Go.Tk

/- Layer 6: arguments opened. -/
set_option linter.all false
namespace Go.De
open Go.Vc Go.Tk Go.ChangeShapes Go.WideShapes Go.RowKit
section
variable {H : Type} {enc : TypeId × Value → H} {P : Program} {w : World} {base b0 : Nat} {spare : Nat → Bool} {held : Bool} {r : Reach} {t : TypeId} {v : Value} {d : DataW H} {p : List MemPlace}

/-- the fields of a struct, by where they begin and how many cells they have -/
def fieldsTy (P : Program) (t : TypeId) (l : List (Nat × Nat)) (n : Nat) : Bool := match P.underlying t with
  | some (.struct fs) => decide (fs.toList.map (fun f => (f.offset, P.cellsOf f.type)) = l ∧ P.cellsOf t = n)
  | _ => false
/-- field i has this type -/
def fieldTy (P : Program) (t : TypeId) (i : Nat) (q : TypeId → Bool) : Bool := match P.underlying t with
  | some (.struct fs) => match fs[i]? with
    | some f => q f.type
    | none => false
  | _ => false
/-- a struct is opened: its cells, and each field by its own type -/
theorem open_fields {l : List (Nat × Nat)} {n : Nat} (hty : fieldsTy P t l n = true) (hv : Value.okWide P w r b0 t v) (h : DataW.Trod enc P w base spare held t v d p) :
    ∃ (cs : Array Value) (m : Nat), v = .agg cs ∧ cs.size = n ∧ ∀ i o k, l[i]? = some (o, k) → ∀ q : TypeId → Bool, fieldTy P t i q = true → ∃ ft y, q ft = true ∧ DataW.trod enc P w base spare held m ft ((cs.toList.drop o).take k) = some y := by
  unfold fieldsTy at hty
  split at hty
  · rename_i fs hu
    simp only [decide_eq_true_eq] at hty
    obtain ⟨hl, hn⟩ := hty
    obtain ⟨cs, rfl, hsz⟩ := okWide_struct hu hv
    obtain ⟨fuel, hf⟩ := h
    obtain ⟨xs, m, _, _, hlen, hxl, hfl⟩ := DataW.trod_struct hu hf
    refine ⟨cs, m, rfl, hsz.trans hn, fun i o k hi q hq => ?_⟩
    rw [← hl, List.getElem?_map] at hi
    cases hfi : fs.toList[i]? with
    | none => rw [hfi] at hi; cases hi
    | some f =>
      rw [hfi] at hi
      simp only [Option.map_some, Option.some.injEq, Prod.mk.injEq] at hi
      obtain ⟨rfl, rfl⟩ := hi
      have hfi2 : fs[i]? = some f := by rw [← Array.getElem?_toList]; exact hfi
      have h1 := hfl i f hfi2
      have hil : i < xs.length := by rw [hxl]; exact (Array.getElem?_eq_some_iff.1 hfi2).1
      rw [List.getElem?_eq_getElem hil] at h1
      unfold fieldTy at hq
      rw [hu] at hq
      simp only [hfi2] at hq
      exact ⟨f.type, _, hq, h1⟩
  cases hty
def sliceTy (P : Program) (ls : List Leaf) (t : TypeId) : Bool := match P.underlying t with
  | some (.slice e) => decide (flat P 6 e = some ls ∧ P.cellsOf e = ls.length)
  | _ => false
theorem open_sl {ls : List Leaf} {fuel : Nat} {cs : List Value} {x : DataW H × List MemPlace} (hty : sliceTy P ls t = true) (h : DataW.trod enc P w base spare held fuel t cs = some x) : ∃ v els, cs = [v] ∧ SliceR w ls.length v els ∧ (∀ e ∈ els, OkL ls e) ∧ els.length ≤ maxLen := by
  unfold sliceTy at hty
  split at hty
  · rename_i e hu
    simp only [decide_eq_true_eq] at hty
    exact slice_ok hu hty.1 hty.2 h
  cases hty
def flatTy (P : Program) (ls : List Leaf) (t : TypeId) : Bool := decide (flat P 6 t = some ls)
theorem open_fl {ls : List Leaf} {fuel : Nat} {cs : List Value} {x : DataW H × List MemPlace} (hty : flatTy P ls t = true) (h : DataW.trod enc P w base spare held fuel t cs = some x) : OkL ls cs :=
  flat_ok 6 _ _ (of_decide_eq_true hty) _ _ _ h
/-- a slice as an argument -/
theorem open_slice1 {ls : List Leaf} (hty : sliceTy P ls t = true) (hv : Value.okWide P w r b0 t v) (h : DataW.Trod enc P w base spare held t v d p) : ∃ els, SliceR w ls.length v els ∧ (∀ e ∈ els, OkL ls e) ∧ els.length ≤ maxLen := by
  obtain ⟨fuel, hf⟩ := h
  have hty0 := hty
  unfold sliceTy at hty
  split at hty
  · rename_i e hu
    obtain ⟨a, n, c, rfl⟩ := okWide_slice hu hv
    obtain ⟨v', els, e1, h1, h2, h3⟩ := open_sl hty0 hf
    have e2 : [Value.slice a n c] = [v'] := e1
    injection e2 with e2 _
    subst e2
    exact ⟨els, h1, h2, h3⟩
  cases hty
theorem ok_u8 {cs : List Value} (h : OkL [.int .u8] cs) : ∃ n : Int, cs = [.int .u8 n] ∧ (0 ≤ n ∧ n ≤ 255) := by
  obtain ⟨n, _, rfl, hw, q1⟩ := h.int
  rw [q1.nil]; exact ⟨n, rfl, u8_wf hw⟩
/-- shares -/
theorem open_u8s (hty : sliceTy P [.int .u8] t = true) (hv : Value.okWide P w r b0 t v) (h : DataW.Trod enc P w base spare held t v d p) : ∃ l : List Int, SliceR w 1 v (l.map fun n => [Value.int .u8 n]) ∧ (∀ n ∈ l, 0 ≤ n ∧ n ≤ 255) ∧ (l.length : Int) ≤ 9223372036854775807 := by
  obtain ⟨els, hS, hok, hl⟩ := open_slice1 hty hv h
  obtain ⟨l, rfl, hl8⟩ := map_of (f := fun n : Int => [Value.int .u8 n]) (Q := fun n => 0 ≤ n ∧ n ≤ 255) (fun e he => ok_u8 (hok e he))
  refine ⟨l, hS, hl8, ?_⟩
  simp only [List.length_map, maxLen] at hl
  omega
end
end Go.De

/- Layer 2: arguments opened. -/
set_option linter.all false
namespace Go.Fl
open Go.Vc Go.Tk Go.De Go.ChangeShapes Go.WideShapes Go.RowKit
section
variable {H : Type} {enc : TypeId × Value → H} {P : Program} {w : World} {base b0 : Nat} {spare : Nat → Bool} {held : Bool} {r : Reach} {t : TypeId} {v : Value} {d : DataW H} {p : List MemPlace}
def airLv : List Leaf := [.int .i64, .int .i64]
theorem ok_air2 {cs : List Value} (h : OkL airLv cs) : ∃ x : AirE, cs = x.cells ∧ True := by
  obtain ⟨n1, _, rfl, _, q1⟩ := h.int
  obtain ⟨n2, _, rfl, _, q2⟩ := q1.int
  rw [q2.nil]; exact ⟨⟨n1, n2⟩, rfl, trivial⟩
def phLv : List Leaf := [.int .i64, .int .i64, .int .i64, .int .i64, .int .i64, .int .i64, .int .i64, .int .i64, .int .i64, .int .i64, .int .i64, .int .i64, .int .i64]
theorem ok_ph2 {cs : List Value} (h : OkL phLv cs) : ∃ x : Phase, cs = x.cells ∧ True := by
  obtain ⟨n1, _, rfl, _, q1⟩ := h.int
  obtain ⟨n2, _, rfl, _, q2⟩ := q1.int
  obtain ⟨n3, _, rfl, _, q3⟩ := q2.int
  obtain ⟨n4, _, rfl, _, q4⟩ := q3.int
  obtain ⟨n5, _, rfl, _, q5⟩ := q4.int
  obtain ⟨n6, _, rfl, _, q6⟩ := q5.int
  obtain ⟨n7, _, rfl, _, q7⟩ := q6.int
  obtain ⟨n8, _, rfl, _, q8⟩ := q7.int
  obtain ⟨n9, _, rfl, _, q9⟩ := q8.int
  obtain ⟨n10, _, rfl, _, q10⟩ := q9.int
  obtain ⟨n11, _, rfl, _, q11⟩ := q10.int
  obtain ⟨n12, _, rfl, _, q12⟩ := q11.int
  obtain ⟨n13, _, rfl, _, q13⟩ := q12.int
  rw [q13.nil]; exact ⟨⟨n1, ⟨n2, n3⟩, ⟨n4, n5⟩, ⟨n6, n7⟩, ⟨⟨n8, n9⟩, ⟨n10, n11⟩, ⟨n12, n13⟩⟩⟩, rfl, trivial⟩
def pcLv : List Leaf := [.str, .int .i64, .int .i64, .int .i64, .int .i64, .int .i64, .int .i64, .int .i64, .int .i64, .int .i64, .int .i64, .int .i64, .int .i64]
theorem ok_pc2 {cs : List Value} (h : OkL pcLv cs) : ∃ x : Piece, cs = x.cells ∧ x.name.size ≤ maxLen := by
  obtain ⟨_, _, rfl, ⟨n1, rfl, hs⟩, q1⟩ := h.cons
  obtain ⟨n2, _, rfl, _, q2⟩ := q1.int
  obtain ⟨n3, _, rfl, _, q3⟩ := q2.int
  obtain ⟨n4, _, rfl, _, q4⟩ := q3.int
  obtain ⟨n5, _, rfl, _, q5⟩ := q4.int
  obtain ⟨n6, _, rfl, _, q6⟩ := q5.int
  obtain ⟨n7, _, rfl, _, q7⟩ := q6.int
  obtain ⟨n8, _, rfl, _, q8⟩ := q7.int
  obtain ⟨n9, _, rfl, _, q9⟩ := q8.int
  obtain ⟨n10, _, rfl, _, q10⟩ := q9.int
  obtain ⟨n11, _, rfl, _, q11⟩ := q10.int
  obtain ⟨n12, _, rfl, _, q12⟩ := q11.int
  obtain ⟨n13, _, rfl, _, q13⟩ := q12.int
  rw [q13.nil]; exact ⟨⟨n1, n2, ⟨n3, n4⟩, ⟨n5, n6⟩, ⟨⟨n7, n8⟩, ⟨n9, n10⟩, ⟨n11, n12⟩⟩, n13⟩, rfl, hs⟩
def bdLv : List Leaf := [.int .i64, .int .i64, .int .i64, .int .i64, .int .i64, .int .i64]
theorem ok_bd2 {cs : List Value} (h : OkL bdLv cs) : ∃ x : Band, cs = x.cells ∧ True := by
  obtain ⟨n1, _, rfl, _, q1⟩ := h.int
  obtain ⟨n2, _, rfl, _, q2⟩ := q1.int
  obtain ⟨n3, _, rfl, _, q3⟩ := q2.int
  obtain ⟨n4, _, rfl, _, q4⟩ := q3.int
  obtain ⟨n5, _, rfl, _, q5⟩ := q4.int
  obtain ⟨n6, _, rfl, _, q6⟩ := q5.int
  rw [q6.nil]; exact ⟨⟨n1, n2, ⟨n3, n4⟩, ⟨n5, n6⟩⟩, rfl, trivial⟩
theorem six6 {cs : Array Value} (h : cs.size = 6) : ∃ a b c d e f, cs = #[a, b, c, d, e, f] := by
  obtain ⟨l⟩ := cs
  match l, h with
  | [a, b, c, d, e, f], _ => exact ⟨a, b, c, d, e, f, rfl⟩
theorem ok_str {cs : List Value} (h : OkL [.str] cs) : ∃ s : ByteArray, cs = [.string s] ∧ s.size ≤ maxLen := by
  obtain ⟨_, _, rfl, ⟨s, rfl, hs⟩, q1⟩ := h.cons
  rw [q1.nil]; exact ⟨s, rfl, hs⟩
def vehTy (P : Program) (t : TypeId) : Bool := fieldsTy P t [(0, 1), (1, 2), (3, 1), (4, 1), (5, 1)] 6 && fieldTy P t 0 (flatTy P [.str]) && fieldTy P t 1 (flatTy P [.int .i64, .int .i64]) && fieldTy P t 2 (sliceTy P airLv) && fieldTy P t 3 (sliceTy P phLv) && fieldTy P t 4 (sliceTy P pcLv)
theorem open_veh (hty : vehTy P t = true) (hv : Value.okWide P w r b0 t v) (h : DataW.Trod enc P w base spare held t v d p) : ∃ x : Veh, VehR w v x := by
  simp only [vehTy, Bool.and_eq_true] at hty
  obtain ⟨⟨⟨⟨⟨h0, h1⟩, h2⟩, h3⟩, h4⟩, h5⟩ := hty
  obtain ⟨cs, m, rfl, hsz, hf⟩ := open_fields h0 hv h
  obtain ⟨a, b, c, e, f, g, rfl⟩ := six6 hsz
  obtain ⟨_, _, k1, z1⟩ := hf 0 0 1 rfl _ h1
  obtain ⟨_, _, k2, z2⟩ := hf 1 1 2 rfl _ h2
  obtain ⟨_, _, k3, z3⟩ := hf 2 3 1 rfl _ h3
  obtain ⟨_, _, k4, z4⟩ := hf 3 4 1 rfl _ h4
  obtain ⟨_, _, k5, z5⟩ := hf 4 5 1 rfl _ h5
  obtain ⟨s, e1, hs⟩ := ok_str (open_fl k1 z1)
  obtain ⟨g0, g1, e2, _⟩ := ok_ints2 (open_fl k2 z2)
  obtain ⟨v3, els3, e3, hS3, hok3, hl3⟩ := open_sl k3 z3
  obtain ⟨v4, els4, e4, hS4, hok4, hl4⟩ := open_sl k4 z4
  obtain ⟨v5, els5, e5, hS5, hok5, hl5⟩ := open_sl k5 z5
  obtain ⟨l3, rfl, _⟩ := map_of (fun e he => ok_air2 (hok3 e he))
  obtain ⟨l4, rfl, _⟩ := map_of (fun e he => ok_ph2 (hok4 e he))
  obtain ⟨l5, rfl, hn⟩ := map_of (fun e he => ok_pc2 (hok5 e he))
  simp only [List.drop_zero, List.take_succ_cons, List.take_zero, List.drop_succ_cons, List.cons.injEq, and_true] at e1 e2 e3 e4 e5
  obtain ⟨rfl, rfl⟩ := e2
  subst e1 e3 e4 e5
  simp only [List.length_map, maxLen] at hl3 hl4 hl5
  refine ⟨⟨s, ⟨g0, g1⟩, l3, l4, l5⟩, ⟨?_, ?_, ?_, ?_, ?_, _, _, _, rfl, hS3, hS4, hS5⟩⟩
  · simp only [maxLen] at hs; show (s.size : Int) ≤ _; omega
  · intro x hx; have := hn x hx; simp only [maxLen] at this; omega
  · show (l3.length : Int) ≤ _; omega
  · show (l4.length : Int) ≤ _; omega
  show (l5.length : Int) ≤ _; omega
/-- a shot: a direction, bands, and two numbers -/
def shotTy (P : Program) (t : TypeId) : Bool := fieldsTy P t [(0, 3), (3, 1), (4, 1), (5, 1)] 6 && fieldTy P t 0 (flatTy P [.int .i64, .int .i64, .int .i64]) && fieldTy P t 1 (sliceTy P bdLv) && fieldTy P t 2 (flatTy P [.int .i64]) && fieldTy P t 3 (flatTy P [.int .i64])
theorem ok_ints3 {cs : List Value} (h : OkL [.int .i64, .int .i64, .int .i64] cs) : ∃ a b c, cs = [.int .i64 a, .int .i64 b, .int .i64 c] ∧ InI a ∧ InI b ∧ InI c := by
  obtain ⟨a, _, rfl, w1, q1⟩ := h.int
  obtain ⟨b, _, rfl, w2, q2⟩ := q1.int
  obtain ⟨c, _, rfl, w3, q3⟩ := q2.int
  rw [q3.nil]; exact ⟨a, b, c, rfl, int_wf w1, int_wf w2, int_wf w3⟩
theorem open_shot (hty : shotTy P t = true) (hv : Value.okWide P w r b0 t v) (h : DataW.Trod enc P w base spare held t v d p) :
    ∃ (x y z : Int) (l : List Band) (lv : Value) (n m : Int), v = .agg #[.int .i64 x, .int .i64 y, .int .i64 z, lv, .int .i64 n, .int .i64 m] ∧ (InI x ∧ InI y ∧ InI z) ∧ BdsR w lv l := by
  simp only [shotTy, Bool.and_eq_true] at hty
  obtain ⟨⟨⟨⟨h0, h1⟩, h2⟩, h3⟩, h4⟩ := hty
  obtain ⟨cs, m, rfl, hsz, hf⟩ := open_fields h0 hv h
  obtain ⟨a, b, c, e, f, g, rfl⟩ := six6 hsz
  obtain ⟨_, _, k1, z1⟩ := hf 0 0 3 rfl _ h1
  obtain ⟨_, _, k2, z2⟩ := hf 1 3 1 rfl _ h2
  obtain ⟨_, _, k3, z3⟩ := hf 2 4 1 rfl _ h3
  obtain ⟨_, _, k4, z4⟩ := hf 3 5 1 rfl _ h4
  obtain ⟨x, y, z, e1, i1, i2, i3⟩ := ok_ints3 (open_fl k1 z1)
  obtain ⟨v2, els2, e2, hS2, hok2, hl2⟩ := open_sl k2 z2
  obtain ⟨l, rfl, _⟩ := map_of (fun e he => ok_bd2 (hok2 e he))
  obtain ⟨n3, e3⟩ := ok_int1 (open_fl k3 z3)
  obtain ⟨n4, e4⟩ := ok_int1 (open_fl k4 z4)
  simp only [List.drop_zero, List.take_succ_cons, List.take_zero, List.drop_succ_cons, List.cons.injEq, and_true] at e1 e2 e3 e4
  obtain ⟨rfl, rfl, rfl⟩ := e1
  subst e2 e3 e4
  simp only [List.length_map, maxLen] at hl2
  exact ⟨x, y, z, l, e, n3, n4, rfl, ⟨i1, i2, i3⟩, by omega, hS2⟩
end
end Go.Fl

/- Layer 2: more arguments opened. -/
set_option linter.all false
namespace Go.Fl
open Go.Vc Go.Tk Go.De Go.ChangeShapes Go.WideShapes Go.RowKit
section
variable {H : Type} {enc : TypeId × Value → H} {P : Program} {w : World} {base b0 : Nat} {spare : Nat → Bool} {held : Bool} {r : Reach} {t : TypeId} {v : Value} {d : DataW H} {p : List MemPlace}
end
end Go.Fl
namespace Go.Fl
open Go.Vc Go.Tk Go.De Go.ChangeShapes Go.WideShapes Go.RowKit
section
variable {H : Type} {enc : TypeId × Value → H} {P : Program} {w : World} {base b0 : Nat} {spare : Nat → Bool} {held : Bool} {r : Reach} {t : TypeId} {v : Value} {d : DataW H} {p : List MemPlace}
end
end Go.Fl
