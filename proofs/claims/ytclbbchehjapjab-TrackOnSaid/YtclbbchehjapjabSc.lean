/- Layer 5: more arguments opened. -/
import Derived.Test.YtclbbchehjapjabS
import Derived.SizedLaws
set_option linter.all false
namespace Go.Tk
open Go.Vc Go.ChangeShapes Go.WideShapes Go.RowKit
section
variable {H : Type} {enc : TypeId × Value → H} {P : Program} {w : World} {base b0 : Nat} {spare : Nat → Bool} {held : Bool} {r : Reach} {t : TypeId} {v : Value} {d : DataW H} {p : List MemPlace}
theorem open_3i32 (hty : aggTy P t [.int .i32, .int .i32, .int .i32] = true) (hv : Value.okWide P w r b0 t v) (h : DataW.Trod enc P w base spare held t v d p) : ∃ a b c, v = .agg #[.int .i32 a, .int .i32 b, .int .i32 c] ∧ (Lit.int .i32 a).wf = true ∧ (Lit.int .i32 b).wf = true ∧ (Lit.int .i32 c).wf = true := by
  obtain ⟨cs, rfl, q⟩ := open_agg hty hv h
  obtain ⟨a, _, e1, w1, q1⟩ := q.int
  obtain ⟨b, _, rfl, w2, q2⟩ := q1.int
  obtain ⟨c, _, rfl, w3, q3⟩ := q2.int
  rw [q3.nil] at e1
  exact ⟨a, b, c, congrArg Value.agg (Array.toList_inj.1 e1), w1, w2, w3⟩
theorem open_4u16 (hty : aggTy P t [.int .u16, .int .u16, .int .u16, .int .u16] = true) (hv : Value.okWide P w r b0 t v) (h : DataW.Trod enc P w base spare held t v d p) : ∃ a b c e, v = .agg #[.int .u16 a, .int .u16 b, .int .u16 c, .int .u16 e] ∧ (0 ≤ a ∧ a ≤ 65535) ∧ (0 ≤ b ∧ b ≤ 65535) ∧ (0 ≤ c ∧ c ≤ 65535) ∧ (0 ≤ e ∧ e ≤ 65535) := by
  obtain ⟨cs, rfl, q⟩ := open_agg hty hv h
  obtain ⟨a, _, e1, w1, q1⟩ := q.int
  obtain ⟨b, _, rfl, w2, q2⟩ := q1.int
  obtain ⟨c, _, rfl, w3, q3⟩ := q2.int
  obtain ⟨e, _, rfl, w4, q4⟩ := q3.int
  rw [q4.nil] at e1
  exact ⟨a, b, c, e, congrArg Value.agg (Array.toList_inj.1 e1), u16_wf w1, u16_wf w2, u16_wf w3, u16_wf w4⟩

/-- field i of the struct is a slice, in the cell off, of elements of b bytes -/
def secTy (P : Program) (t : TypeId) (i off b : Nat) : Bool := match P.underlying t with
  | some (.struct fs) => match fs[i]? with
    | some f => decide (f.offset = off ∧ P.cellsOf f.type = 1) && (match P.underlying f.type with | some (.slice e) => decide (P.bytesOf e = b) | _ => false)
    | none => false
  | _ => false
theorem weightsEach_mem {P : Program} : ∀ {ts : List TypeId} {ds : List (DataW H)} {j : Nat} {t : TypeId} {d : DataW H}, ts[j]? = some t → ds[j]? = some d → ∀ n ∈ d.weights P t, n ∈ DataW.weightsEach P ts ds := fun ht hd n hn => DataW.weights_mem_each ht hd n hn
theorem field_sized {i off b : Nat} {cs : Array Value} (hty : secTy P t i off b = true) (h : DataW.Trod enc P w base spare held t (.agg cs) d p) (hw : ∀ n ∈ d.weights P t, n ≤ reachBytes) {a : Option Addr} {n c : Nat} (hc : cs.toList[off]? = some (.slice a n c)) : n * b ≤ reachBytes := by
  unfold secTy at hty
  split at hty
  · rename_i fs hu
    split at hty
    · rename_i f hf
      rw [Bool.and_eq_true, decide_eq_true_eq] at hty
      obtain ⟨⟨ho, hcf⟩, hk⟩ := hty
      split at hk
      · rename_i e hue
        have hbe := of_decide_eq_true hk
        obtain ⟨fuel, hfu⟩ := h
        obtain ⟨xs, m, _, hx, hlen, hxl, hfl⟩ := DataW.trod_struct hu hfu
        have hxi := hfl i f hf
        have hcl : (Value.agg cs).cells.toList = cs.toList := rfl
        rw [hcl, ho, hcf] at hxi
        have hdrop : (cs.toList.drop off).take 1 = [.slice a n c] := by
          have hlt := (List.getElem?_eq_some_iff.1 hc).1
          have := (List.getElem?_eq_some_iff.1 hc).2
          rw [List.drop_eq_getElem_cons hlt, this]; rfl
        rw [hdrop] at hxi
        have hil : i < xs.length := by rw [hxl]; exact (Array.getElem?_eq_some_iff.1 hf).1
        rw [List.getElem?_eq_getElem hil] at hxi
        rcases DataW.trod_slice hue hxi with ⟨e1, _⟩ | ⟨a', len, cap, elems, rest, m', _, e1, e2, _, _, _, hel, _⟩
        · injection e1 with e1; injection e1 with _ e1 _; subst e1; simp
        · injection e1 with e1 _
          injection e1 with _ e3 _
          subst e3
          injection hx with hd _
          subst hd
          have hmem : (elems.length + rest.length) * P.bytesOf e ∈ DataW.weights P t (.agg (xs.map (·.1)) : DataW H) := by
            rw [DataW.weights, hu]
            refine weightsEach_mem (j := i) (t := f.type) (d := xs[i].1) ?_ ?_ _ ?_
            · rw [List.getElem?_map, Array.getElem?_toList, hf]; rfl
            · rw [List.getElem?_map, List.getElem?_eq_getElem hil]; rfl
            · rw [e2]
              simp [DataW.weights, hue]
          have := hw _ hmem
          rw [hbe, hel, Nat.add_mul] at this
          omega
      · cases hk
    · cases hty
  · cases hty
theorem arg_sized {ts : List TypeId} {ds : List (DataW H)} (h : (DataW.weightsEach P ts ds).all (· ≤ reachBytes) = true) {j : Nat} (ht : ts[j]? = some t) (hd : ds[j]? = some d) : ∀ n ∈ d.weights P t, n ≤ reachBytes := fun n hn => by
  have := List.all_eq_true.1 h n (DataW.weights_mem_each ht hd n hn)
  simpa using this
end
end Go.Tk
