/- Layer 5: paths as arguments, opened. -/
import Derived.Test.YtclbbchehjapjabSc
import Derived.Test.YtclbbchehjapjabPb
set_option linter.all false
namespace Go.Tk
open Go.Vc Go.ChangeShapes Go.WideShapes Go.RowKit
section
variable {H : Type} {enc : TypeId × Value → H} {P : Program} {w : World} {base b0 : Nat} {spare : Nat → Bool} {held : Bool} {r : Reach} {t : TypeId} {v : Value} {d : DataW H} {p : List MemPlace}
def i8Ty (P : Program) (e : TypeId) : Bool := match P.underlying e with
  | some (.slice i) => decide (flat P 5 i = some [.int .i8] ∧ P.cellsOf i = 1)
  | _ => false
def pathTy (P : Program) (t : TypeId) : Bool := match P.underlying t with
  | some (.struct fs) => match fs.toList with
    | [f0, f1] => decide (f0.offset = 0 ∧ f1.offset = 3 ∧ P.cellsOf f0.type = 3 ∧ P.cellsOf f1.type = 1 ∧ P.cellsOf t = 4) &&
      (match P.underlying f0.type with | some (.array n e) => decide (n = 3 ∧ P.cellsOf e = 1) && i8Ty P e | _ => false) && i8Ty P f1.type
    | _ => false
  | _ => false
theorem four {cs : List Value} (h : cs.length = 4) : ∃ a b c d, cs = [a, b, c, d] := by
  match cs, h with
  | [a, b, c, d], _ => exact ⟨a, b, c, d, rfl⟩
theorem ok_i8 {cs : List Value} (h : OkL [.int .i8] cs) : ∃ n : Int, cs = [.int .i8 n] ∧ (-128 ≤ n ∧ n ≤ 127) := by
  obtain ⟨n, _, rfl, hw, q1⟩ := h.int
  rw [q1.nil]; exact ⟨n, rfl, i8_wf hw⟩
theorem i8_slice {e : TypeId} {fuel : Nat} {u : Value} {x : DataW H × List MemPlace} (hty : i8Ty P e = true) (h : DataW.trod enc P w base spare held fuel e [u] = some x) :
    ∃ (l : List Int) (a : Option Addr) (c : Nat), u = .slice a l.length c ∧ SliceR w 1 (.slice a l.length c) (l.map fun n => [Value.int .i8 n]) ∧ I8 l ∧ (l.length : Int) ≤ 9223372036854775807 := by
  unfold i8Ty at hty
  split at hty
  · rename_i i hu
    simp only [decide_eq_true_eq] at hty
    obtain ⟨v, els, q, hS, hok, hl⟩ := slice_ok hu hty.1 hty.2 h
    obtain ⟨l, rfl, hl8⟩ := map_of (f := fun n : Int => [Value.int .i8 n]) (Q := fun n => -128 ≤ n ∧ n ≤ 127) (fun e he => ok_i8 (hok e he))
    obtain ⟨a, c, rfl, _, _⟩ := hS.ex
    simp only [List.length_map] at hS q hl
    injection q with q _
    refine ⟨l, a, c, q, hS, hl8, ?_⟩
    simp only [maxLen] at hl
    omega
  · cases hty
def pick3 {α : Type} (a b c : α) (k : Nat) : α := if k = 0 then a else if k = 1 then b else c
theorem open_path (hty : pathTy P t = true) (hv : Value.okWide P w r b0 t v) (h : DataW.Trod enc P w base spare held t v d p) : ∃ p : PathM, PathR w v p := by
  unfold pathTy at hty
  split at hty
  · rename_i fs hu
    split at hty
    · rename_i f0 f1 hfs
      simp only [Bool.and_eq_true, decide_eq_true_eq] at hty
      obtain ⟨⟨⟨o0, o1, c0, c1, cT⟩, k0⟩, k1⟩ := hty
      obtain ⟨cs, rfl, hsz⟩ := okWide_struct hu hv
      obtain ⟨fuel, hf⟩ := h
      obtain ⟨xs, n, _, _, hlen, hxl, hfl⟩ := DataW.trod_struct hu hf
      have hat : ∀ (i : Nat) (f : Field), [f0, f1][i]? = some f → ∃ y, DataW.trod enc P w base spare held n f.type (((Value.agg cs).cells.toList.drop f.offset).take (P.cellsOf f.type)) = some y := by
        intro i f hi
        have hfi : fs[i]? = some f := by rw [← Array.getElem?_toList, hfs]; exact hi
        have := hfl i f hfi
        have hil : i < xs.length := by rw [hxl]; exact (Array.getElem?_eq_some_iff.1 hfi).1
        rw [List.getElem?_eq_getElem hil] at this
        exact ⟨_, this⟩
      have hcl : (Value.agg cs).cells.toList = cs.toList := rfl
      rw [hcl] at hat
      obtain ⟨a, b, c, u, hcs⟩ := four (cs := cs.toList) (by rw [Array.length_toList, hsz, cT])
      have hce : cs = #[a, b, c, u] := Array.toList_inj.1 hcs
      subst hce
      obtain ⟨y0, z0⟩ := hat 0 f0 rfl
      obtain ⟨y1, z1⟩ := hat 1 f1 rfl
      rw [o0, c0] at z0
      rw [o1, c1] at z1
      obtain ⟨lw, wa, wc, rfl, hws, hw8, hwl⟩ := i8_slice k1 z1
      split at k0
      · rename_i m e hu0
        simp only [Bool.and_eq_true, decide_eq_true_eq] at k0
        obtain ⟨⟨rfl, ce⟩, ke⟩ := k0
        obtain ⟨ys, m, _, _, _, hyl, hye⟩ := DataW.trod_array hu0 z0
        have one : ∀ (i : Nat) (u : Value), i < 3 → (([a, b, c, Value.slice wa lw.length wc].drop 0).take 3).drop i = u :: (([a, b, c, Value.slice wa lw.length wc].drop 0).take 3).drop (i + 1) →
            ∃ (l : List Int) (a : Option Addr) (c : Nat), u = .slice a l.length c ∧ SliceR w 1 (.slice a l.length c) (l.map fun n => [Value.int .i8 n]) ∧ I8 l ∧ (l.length : Int) ≤ 9223372036854775807 := by
          intro i u hi hd
          have h1 := hye i hi
          have hil : i < ys.length := by rw [hyl]; exact hi
          have e1 : ((((Value.agg #[a, b, c, Value.slice wa lw.length wc]).cells.toList.drop 0).take 3).drop (i * P.cellsOf e)).take (P.cellsOf e) = [u] := by
            rw [ce, Nat.mul_one]
            show ((([a, b, c, Value.slice wa lw.length wc].drop 0).take 3).drop i).take 1 = [u]
            rw [hd]; rfl
          rw [List.getElem?_eq_getElem hil] at h1
          exact i8_slice ke (by rw [← h1]; congr 1; exact e1.symm)
        obtain ⟨l0, a0, k0, rfl, s0, i0, n0⟩ := one 0 a (by decide) rfl
        obtain ⟨l1, a1, k1, rfl, s1, i1, n1⟩ := one 1 b (by decide) rfl
        obtain ⟨l2, a2, k2, rfl, s2, i2, n2⟩ := one 2 c (by decide) rfl
        refine ⟨⟨pick3 l0 l1 l2, lw⟩, ⟨fun k => ?_, hw8⟩, pick3 a0 a1 a2, pick3 k0 k1 k2, wa, wc, rfl, fun k hk => ?_, hws, fun k hk => ?_, hwl⟩
        · show I8 (pick3 l0 l1 l2 k)
          unfold pick3; split
          · exact i0
          · split
            · exact i1
            · exact i2
        · match k, hk with
          | 0, _ => exact s0
          | 1, _ => exact s1
          | 2, _ => exact s2
        · match k, hk with
          | 0, _ => exact n0
          | 1, _ => exact n1
          | 2, _ => exact n2
      · cases k0
    · cases hty
  · cases hty
end
end Go.Tk
