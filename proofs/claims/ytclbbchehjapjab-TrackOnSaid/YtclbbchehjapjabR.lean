/- Layer 5: rows of an owned block as a slice; the example's task. -/
import Derived.Test.YtclbbchehjapjabQ
import Derived.KernelRfl
set_option linter.all false
namespace Go.Tk
open Go.Vc

theorem flat_at {α : Type} {size : Nat} : ∀ (els : List (List α)) (i j : Nat) (e : List α), (∀ e ∈ els, e.length = size) → els[i]? = some e → j < size → els.flatten[i * size + j]? = e[j]? := by
  intro els
  induction els with
  | nil => intro i j e _ h; simp at h
  | cons a els ih =>
    intro i j e hs h hj
    have ha := hs a (.head _)
    rw [List.flatten_cons]
    cases i with
    | zero =>
      simp only [List.getElem?_cons_zero, Option.some.injEq] at h
      subst h
      rw [Nat.zero_mul, Nat.zero_add, List.getElem?_append_left (by omega)]
    | succ i =>
      simp only [List.getElem?_cons_succ] at h
      rw [List.getElem?_append_right (by rw [ha, Nat.add_mul]; omega), ha, show (i + 1) * size + j - size = i * size + j by rw [Nat.add_mul]; omega]
      exact ih i j e (fun x hx => hs x (.tail _ hx)) h hj

theorem own_rows {w : World} {b n cap ty size : Nat} {cells : Array Value} {fr : Nat × Nat} {els : List (List Value)} (h : w.heap[b]? = some (.cells cells ty fr)) (hc : cells = els.flatten.toArray) (hs : ∀ e ∈ els, e.length = size) (hn : n = els.length) (hcap : n ≤ cap) :
    SliceR w size (.slice (some ⟨b, 0, none⟩) n cap) els := by
  subst hn hc
  refine ⟨some ⟨b, 0, none⟩, cap, rfl, hcap, fun i e hi => ⟨_, rfl, fun j v hj => ?_⟩⟩
  have hjl : j < size := by rw [← hs e (List.mem_of_getElem? hi)]; exact (List.getElem?_eq_some_iff.1 hj).1
  rw [add_none, add_none, own_cell h, Nat.zero_add, List.toList_toArray, flat_at els i j e hs hi hjl]
  exact hj

def exTr : List Tracker := [⟨⟨#[101, 97, 115, 116]⟩, 3000000, 0, 2000, 500, 5⟩, ⟨⟨#[119, 101, 115, 116]⟩, -500000, 0, 3000, 1000, 0⟩, ⟨⟨#[103, 112, 115]⟩, 0, 0, 800, 0, 20⟩]
def exPl : List Plot := [⟨0, 120, 0, 0, 10000⟩, ⟨1, 120, 1000, 0, 8000⟩, ⟨2, 120, 200, 100, 9500⟩, ⟨2, 130, 300, 200, 19000⟩]
/-- the task of the examples -/
def exT : Task := ⟨100, 1000, 50, exTr, exPl⟩

def exV (b1 b2 : Nat) : Value := .agg #[.int .i64 exT.frm, .int .i64 exT.speed, .int .i64 exT.accel, .slice (some ⟨b1, 0, none⟩) 3 3, .slice (some ⟨b2, 0, none⟩) 4 4]
def exO1 (ty : Nat) : Obj := .cells ((exTr.map Tracker.cells).flatten).toArray ty
def exO2 (ty : Nat) : Obj := .cells ((exPl.map Plot.cells).flatten).toArray ty

theorem exTask {w : World} {b1 b2 ty1 ty2 : Nat} (h1 : w.heap[b1]? = some (exO1 ty1)) (h2 : w.heap[b2]? = some (exO2 ty2)) : TaskR w (exV b1 b2) exT := by
  refine ⟨fun x hx => ?_, by decide, by decide, _, _, rfl, own_rows h1 rfl ?_ rfl (by decide), own_rows h2 rfl ?_ rfl (by decide)⟩
  · simp only [exT, exTr, List.mem_cons, List.not_mem_nil, or_false] at hx
    rcases hx with rfl | rfl | rfl <;> decide
  · intro e he; obtain ⟨x, _, rfl⟩ := List.mem_map.1 he; rfl
  · intro e he; obtain ⟨x, _, rfl⟩ := List.mem_map.1 he; rfl

theorem ex_where0 : whereT exT 120 150 = .tuple #[.agg #[.int .i64 120, .int .i64 (-600), .int .i64 1000, .int .i64 (-700), .int .i64 900, .int .i64 8700, .int .i64 10300, .int .i64 (-612), .int .i64 637, .int .i64 (-612), .int .i64 637, .int .i64 563, .int .i64 1000], .int .i64 0] := by kernel_rfl
theorem ex_reach0 : reachR exT 30 = .tuple #[.int .i64 20500, .int .i64 0] := by kernel_rfl
theorem ex_width0 : widthR exT 1 = .tuple #[.int .i64 4000, .int .i64 0] := by kernel_rfl
theorem ex_asked0 : askedT exT [-1, 0] = 7 := by kernel_rfl

end Go.Tk
