/- Joints; append; ranges over functions. -/
import Derived.Test.YtclbbchehjapjabVcF
import Derived.RangeFuncIn
import Derived.RangeFuncRecord
import Derived.Laws.OwnMore
set_option linter.all false
namespace Go.Vc

/-! ### parts of heaps -/

theorem Good.of_sub {w0 w : World} {M : List Nat} {H H' : Heap} (h : Good w0 M H w) (hs : ∀ p ∈ H', p ∈ H) (nd : (H'.map Prod.fst).Nodup) : Good w0 M H' w :=
  ⟨h.size, h.base, fun p hp => h.own p (hs p hp), nd, fun p hp => h.out p (hs p hp), h.io⟩

theorem Good.perm {w0 w : World} {M : List Nat} {H H' : Heap} (h : Good w0 M H w) (hp : H.Perm H') : Good w0 M H' w :=
  h.of_sub (fun _ hp' => hp.mem_iff.2 hp') ((hp.map Prod.fst).nodup_iff.1 h.nd)

inductive Take : (Nat × Obj) → Heap → Heap → Prop
  | head {x : Nat × Obj} {R : Heap} : Take x (x :: R) R
  | tail {x y : Nat × Obj} {R R' : Heap} (h : Take x R R') : Take x (y :: R) (y :: R')
  | app {x : Nat × Obj} {A R R' : Heap} (h : Take x R R') : Take x (A ++ R) (A ++ R')

theorem Take.perm {x : Nat × Obj} {R R' : Heap} (h : Take x R R') : R.Perm (x :: R') := by
  induction h with
  | head => exact List.Perm.refl _
  | tail _ ih => exact (ih.cons _).trans (List.Perm.swap _ _ _)
  | app _ ih => exact (ih.append_left _).trans List.perm_middle

inductive HSub : Heap → Heap → Prop
  | refl (H : Heap) : HSub H H
  | nil (H : Heap) : HSub [] H
  | take {x : Nat × Obj} {H1 H2 H2' : Heap} (h : Take x H2 H2') (r : HSub H1 H2') : HSub (x :: H1) H2
  | drop {y : Nat × Obj} {H1 H2 : Heap} (r : HSub H1 H2) : HSub H1 (y :: H2)
  | app {A H1 H2 : Heap} (r : HSub H1 H2) : HSub H1 (A ++ H2)

theorem HSub.perm {H1 H2 : Heap} (h : HSub H1 H2) : ∃ L, H2.Perm L ∧ H1.Sublist L := by
  induction h with
  | refl H => exact ⟨H, List.Perm.refl _, List.Sublist.refl _⟩
  | nil H => exact ⟨H, List.Perm.refl _, List.nil_sublist _⟩
  | take h _ ih =>
    obtain ⟨L, h1, h2⟩ := ih
    exact ⟨_ :: L, h.perm.trans (h1.cons _), h2.cons_cons _⟩
  | drop _ ih =>
    obtain ⟨L, h1, h2⟩ := ih
    exact ⟨_ :: L, h1.cons _, h2.cons _⟩
  | app _ ih =>
    obtain ⟨L, h1, h2⟩ := ih
    exact ⟨_ ++ L, h1.append_left _, h2.trans (List.sublist_append_right _ _)⟩

theorem Good.hsub {w0 w : World} {M : List Nat} {H H' : Heap} (h : Good w0 M H w) (hp : HSub H' H) : Good w0 M H' w := by
  obtain ⟨L, h1, h2⟩ := hp.perm
  exact (h.perm h1).sub h2

/-- One block's content becomes another, by what is read. -/
theorem Good.set2 {w0 w w' : World} {M : List Nat} {H H' : Heap} {b : Nat} {o o' : Obj} (h : Good w0 M H w) (hs : SetAt H b o o' H') (hz : w.heap.size ≤ w'.heap.size) (h1 : w'.heap[b]? = some o') (h2 : ∀ k, k < w.heap.size → k ≠ b → w'.heap[k]? = w.heap[k]?) (hio : SameIO w w') : Good w0 M H' w' where
  io := h.io.trans hio
  size := Nat.le_trans h.size hz
  base := fun c hc hM => by
    have hne : c ≠ b := fun e => hM (e ▸ h.out _ hs.mem (e ▸ hc))
    rw [h2 c (Nat.lt_of_lt_of_le hc h.size) hne]; exact h.base c hc hM
  own := fun p hp => by
    rcases hs.mem' h.nd p hp with rfl | ⟨hp', hne⟩
    · exact h1
    · rw [h2 p.1 (h.lt hp') hne]; exact h.own p hp'
  nd := by rw [hs.keys]; exact h.nd
  out := fun p hp hlt => by
    rcases hs.mem' h.nd p hp with rfl | ⟨hp', _⟩
    · exact (h.out (b, o) hs.mem hlt : b ∈ M)
    · exact h.out p hp' hlt

theorem setAt_mid {b : Nat} {o o' : Obj} {post : Heap} : ∀ pre : Heap, SetAt (pre ++ (b, o) :: post) b o o' (pre ++ (b, o') :: post)
  | [] => .head
  | _ :: pre => .tail (setAt_mid pre)

section
variable {X : Cx} {ρ : PEnv} {ds : List Deferred} {H : Heap} {Q : Post}

/-- A joint: what comes behind is walked once. -/
theorem V_mid {x y : Code} {γ : Type} {ks : List Nat} {ρf : PEnv} (hk : Keep ρ ks ρf) (ρI : γ → PEnv) (HI : γ → Heap) (inv : γ → Prop)
    (h : V X x ρ ds H (Then (fun ρ' ds' H' => ∃ g, inv g ∧ Sub (ρI g ++ ρf) ρ' ∧ HSub (HI g) H' ∧ ds' = ds) Q)) (k : ∀ g, inv g → V X y (ρI g ++ ρf) ds (HI g) Q) : V X (.seq x y) ρ ds H Q := by
  refine V_seq (h.mono ?_)
  intro e ρ' ds' H' hq
  cases e <;> first | exact hq | skip
  obtain ⟨g, hi, hs, hh, hd⟩ := hq
  subst hd
  exact fun a w ha hg => k g hi a w (ha.sub hs) (hg.hsub hh)

/-! ### append -/

inductive Grow (el size : Nat) : Value → Nat → List Value → Heap → Prop
  | nil : Grow el size (.slice none 0 0) 0 [] []
  | row {b n cap : Nat} {cur : Array Value} {xs : List Value} (h1 : n ≤ cap) (h2 : cap ≤ maxLen) (h3 : cur.size = cap * size) (h4 : cur.toList.take (n * size) = xs) (h5 : xs.length = n * size) :
      Grow el size (.slice (some ⟨b, 0, none⟩) n cap) n xs [(b, .cells cur el)]

def appOf (P : Program) (t : TypeId) : Option (Nat × Nat × Nat) := match P.underlying t with
  | some (.slice e) => match P.info? e with
    | some i => match i.zero with
      | some z => bif Nat.beq z.cells.size i.size && Nat.blt 0 i.size then some (e, i.size, i.bytes) else none
      | none => none
    | none => none
  | _ => none

theorem appOf_spec {P : Program} {t e size bytes : Nat} (h : appOf P t = some (e, size, bytes)) : P.underlying t = some (.slice e) ∧ ∃ i z, P.info? e = some i ∧ i.zero = some z ∧ i.size = size ∧ i.bytes = bytes ∧ z.cells.size = size ∧ 0 < size := by
  unfold appOf at h
  cases hu : P.underlying t with
  | none => simp [hu] at h
  | some d =>
    cases d with
    | slice e' =>
      simp only [hu] at h
      cases hi : P.info? e' with
      | none => simp [hi] at h
      | some i =>
        simp only [hi] at h
        cases hz : i.zero with
        | none => simp [hz] at h
        | some z =>
          simp only [hz] at h
          cases hb : (Nat.beq z.cells.size i.size && Nat.blt 0 i.size) with
          | false => rw [hb] at h; simp at h
          | true =>
            rw [hb] at h
            simp only [cond_true, Option.some.injEq, Prod.mk.injEq] at h
            obtain ⟨rfl, rfl, rfl⟩ := h
            simp only [Bool.and_eq_true] at hb
            exact ⟨rfl, i, z, hi, hz, rfl, rfl, Nat.eq_of_beq_eq_true hb.1, Nat.le_of_ble_eq_true hb.2⟩
    | _ => simp [hu] at h

theorem Grow.cells {el size n : Nat} {v : Value} {xs : List Value} {G : Heap} (h : Grow el size v n xs G) {w : World} (hg : ∀ p ∈ G, w.heap[p.1]? = some p.2) : ∃ a cap, v = .slice a n cap ∧ n ≤ cap ∧ xs.length = n * size ∧ ∀ j u, xs[j]? = some u → ∃ b, a = some b ∧ w.cell? (b.add j) = some u := by
  cases h with
  | nil => exact ⟨none, 0, rfl, Nat.le_refl _, by simp, fun j u h => by simp at h⟩
  | row h1 h2 h3 h4 h5 =>
    refine ⟨_, _, rfl, h1, h5, fun j u hu => ⟨_, rfl, ?_⟩⟩
    rw [add_none, own_cell (hg _ (.head _))]
    rw [← h4, List.getElem?_take] at hu
    split at hu
    · simpa using hu
    · cases hu

variable {o : Oper}

theorem w_append {s x : Operand} {t e size bytes n m c : Nat} {v : Value} {xs news : List Value} {G : Heap} {HF : Heap → Heap} {a : Option Addr} (ht : appOf X.P t = some (e, size, bytes))
    (ho : o.op = .call { callee := .builtin .append, args := #[s, x], argTypes := #[t, t] }) (hs : ρ.ev s = some v) (hx : ρ.ev x = some (.slice a m c)) (hgr : Grow e size v n xs G)
    (hctx : ∃ pre post, ∀ G, HF G = pre ++ (G ++ post)) (hl : news.length = m * size) (hnews : ∀ w, Good X.w0 X.M (HF G) w → ∀ j u, news[j]? = some u → ∃ b, a = some b ∧ w.cell? (b.add j) = some u)
    (h1 : ∀ u ∈ news, u.oneCell' = true) (hb : (n + m) * bytes ≤ 140737488355328) (h63 : n + m ≤ maxLen) :
    WrA X ρ (HF G) o fun v' H' => ∃ G', H' = HF G' ∧ Grow e size v' (n + m) (xs ++ news) G' :=
  wr_value (fun c h => (by rw [ho] at h; cases h)) fun ev w he hg => by
    obtain ⟨hu, i, z, hi, hz, rfl, rfl, hzs, hsz⟩ := appOf_spec ht
    obtain ⟨pre, post, hHF⟩ := hctx
    have hn := hnews w hg
    have exec : ∀ v' w', (Builtin.append_ #[t, t] o.type #[v, .slice a m c]).run X.P w = .ok v' w' → (execOp ev o).run X.P w = .ok (.value v') w' := by
      intro v' w' h
      simp [execOp, ho, resolve, invoke, builtin, he _ _ hs, he _ _ hx, h]
    have same : news = [] → m = 0 → (Builtin.append_ #[t, t] o.type #[v, .slice a m c]).run X.P w = .ok v w → ∃ v' w' H', ((execOp ev o).run X.P w = .ok (.value v') w' ∨ (v' = undef ∧ (execOp ev o).run X.P w = .ok .skip w')) ∧ Good X.w0 X.M H' w' ∧ ∃ G', H' = HF G' ∧ Grow e i.size v' (n + m) (xs ++ news) G' := by
      rintro rfl rfl h
      exact ⟨v, w, HF G, .inl (exec _ _ h), hg, G, rfl, by simpa using hgr⟩
    -- a new block
    have grown : ∀ (old : Nat), Good X.w0 X.M (HF (((w.heap.size, .cells (xs.toArray ++ news.toArray ++ Builtin.zeroCells z.cells (grownCap w (n + m) old e - (n + m))) e)) :: [])) (w.drew.alloc (.cells (xs.toArray ++ news.toArray ++ Builtin.zeroCells z.cells (grownCap w (n + m) old e - (n + m))) e)) ∧
        Grow e i.size (.slice (some ⟨w.heap.size, 0, none⟩) (n + m) (grownCap w (n + m) old e)) (n + m) (xs ++ news) [(w.heap.size, .cells (xs.toArray ++ news.toArray ++ Builtin.zeroCells z.cells (grownCap w (n + m) old e - (n + m))) e)] := by
      intro old
      have hxl : xs.length = n * i.size := by cases hgr <;> first | assumption | simp
      have hge := grownCap_ge w (n + m) old e
      refine ⟨?_, .row hge (grownCap_le_maxLen w (n + m) old e h63) ?_ ?_ ?_⟩
      · have hd : Good X.w0 X.M (HF G) w.drew := hg.drew _
        have ha := hd.alloc (.cells (xs.toArray ++ news.toArray ++ Builtin.zeroCells z.cells (grownCap w (n + m) old e - (n + m))) e)
        rw [hHF] at ha
        rw [hHF]
        have hsz' : w.drew.heap.size = w.heap.size := rfl
        rw [hsz'] at ha
        refine (ha.sub (List.Sublist.cons_cons _ (List.Sublist.append_left (List.sublist_append_right G post) pre))).perm ?_
        exact List.perm_middle.symm
      · simp only [Array.size_append, List.size_toArray, size_zeroCells, hzs, hxl, hl, ← Nat.add_mul]
        congr 1
        omega
      · simp only [Array.toList_append, List.append_assoc]
        rw [← List.append_assoc, show (n + m) * i.size = (xs ++ news).length by rw [List.length_append, hxl, hl, Nat.add_mul]]
        exact List.take_left
      · rw [List.length_append, hxl, hl, Nat.add_mul]
    cases a with
    | none =>
      have hnil : news = [] := by
        cases news with
        | nil => rfl
        | cons u us => obtain ⟨b, hb, _⟩ := hn 0 u rfl; cases hb
      have hm : m = 0 := by
        rw [hnil] at hl
        simp only [List.length_nil] at hl
        rcases Nat.eq_zero_or_pos m with h | h
        · exact h
        · have := Nat.mul_pos h hsz; omega
      refine same hnil hm ?_
      subst hm
      cases hgr with
      | nil => simp [Builtin.append_, run_underlying hu, sizeOf, typeInfo, hi, Builtin.lenOf, Builtin.firstCells]
      | row q1 q2 q3 q4 q5 => simp [Builtin.append_, run_underlying hu, sizeOf, typeInfo, hi, Builtin.lenOf, Builtin.firstCells, q1, storeCells]
    | some b =>
      have hn' : ∀ j u, news[j]? = some u → w.cell? (b.add j) = some u := fun j u hj => by obtain ⟨b', e', h⟩ := hn j u hj; injection e' with e'; rw [e']; exact h
      have hsmall : ((n + m : Nat) : Int) ≤ 9223372036854775807 := by simp only [maxLen] at h63; omega
      cases hgr with
      | nil =>
        by_cases hm : m = 0
        · subst hm
          have hnil : news = [] := List.eq_nil_of_length_eq_zero (by simpa using hl)
          refine same hnil rfl ?_
          subst hnil
          simp [Builtin.append_, run_underlying hu, sizeOf, typeInfo, hi, Builtin.lenOf, Builtin.firstCells, loadCells, loadCellsFrom]
        · have hr := run_append_nil (P := X.P) w t o.type e i z hu hi hz b m c news hl hn' (by omega) (by omega) (by have := hb; simp only [Nat.zero_add] at this; omega)
          obtain ⟨g1, g2⟩ := grown 0
          simp only [Nat.zero_add, List.nil_append, Array.empty_append] at g1 g2
          exact ⟨_, _, _, .inl (exec _ _ hr), g1, _, rfl, by simpa using g2⟩
      | row q1 q2 q3 q4 q5 =>
        rename_i g cap cur
        have hgg : w.heap[g]? = some (.cells cur e (0, 0)) := hg.own (g, .cells cur e) (by rw [hHF]; simp)
        by_cases hroom : n + m ≤ cap
        · have hfit : n * i.size + news.length ≤ cur.size := by rw [hl, q3, ← Nat.add_mul]; exact Nat.mul_le_mul_right _ hroom
          have hr := run_append_room (P := X.P) w t o.type e i hu hi g n cap cur hgg b m c news hl hn' h1 hroom hfit
          refine ⟨_, _, _, .inl (exec _ _ hr), hg.set2 (b := g) (o := .cells cur e) (H' := HF [(g, .cells (cur.toList.take (n * i.size) ++ news ++ cur.toList.drop (n * i.size + news.length)).toArray e)]) ?_ (by simp) (setRow_heap w g cur _ e _ hgg) (fun k _ hk => setRow_other w g k _ hk) ⟨rfl, rfl⟩, _, rfl, .row hroom q2 ?_ ?_ ?_⟩
          · rw [hHF, hHF]; exact setAt_mid pre
          · simp only [List.size_toArray, List.length_append, List.length_take, List.length_drop, Array.length_toList]
            omega
          · rw [q4, show (n + m) * i.size = (xs ++ news).length by rw [List.length_append, q5, hl, Nat.add_mul]]
            exact List.take_left
          · rw [List.length_append, q5, hl, Nat.add_mul]
        · have holds : ∀ j u, xs[j]? = some u → w.cell? ((⟨g, 0, none⟩ : Addr).add j) = some u := by
            intro j u hj
            rw [add_none, own_cell hgg]
            rw [← q4, List.getElem?_take] at hj
            split at hj
            · simpa using hj
            · cases hj
          have hr := run_append_grow (P := X.P) w t o.type e i z hu hi hz ⟨g, 0, none⟩ n cap xs q5 holds b m c news hl hn' (by omega) (by omega) (growslice_fits (by omega) hb)
          obtain ⟨g1, g2⟩ := grown cap
          exact ⟨_, _, _, .inl (exec _ _ hr), g1, _, rfl, g2⟩
end

end Go.Vc
