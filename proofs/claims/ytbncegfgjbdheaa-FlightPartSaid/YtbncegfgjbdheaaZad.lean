/- Joined texts. -/
import Derived.Test.YtbncegfgjbdheaaZac
import Derived.RangeFuncIn
import Derived.RangeFuncRecord
import Derived.Laws.OwnMore
import Derived.KernelRfl
/- Joints; append; ranges over functions. -/
set_option linter.all false
namespace Go.Vc

/-! ### parts of heaps -/

theorem Good.of_sub {w0 w : World} {M : List Nat} {H H' : Heap} (h : Good w0 M H w) (hs : ∀ p ∈ H', p ∈ H) (nd : (H'.map Prod.fst).Nodup) : Good w0 M H' w :=
  ⟨h.size, h.base, fun p hp => h.own p (hs p hp), nd, fun p hp => h.out p (hs p hp), h.io⟩

theorem Good.perm {w0 w : World} {M : List Nat} {H H' : Heap} (h : Good w0 M H w) (hp : H.Perm H') : Good w0 M H' w :=
  h.of_sub (fun _ hp' => hp.mem_iff.2 hp') ((hp.map Prod.fst).nodup_iff.1 h.nd)

inductive Take : (Nat × Obj) → Heap → Heap → Prop
  | head {x : Nat × Obj} {R : Heap} : Take x (x :: R) R
  | tail {x y : Nat × Obj} {R R' : Heap} (h : Take x R R') : Take x (y :: R) (y :: R')
  | app {x : Nat × Obj} {A R R' : Heap} (h : Take x R R') : Take x (A ++ R) (A ++ R')

theorem Take.perm {x : Nat × Obj} {R R' : Heap} (h : Take x R R') : R.Perm (x :: R') := by
  induction h with
  | head => exact List.Perm.refl _
  | tail _ ih => exact (ih.cons _).trans (List.Perm.swap _ _ _)
  | app _ ih => exact (ih.append_left _).trans List.perm_middle

inductive HSub : Heap → Heap → Prop
  | refl (H : Heap) : HSub H H
  | nil (H : Heap) : HSub [] H
  | take {x : Nat × Obj} {H1 H2 H2' : Heap} (h : Take x H2 H2') (r : HSub H1 H2') : HSub (x :: H1) H2
  | drop {y : Nat × Obj} {H1 H2 : Heap} (r : HSub H1 H2) : HSub H1 (y :: H2)
  | app {A H1 H2 : Heap} (r : HSub H1 H2) : HSub H1 (A ++ H2)

theorem HSub.perm {H1 H2 : Heap} (h : HSub H1 H2) : ∃ L, H2.Perm L ∧ H1.Sublist L := by
  induction h with
  | refl H => exact ⟨H, List.Perm.refl _, List.Sublist.refl _⟩
  | nil H => exact ⟨H, List.Perm.refl _, List.nil_sublist _⟩
  | take h _ ih =>
    obtain ⟨L, h1, h2⟩ := ih
    exact ⟨_ :: L, h.perm.trans (h1.cons _), h2.cons_cons _⟩
  | drop _ ih =>
    obtain ⟨L, h1, h2⟩ := ih
    exact ⟨_ :: L, h1.cons _, h2.cons _⟩
  | app _ ih =>
    obtain ⟨L, h1, h2⟩ := ih
    exact ⟨_ ++ L, h1.append_left _, h2.trans (List.sublist_append_right _ _)⟩

theorem Good.hsub {w0 w : World} {M : List Nat} {H H' : Heap} (h : Good w0 M H w) (hp : HSub H' H) : Good w0 M H' w := by
  obtain ⟨L, h1, h2⟩ := hp.perm
  exact (h.perm h1).sub h2

/-- One block's content becomes another, by what is read. -/
theorem Good.set2 {w0 w w' : World} {M : List Nat} {H H' : Heap} {b : Nat} {o o' : Obj} (h : Good w0 M H w) (hs : SetAt H b o o' H') (hz : w.heap.size ≤ w'.heap.size) (h1 : w'.heap[b]? = some o') (h2 : ∀ k, k < w.heap.size → k ≠ b → w'.heap[k]? = w.heap[k]?) (hio : SameIO w w') : Good w0 M H' w' where
  io := h.io.trans hio
  size := Nat.le_trans h.size hz
  base := fun c hc hM => by
    have hne : c ≠ b := fun e => hM (e ▸ h.out _ hs.mem (e ▸ hc))
    rw [h2 c (Nat.lt_of_lt_of_le hc h.size) hne]; exact h.base c hc hM
  own := fun p hp => by
    rcases hs.mem' h.nd p hp with rfl | ⟨hp', hne⟩
    · exact h1
    rw [h2 p.1 (h.lt hp') hne]; exact h.own p hp'
  nd := by rw [hs.keys]; exact h.nd
  out := fun p hp hlt => by
    rcases hs.mem' h.nd p hp with rfl | ⟨hp', _⟩
    · exact (h.out (b, o) hs.mem hlt : b ∈ M)
    exact h.out p hp' hlt

theorem setAt_mid {b : Nat} {o o' : Obj} {post : Heap} : ∀ pre : Heap, SetAt (pre ++ (b, o) :: post) b o o' (pre ++ (b, o') :: post)
  | [] => .head
  | _ :: pre => .tail (setAt_mid pre)

section
variable {X : Cx} {ρ : PEnv} {ds : List Deferred} {H : Heap} {Q : Post}

/-- A joint: what comes behind is walked once. -/
theorem V_mid {x y : Code} {γ : Type} {ks : List Nat} {ρf : PEnv} (hk : Keep ρ ks ρf) (ρI : γ → PEnv) (HI : γ → Heap) (inv : γ → Prop)
    (h : V X x ρ ds H (Then (fun ρ' ds' H' => ∃ g, inv g ∧ Sub (ρI g ++ ρf) ρ' ∧ HSub (HI g) H' ∧ ds' = ds) Q)) (k : ∀ g, inv g → V X y (ρI g ++ ρf) ds (HI g) Q) : V X (.seq x y) ρ ds H Q := by
  refine V_seq (h.mono ?_)
  intro e ρ' ds' H' hq
  cases e <;> first | exact hq | skip
  obtain ⟨g, hi, hs, hh, hd⟩ := hq
  subst hd
  exact fun a w ha hg => k g hi a w (ha.sub hs) (hg.hsub hh)

/-! ### append -/

inductive Grow (el size : Nat) : Value → Nat → List Value → Heap → Prop
  | nil : Grow el size (.slice none 0 0) 0 [] []
  | row {b n cap : Nat} {cur : Array Value} {xs : List Value} (h1 : n ≤ cap) (h2 : cap ≤ maxLen) (h3 : cur.size = cap * size) (h4 : cur.toList.take (n * size) = xs) (h5 : xs.length = n * size) :
      Grow el size (.slice (some ⟨b, 0, none⟩) n cap) n xs [(b, .cells cur el)]

def appOf (P : Program) (t : TypeId) : Option (Nat × Nat × Nat) := match P.underlying t with
  | some (.slice e) => match P.info? e with
    | some i => match i.zero with
      | some z => bif Nat.beq z.cells.size i.size && Nat.blt 0 i.size then some (e, i.size, i.bytes) else none
      | none => none
    | none => none
  | _ => none

theorem appOf_spec {P : Program} {t e size bytes : Nat} (h : appOf P t = some (e, size, bytes)) : P.underlying t = some (.slice e) ∧ ∃ i z, P.info? e = some i ∧ i.zero = some z ∧ i.size = size ∧ i.bytes = bytes ∧ z.cells.size = size ∧ 0 < size := by
  unfold appOf at h
  cases hu : P.underlying t with
  | none => simp [hu] at h
  | some d =>
    cases d with
    | slice e' =>
      simp only [hu] at h
      cases hi : P.info? e' with
      | none => simp [hi] at h
      | some i =>
        simp only [hi] at h
        cases hz : i.zero with
        | none => simp [hz] at h
        | some z =>
          simp only [hz] at h
          cases hb : (Nat.beq z.cells.size i.size && Nat.blt 0 i.size) with
          | false => rw [hb] at h; simp at h
          | true =>
            rw [hb] at h
            simp only [cond_true, Option.some.injEq, Prod.mk.injEq] at h
            obtain ⟨rfl, rfl, rfl⟩ := h
            simp only [Bool.and_eq_true] at hb
            exact ⟨rfl, i, z, hi, hz, rfl, rfl, Nat.eq_of_beq_eq_true hb.1, Nat.le_of_ble_eq_true hb.2⟩
    | _ => simp [hu] at h

theorem Grow.cells {el size n : Nat} {v : Value} {xs : List Value} {G : Heap} (h : Grow el size v n xs G) {w : World} (hg : ∀ p ∈ G, w.heap[p.1]? = some p.2) : ∃ a cap, v = .slice a n cap ∧ n ≤ cap ∧ xs.length = n * size ∧ ∀ j u, xs[j]? = some u → ∃ b, a = some b ∧ w.cell? (b.add j) = some u := by
  cases h with
  | nil => exact ⟨none, 0, rfl, Nat.le_refl _, by simp, fun j u h => by simp at h⟩
  | row h1 h2 h3 h4 h5 =>
    refine ⟨_, _, rfl, h1, h5, fun j u hu => ⟨_, rfl, ?_⟩⟩
    rw [add_none, own_cell (hg _ (.head _))]
    rw [← h4, List.getElem?_take] at hu
    split at hu
    · simpa using hu
    cases hu

variable {o : Oper}

theorem w_append {s x : Operand} {t e size bytes n m c : Nat} {v : Value} {xs news : List Value} {G : Heap} {HF : Heap → Heap} {a : Option Addr} (ht : appOf X.P t = some (e, size, bytes))
    (ho : o.op = .call { callee := .builtin .append, args := #[s, x], argTypes := #[t, t] }) (hs : ρ.ev s = some v) (hx : ρ.ev x = some (.slice a m c)) (hgr : Grow e size v n xs G)
    (hctx : ∃ pre post, ∀ G, HF G = pre ++ (G ++ post)) (hl : news.length = m * size) (hnews : ∀ w, Good X.w0 X.M (HF G) w → ∀ j u, news[j]? = some u → ∃ b, a = some b ∧ w.cell? (b.add j) = some u)
    (h1 : ∀ u ∈ news, u.oneCell' = true) (hb : (n + m) * bytes ≤ 140737488355328) (h63 : n + m ≤ maxLen) :
    WrA X ρ (HF G) o fun v' H' => ∃ G', H' = HF G' ∧ Grow e size v' (n + m) (xs ++ news) G' :=
  wr_value (fun c h => (by rw [ho] at h; cases h)) fun ev w he hg => by
    obtain ⟨hu, i, z, hi, hz, rfl, rfl, hzs, hsz⟩ := appOf_spec ht
    obtain ⟨pre, post, hHF⟩ := hctx
    have hn := hnews w hg
    have exec : ∀ v' w', (Builtin.append_ #[t, t] o.type #[v, .slice a m c]).run X.P w = .ok v' w' → (execOp ev o).run X.P w = .ok (.value v') w' := by
      intro v' w' h
      simp [execOp, ho, resolve, invoke, builtin, he _ _ hs, he _ _ hx, h]
    have same : news = [] → m = 0 → (Builtin.append_ #[t, t] o.type #[v, .slice a m c]).run X.P w = .ok v w → ∃ v' w' H', ((execOp ev o).run X.P w = .ok (.value v') w' ∨ (v' = undef ∧ (execOp ev o).run X.P w = .ok .skip w')) ∧ Good X.w0 X.M H' w' ∧ ∃ G', H' = HF G' ∧ Grow e i.size v' (n + m) (xs ++ news) G' := by
      rintro rfl rfl h
      exact ⟨v, w, HF G, .inl (exec _ _ h), hg, G, rfl, by simpa using hgr⟩
    -- a new block
    have grown : ∀ (old : Nat), Good X.w0 X.M (HF (((w.heap.size, .cells (xs.toArray ++ news.toArray ++ Builtin.zeroCells z.cells (grownCap w (n + m) old e - (n + m))) e)) :: [])) (w.drew.alloc (.cells (xs.toArray ++ news.toArray ++ Builtin.zeroCells z.cells (grownCap w (n + m) old e - (n + m))) e)) ∧
        Grow e i.size (.slice (some ⟨w.heap.size, 0, none⟩) (n + m) (grownCap w (n + m) old e)) (n + m) (xs ++ news) [(w.heap.size, .cells (xs.toArray ++ news.toArray ++ Builtin.zeroCells z.cells (grownCap w (n + m) old e - (n + m))) e)] := by
      intro old
      have hxl : xs.length = n * i.size := by cases hgr <;> first | assumption | simp
      have hge := grownCap_ge w (n + m) old e
      refine ⟨?_, .row hge (grownCap_le_maxLen w (n + m) old e h63) ?_ ?_ ?_⟩
      · have hd : Good X.w0 X.M (HF G) w.drew := hg.drew _
        have ha := hd.alloc (.cells (xs.toArray ++ news.toArray ++ Builtin.zeroCells z.cells (grownCap w (n + m) old e - (n + m))) e)
        rw [hHF] at ha
        rw [hHF]
        have hsz' : w.drew.heap.size = w.heap.size := rfl
        rw [hsz'] at ha
        refine (ha.sub (List.Sublist.cons_cons _ (List.Sublist.append_left (List.sublist_append_right G post) pre))).perm ?_
        exact List.perm_middle.symm
      · simp only [Array.size_append, List.size_toArray, size_zeroCells, hzs, hxl, hl, ← Nat.add_mul]
        congr 1
        omega
      · simp only [Array.toList_append, List.append_assoc]
        rw [← List.append_assoc, show (n + m) * i.size = (xs ++ news).length by rw [List.length_append, hxl, hl, Nat.add_mul]]
        exact List.take_left
      rw [List.length_append, hxl, hl, Nat.add_mul]
    cases a with
    | none =>
      have hnil : news = [] := by
        cases news with
        | nil => rfl
        | cons u us => obtain ⟨b, hb, _⟩ := hn 0 u rfl; cases hb
      have hm : m = 0 := by
        rw [hnil] at hl
        simp only [List.length_nil] at hl
        rcases Nat.eq_zero_or_pos m with h | h
        · exact h
        have := Nat.mul_pos h hsz; omega
      refine same hnil hm ?_
      subst hm
      cases hgr with
      | nil => simp [Builtin.append_, run_underlying hu, sizeOf, typeInfo, hi, Builtin.lenOf, Builtin.firstCells]
      | row q1 q2 q3 q4 q5 => simp [Builtin.append_, run_underlying hu, sizeOf, typeInfo, hi, Builtin.lenOf, Builtin.firstCells, q1, storeCells]
    | some b =>
      have hn' : ∀ j u, news[j]? = some u → w.cell? (b.add j) = some u := fun j u hj => by obtain ⟨b', e', h⟩ := hn j u hj; injection e' with e'; rw [e']; exact h
      have hsmall : ((n + m : Nat) : Int) ≤ 9223372036854775807 := by simp only [maxLen] at h63; omega
      cases hgr with
      | nil =>
        by_cases hm : m = 0
        · subst hm
          have hnil : news = [] := List.eq_nil_of_length_eq_zero (by simpa using hl)
          refine same hnil rfl ?_
          subst hnil
          simp [Builtin.append_, run_underlying hu, sizeOf, typeInfo, hi, Builtin.lenOf, Builtin.firstCells, loadCells, loadCellsFrom]
        have hr := run_append_nil (P := X.P) w t o.type e i z hu hi hz b m c news hl hn' (by omega) (by omega) (by have := hb; simp only [Nat.zero_add] at this; omega)
        obtain ⟨g1, g2⟩ := grown 0
        simp only [Nat.zero_add, List.nil_append, Array.empty_append] at g1 g2
        exact ⟨_, _, _, .inl (exec _ _ hr), g1, _, rfl, by simpa using g2⟩
      | row q1 q2 q3 q4 q5 =>
        rename_i g cap cur
        have hgg : w.heap[g]? = some (.cells cur e (0, 0)) := hg.own (g, .cells cur e) (by rw [hHF]; simp)
        by_cases hroom : n + m ≤ cap
        · have hfit : n * i.size + news.length ≤ cur.size := by rw [hl, q3, ← Nat.add_mul]; exact Nat.mul_le_mul_right _ hroom
          have hr := run_append_room (P := X.P) w t o.type e i hu hi g n cap cur hgg b m c news hl hn' h1 hroom hfit
          refine ⟨_, _, _, .inl (exec _ _ hr), hg.set2 (b := g) (o := .cells cur e) (H' := HF [(g, .cells (cur.toList.take (n * i.size) ++ news ++ cur.toList.drop (n * i.size + news.length)).toArray e)]) ?_ (by simp) (setRow_heap w g cur _ e _ hgg) (fun k _ hk => setRow_other w g k _ hk) ⟨rfl, rfl⟩, _, rfl, .row hroom q2 ?_ ?_ ?_⟩
          · rw [hHF, hHF]; exact setAt_mid pre
          · simp only [List.size_toArray, List.length_append, List.length_take, List.length_drop, Array.length_toList]
            omega
          · rw [q4, show (n + m) * i.size = (xs ++ news).length by rw [List.length_append, q5, hl, Nat.add_mul]]
            exact List.take_left
          rw [List.length_append, q5, hl, Nat.add_mul]
        have holds : ∀ j u, xs[j]? = some u → w.cell? ((⟨g, 0, none⟩ : Addr).add j) = some u := by
          intro j u hj
          rw [add_none, own_cell hgg]
          rw [← q4, List.getElem?_take] at hj
          split at hj
          · simpa using hj
          cases hj
        have hr := run_append_grow (P := X.P) w t o.type e i z hu hi hz ⟨g, 0, none⟩ n cap xs q5 holds b m c news hl hn' (by omega) (by omega) (growslice_fits (by omega) hb)
        obtain ⟨g1, g2⟩ := grown cap
        exact ⟨_, _, _, .inl (exec _ _ hr), g1, _, rfl, g2⟩
end

end Go.Vc

/- Ranges over functions. -/
set_option linter.all false
namespace Go.Vc

def rdy (r : Loop) : Obj := .loop { r with state := .ready, pending := none }
def bsy (r : Loop) : Obj := .loop { r with state := .busy, pending := none }
def dne (r : Loop) (c : Code) : Obj := .loop { r with state := .done, pending := some c }

/-- Behind the assignments to the left sides: the round begins; its body. -/
def AsgQ (X : Cx) (l : Nat) (r : Loop) (body : Code) (Q2 : Post) : Post := fun e ρ ds H => match e with
  | .normal => ∃ H', SetAt H l (rdy r) (bsy r) H' ∧ V X body ρ ds H' Q2
  | _ => False

def bindP : List Nat → List Value → PEnv → PEnv
  | t :: ts, v :: vs, ρ => bindP ts vs ((t, v) :: ρ)
  | _, _, ρ => ρ

theorem agr_bind {n : Nat} : ∀ (ts : List Nat) (vs : List Value) {ρ : PEnv} {tmps : Array Value}, (∀ t ∈ ts, t < n) → Agr n ρ [] { tmps := tmps, defers := [] } →
    Agr n (bindP ts vs ρ) [] { tmps := (ts.zip vs).foldl (fun tmps (p : Nat × Value) => tmps.setIfInBounds p.1 p.2) tmps, defers := [] } := by
  intro ts
  induction ts with
  | nil => intro vs ρ tmps _ h; simpa [bindP] using h
  | cons t ts ih =>
    intro vs ρ tmps ht h
    cases vs with
    | nil => simpa [bindP] using h
    | cons v vs =>
      simp only [bindP, List.zip_cons_cons, List.foldl_cons]
      exact ih vs (fun t ht' => ht t (.tail _ ht')) (h.put (d := some t) (fun t' e => by injection e with e; rw [← e]; exact ht t (.head _)) v)

section
variable {X : Cx} {ρ : PEnv} {ds : List Deferred} {H : Heap} {Q : Post} {o : Oper}

/-- the same, with elements of several cells -/
theorem p_atA {x i : Operand} {t len el n : Nat} {cs : Array Value} {k : Int} {vs : List Value} (hu : X.P.underlying t = some (.array len el)) (ha : tyAgg X.P el = some true) (hz : tySize X.P el = some n) (ho : o.op = .index t x i) (hx : ρ.ev x = some (.agg cs)) (hi : ρ.ev i = some (.int .i64 k))
    (h0 : 0 ≤ k) (h1 : k < len) (hv : (cs.toList.drop (k.toNat * n)).take n = vs) : RdP X ρ o (.agg vs.toArray) := by
  refine ⟨fun c h => (by rw [ho] at h; cases h), fun e w he => ?_⟩
  have hv' : cs.extract (k.toNat * n) (k.toNat * n + n) = vs.toArray := by
    apply Array.toList_inj.1
    rw [← hv]
    simp
  simp [execOp, ho, he _ _ hx, he _ _ hi, Instr.index, asIntOf, run_underlying' hu, h0, h1, run_sizeOf' hz, Go.part, run_isAgg' ha, hv']

/-- append, the heap taken apart -/
theorem w_app {s x : Operand} {t e size bytes n m c : Nat} {v : Value} {xs news : List Value} {pre G post : Heap} {a : Option Addr} (ht : appOf X.P t = some (e, size, bytes))
    (ho : o.op = .call { callee := .builtin .append, args := #[s, x], argTypes := #[t, t] }) (hs : ρ.ev s = some v) (hx : ρ.ev x = some (.slice a m c)) (hgr : Grow e size v n xs G) (hH : H = pre ++ (G ++ post))
    (hl : news.length = m * size) (hnews : ∀ w, Good X.w0 X.M H w → ∀ j u, news[j]? = some u → ∃ b, a = some b ∧ w.cell? (b.add j) = some u)
    (h1 : ∀ u ∈ news, u.oneCell' = true) (hb : (n + m) * bytes ≤ 140737488355328) (h63 : n + m ≤ maxLen) :
    WrA X ρ H o fun v' H' => ∃ a' cap' G', v' = .slice a' (n + m) cap' ∧ H' = pre ++ (G' ++ post) ∧ Grow e size (.slice a' (n + m) cap') (n + m) (xs ++ news) G' := by
  subst hH
  have h := w_append (HF := fun G => pre ++ (G ++ post)) ht ho hs hx hgr ⟨pre, post, fun _ => rfl⟩ hl hnews h1 hb h63
  refine ⟨h.nd, fun a w he hg => uponIn_mono ?_ (h.run a w he hg)⟩
  rintro a1 w1 ⟨v, H', h1, h2, G', h3, h4⟩
  have : ∃ a' cap', v = .slice a' (n + m) cap' := by
    generalize n + m = k at h4
    generalize xs ++ news = ys at h4
    cases h4 with
    | nil => exact ⟨_, _, rfl⟩
    | row => exact ⟨_, _, rfl⟩
  obtain ⟨a', cap', rfl⟩ := this
  exact ⟨_, H', h1, h2, a', cap', G', rfl, h3, h4⟩

theorem WrA.perm {R R' : Value → Heap → Prop} (h : WrA X ρ H o R) (hr : ∀ v H', R v H' → ∃ H'', H'.Perm H'' ∧ R' v H'') : WrA X ρ H o R' :=
  ⟨h.nd, fun a w he hg => uponIn_mono (fun a' w' ⟨v, H', h1, h2, h3⟩ => let ⟨H'', h4, h5⟩ := hr v H' h3; ⟨v, H'', h1, h2.perm h4, h5⟩) (h.run a w he hg)⟩

/-- A call that makes memory, of which part is a row that grew: it is laid behind ours. -/
theorem w_callG {fo : Operand} {ags : Array Operand} {tys : Array TypeId} {f : FuncId} {cap : Array Value} {vs : List Value} {R : Value → Heap → Heap → Prop} {pre post : Heap} (ho : o.op = .call { callee := .value fo, args := ags, argTypes := tys })
    (hf : ρ.ev fo = some (.func (.func f) #[] cap)) (hv : evL ρ ags.toList = some vs) (hH : H = pre ++ post) (h : ∀ w, Good X.w0 X.M H w → FnC X.P f (vs ++ cap.toList) w fun v w' => ∃ Hc, Good w [] Hc w' ∧ ∃ A G, Hc = A ++ G ∧ R v A G) :
    WrA X ρ H o fun u H' => ∃ A G, H' = A ++ (pre ++ (G ++ post)) ∧ (∀ p ∈ A, X.w0.heap.size ≤ p.1) ∧ R u A G := by
  refine (w_callN ho hf hv h).perm ?_
  rintro v _ ⟨_, rfl, hfr, A, G, rfl, hR⟩
  subst hH
  refine ⟨A ++ (pre ++ (G ++ post)), ?_, A, G, rfl, fun p hp => hfr p (List.mem_append_left _ hp), hR⟩
  rw [List.append_assoc]
  refine List.Perm.append_left _ ?_
  rw [← List.append_assoc, ← List.append_assoc]
  exact List.Perm.append_right _ List.perm_append_comm

/-! ### loops, round by round -/

def LoopV (X : Cx) (c : Code) (ρ : PEnv) (ds : List Deferred) (H : Heap) (Q : Post) : Prop :=
  ∀ a w, Agr X.n ρ ds a → Good X.w0 X.M H w → ∀ (b : Frame) (k : List Item) (cs : List Frame), b.roundOf = X.r →
    ∃ e a' w', Lift X Q e a' w' ∧ ArrivesIn (Machine.fenced X.P (FW X.r)) X.P (lone (b.atR a (.code c :: .inLoop c :: k)) cs w) b k cs e a' w'

theorem V_loopU {c : Code} (h : LoopV X c ρ ds H Q) : V X (.loop c) ρ ds H Q := by
  intro a w ha hg b k cs hro hb hr
  obtain ⟨e, a', w', hq, harr⟩ := h a w ha hg b k cs hro
  exact ⟨e, a', w', hq, .of_steps (.one (fenced_calm (n := 0) (fr := b.atR a (.code (.loop c) :: k)) hb hr rfl) stepR_loop) harr⟩

theorem LU_step {c : Code} (h : V X c ρ ds H (Then (fun ρ' ds' H' => LoopV X c ρ' ds' H' Q) Q)) : LoopV X c ρ ds H Q := by
  intro a w ha hg b k cs hro
  obtain ⟨e, a₁, w₁, hq, harr⟩ := h a w ha hg b (.inLoop c :: k) cs hro trivial (FW.room _ _)
  obtain ⟨ρ', ds', H', h1, h2, h3⟩ := hq
  cases e with
  | normal =>
    obtain ⟨e₂, a₂, w₂, hq₂, harr₂⟩ := h3 a₁ w₁ h1 h2 b k cs hro
    exact ⟨e₂, a₂, w₂, hq₂, .of_steps (StepsIn.trans harr (.one (fenced_calm (n := 0) (fr := b.atR a₁ (.inLoop c :: k)) trivial (FW.room _ _) rfl) stepR_inLoop)) harr₂⟩
  | exit id => exact ⟨_, a₁, w₁, ⟨ρ', ds', H', h1, h2, h3⟩, .pass (x := .inLoop c) rfl (fun _ _ => .inl (by simp)) harr⟩
  | goto l => exact ⟨_, a₁, w₁, ⟨ρ', ds', H', h1, h2, h3⟩, .pass (x := .inLoop c) rfl (fun _ _ => .inl (by simp)) harr⟩
  | ret => exact ⟨_, a₁, w₁, ⟨ρ', ds', H', h1, h2, h3⟩, .pass (x := .inLoop c) rfl (fun _ _ => .inl (by simp)) harr⟩
  | panic ch => exact ⟨_, a₁, w₁, ⟨ρ', ds', H', h1, h2, h3⟩, .pass (x := .inLoop c) rfl (fun _ _ => .inl (by simp)) harr⟩
  | outgrown => exact ⟨_, a₁, w₁, ⟨ρ', ds', H', h1, h2, h3⟩, .pass (x := .inLoop c) rfl (fun _ _ => .inl (by simp)) harr⟩

theorem asgI {X : Cx} {l : Nat} {r : Loop} {body : Code} {Q2 : Post} {H' : Heap} (hs : SetAt H l (rdy r) (bsy r) H') (h : V X body ρ ds H' Q2) : AsgQ X l r body Q2 .normal ρ ds H := ⟨H', hs, h⟩
theorem news_own {b ty : Nat} {cur : Array Value} {fr : Nat × Nat} (hm : (b, Obj.cells cur ty fr) ∈ H) : ∀ w, Good X.w0 X.M H w → ∀ (j : Nat) u, cur.toList[j]? = some u → ∃ b', some (⟨b, 0, none⟩ : Addr) = some b' ∧ w.cell? (b'.add j) = some u := by
  intro w hg j u hj
  refine ⟨_, rfl, ?_⟩
  rw [add_none, own_cell (hg.own _ hm)]
  simpa using hj

end

end Go.Vc

/- Short forms of the rules. -/
set_option linter.all false
namespace Go.Vc

/-- these slots, as they are known -/
def keepL (ρ : PEnv) : List Nat → Option PEnv
  | [] => some []
  | k :: ks => match ρ.get k, keepL ρ ks with
    | some v, some r => some ((k, v) :: r)
    | _, _ => none
theorem kp {ρ ρ' : PEnv} (ks : List Nat) (h : keepL ρ ks = some ρ') : Keep ρ ks ρ' := by
  induction ks generalizing ρ' with
  | nil => simp only [keepL, Option.some.injEq] at h; subst h; exact .nil
  | cons k ks ih =>
    unfold keepL at h
    cases hg : ρ.get k with
    | none => rw [hg] at h; cases h
    | some v =>
      cases hr : keepL ρ ks with
      | none => rw [hg, hr] at h; cases h
      | some r =>
        rw [hg, hr] at h
        simp only [Option.some.injEq] at h
        subst h
        exact .cons hg (ih hr)

section
variable {X : Cx} {ρ : PEnv} {ds : List Deferred} {H : Heap} {Q : Post} {ops : Array Oper} {l : List Oper} {o : Oper}

theorem Vs {id : Nat} {y : Code} (hf : l.all (dstLt X.n) = true) (h : LL X l.toArray l ρ ds H (Then (fun ρ ds H => V X y ρ ds H Q) Q)) : V X (.seq (.region id l.toArray false) y) ρ ds H Q := V_seq (V_region hf h)
theorem Lp {v : Value} (hg : o.guard = none) (h : RdP X ρ o v) (k : LL X ops l (ρ.put o.dst v) ds H Q) : LL X ops (o :: l) ρ ds H Q := L_go hg (X_p h k)
theorem Lr {v : Value} (hg : o.guard = none) (h : RdA X ρ H o v) (k : LL X ops l (ρ.put o.dst v) ds H Q) : LL X ops (o :: l) ρ ds H Q := L_go hg (X_rd h k)
theorem Lw {R : Value → Heap → Prop} (hg : o.guard = none) (h : WrA X ρ H o R) (k : ∀ v H', R v H' → LL X ops l (ρ.put o.dst v) ds H' Q) : LL X ops (o :: l) ρ ds H Q := L_go hg (X_wr h k)
theorem Lm {x : Operand} {v : Value} (hg : o.guard = none) (ho : o.op = .move x) (hx : ρ.ev x = some v) (k : LL X ops l (ρ.put o.dst v) ds H Q) : LL X ops (o :: l) ρ ds H Q := L_go hg (X_p (p_move ho hx) k)
theorem La {x : Operand} {v : Value} (hg : o.guard = none) (ho : o.op = .assign x) (hx : ρ.ev x = some v) (k : LL X ops l (ρ.put o.dst v) ds H Q) : LL X ops (o :: l) ρ ds H Q := L_go hg (X_p (p_assign ho hx) k)
theorem Ln {x : Operand} {a : Addr} (hg : o.guard = none) (ho : o.op = .nilCheck x) (hx : ρ.ev x = some (.pointer (some a))) (k : LL X ops l (ρ.put o.dst (.pointer (some a))) ds H Q) : LL X ops (o :: l) ρ ds H Q := L_go hg (X_p (p_nil ho hx) k)
theorem Lc {fo : Operand} {ags : Array Operand} {tys : Array TypeId} {f : FuncId} {cap : Array Value} {vs : List Value} {v : Value} (hg : o.guard = none) (ho : o.op = .call { callee := .value fo, args := ags, argTypes := tys })
    (hf : ρ.ev fo = some (.func (.func f) #[] cap)) (hv : evL ρ ags.toList = some vs) (h : ∀ w, Good X.w0 X.M H w → FnP X.P f (vs ++ cap.toList) w v) (k : LL X ops l (ρ.put o.dst v) ds H Q) : LL X ops (o :: l) ρ ds H Q :=
  L_go hg (X_wr (w_callP ho hf hv h) (by rintro _ _ ⟨rfl, rfl⟩; exact k))

theorem rl {x : Operand} {t ty b off : Nat} {cs : Array Value} {fr : Nat × Nat} {v : Value} (ha : tyAgg X.P t = some false) (ho : o.op = .load t x) (hx : ρ.ev x = some (.pointer (some ⟨b, off, none⟩)))
    (hv : cs.toList[off]? = some v) (hm : (b, Obj.cells cs ty fr) ∈ H := by repeat first | exact mH | apply mT | apply List.mem_append_right) : RdA X ρ H o v := r_load ha ho hx hm hv
theorem rlA {x : Operand} {t ty b off n : Nat} {cs : Array Value} {fr : Nat × Nat} {vs : List Value} (ha : tyAgg X.P t = some true) (hs : tySize X.P t = some n) (ho : o.op = .load t x) (hx : ρ.ev x = some (.pointer (some ⟨b, off, none⟩)))
    (hv : sliceL cs.toList off n = some vs) (hm : (b, Obj.cells cs ty fr) ∈ H := by repeat first | exact mH | apply mT | apply List.mem_append_right) : RdA X ρ H o (.agg vs.toArray) := r_loadA ha hs ho hx hm hv
theorem ws {x y : Operand} {t ty b off n : Nat} {cs : Array Value} {v : Value} {cs' : List Value} {H' : Heap} (hs : tySize X.P t = some n) (ho : o.op = .store t x y) (hx : ρ.ev x = some (.pointer (some ⟨b, off, none⟩)))
    (hy : ρ.ev y = some v) (hn : v.cells.toList.length = n) (hone : oneL v.cells.toList = true) (hl : Nat.ble (off + n) cs.toList.length = true) (hcs : setL cs.toList off v.cells.toList = cs')
    (hset : SetAt H b (.cells cs ty) (.cells cs'.toArray ty) H' := by repeat first | exact .head | apply SetAt.tail) : WrA X ρ H o fun u H'' => u = undef ∧ H'' = H' :=
  w_store hs ho hx hy hn hone hset (Nat.le_of_ble_eq_true hl) hcs
theorem Ls {x y : Operand} {t ty b off n : Nat} {cs : Array Value} {v : Value} {cs' : List Value} {H' : Heap} (hg : o.guard = none) (hs : tySize X.P t = some n) (ho : o.op = .store t x y) (hx : ρ.ev x = some (.pointer (some ⟨b, off, none⟩)))
    (hy : ρ.ev y = some v) (hn : v.cells.toList.length = n) (hone : oneL v.cells.toList = true) (hl : Nat.ble (off + n) cs.toList.length = true) (hcs : setL cs.toList off v.cells.toList = cs') (k : LL X ops l (ρ.put o.dst undef) ds H' Q)
    (hset : SetAt H b (.cells cs ty) (.cells cs'.toArray ty) H' := by repeat first | exact .head | apply SetAt.tail) : LL X ops (o :: l) ρ ds H Q :=
  L_go hg (X_wr (w_store hs ho hx hy hn hone hset (Nat.le_of_ble_eq_true hl) hcs) (by rintro _ _ ⟨rfl, rfl⟩; exact k))
end
section
variable {X : Cx} {l : List Oper} {pl : Plan} {E : List (Nat × Value)} {L : Array Bool} {ρ : PEnv} {ds : List Deferred} {H : Heap} {Q : Post}
theorem Dp {i : Nat} {o : Oper} {v : Value} (ho : l[i]? = some o) (hg : o.guard = none) (h : RdP X ρ o v) (k : DD X l pl E (L.setIfInBounds i true) (ρ.put o.dst v) ds H Q) : DD X l (.rd i pl) E L ρ ds H Q := D_p ho (.plain hg) h k
theorem Dr {i : Nat} {o : Oper} {v : Value} (ho : l[i]? = some o) (hg : o.guard = none) (h : RdA X ρ H o v) (k : DD X l pl ((i, v) :: E) (L.setIfInBounds i true) (ρ.put o.dst v) ds H Q) : DD X l (.rd i pl) E L ρ ds H Q := D_rd ho (.plain hg) h k
theorem Dm {i : Nat} {o : Oper} {x : Operand} {v : Value} (ho : l[i]? = some o) (hg : o.guard = none) (hp : o.op = .move x) (hx : ρ.ev x = some v) (k : DD X l pl E (L.setIfInBounds i true) (ρ.put o.dst v) ds H Q) : DD X l (.rd i pl) E L ρ ds H Q := D_p ho (.plain hg) (p_move hp hx) k
end
end Go.Vc

/- Calls that panic; ranges over functions that are left early, or by a panic. -/
set_option linter.all false
namespace Go.Vc

/-! ### contracts with panics -/

/-- It returns as R says, or panics as S says. -/
structure FnX (P : Program) (f : FuncId) (args : List Value) (w : World) (R : Value → World → Prop) (S : List PanicEntry → World → Prop) : Prop where
  ent : Ent P f
  calls : CallsIn (FW none) 0 P f args.toArray w fun e w' => (∃ v, e = .returned v ∧ R v w') ∨ ∃ ch, e = .panicked ch ∧ S ch w'

section
variable {P : Program} {f : FuncId} {args : List Value} {w : World}

theorem FnC.x {R : Value → World → Prop} {S : List PanicEntry → World → Prop} (h : FnC P f args w R) : FnX P f args w R S := ⟨h.ent, h.calls.mono fun _ _ h => .inl h⟩
theorem FnX.c {R : Value → World → Prop} (h : FnX P f args w R fun _ _ => False) : FnC P f args w R := ⟨h.ent, h.calls.mono fun _ _ h => h.elim id fun ⟨_, _, h⟩ => h.elim⟩
theorem FnX.mono {R R' : Value → World → Prop} {S S' : List PanicEntry → World → Prop} (h : FnX P f args w R S) (hr : ∀ v w', R v w' → R' v w') (hs : ∀ ch w', S ch w' → S' ch w') : FnX P f args w R' S' :=
  ⟨h.ent, h.calls.mono fun _ _ h => h.elim (fun ⟨v, e, r⟩ => .inl ⟨v, e, hr _ _ r⟩) fun ⟨ch, e, s⟩ => .inr ⟨ch, e, hs _ _ s⟩⟩
end

/-- A panic leaves: marks are cleared. -/
inductive LeaveP (S : Heap → Prop) : List Deferred → Heap → Prop
  | nil {H : Heap} (h : S H) : LeaveP S [] H
  | mark {D : Nat} {ds : List Deferred} {H H' : Heap} (hs : SetAt H D (.deferred (some [])) (.deferred none) H') (h : LeaveP S ds H') : LeaveP S ({ target := .collected D, args := #[] } :: ds) H

def RetX (P : Program) (rs : List ResultVar) (R : Value → Heap → Prop) (S : List PanicEntry → Heap → Prop) : Post := fun e ρ ds H => match e with
  | .normal => Leave P rs R ρ ds H
  | .ret => Leave P rs R ρ ds H
  | .panic ch => LeaveP (S ch) ds H
  | _ => False

theorem leave_leavesX {P : Program} {rs : List ResultVar} {R : Value → Heap → Prop} {S : List PanicEntry → Heap → Prop} {ρ : PEnv} {n : Nat} {w0 : World} {M : List Nat} {fn : Func} (hr : fn.results = rs.toArray) {a : Act} {ds0 : List Deferred} (ha : Agr n ρ ds0 a) :
    ∀ {ds : List Deferred} {H : Heap}, Leave P rs R ρ ds H → ∀ w, Good w0 M H w → LeavesInM (FW none) 0 P fn a.tmps (fun e w' => (∃ v, e = .returned v ∧ ∃ H, Good w0 M H w' ∧ R v H) ∨ ∃ ch, e = .panicked ch ∧ ∃ H, Good w0 M H w' ∧ S ch H) ds .returning w := by
  intro ds H h
  induction h with
  | nil h hR => exact fun w hg => ⟨_, results_run ha hg hr h, .inl ⟨_, rfl, _, hg, hR⟩⟩
  | mark hs h ih =>
    intro w hg
    refine ⟨by simp, .inl ⟨_, _, rfl, run_takeDeferred (hg.own _ hs.mem), ih _ (hg.set hs rfl ⟨rfl, rfl⟩)⟩⟩

theorem leaveP_leaves {P : Program} {R : Value → Heap → Prop} {S : List PanicEntry → Heap → Prop} {ch : List PanicEntry} {w0 : World} {M : List Nat} {fn : Func} {tmps : Array Value} :
    ∀ {ds : List Deferred} {H : Heap}, LeaveP (S ch) ds H → ∀ w, Good w0 M H w → LeavesInM (FW none) 0 P fn tmps (fun e w' => (∃ v, e = .returned v ∧ ∃ H, Good w0 M H w' ∧ R v H) ∨ ∃ ch, e = .panicked ch ∧ ∃ H, Good w0 M H w' ∧ S ch H) ds (.panicking ch) w := by
  intro ds H h
  induction h with
  | nil h => exact fun w hg => .inr ⟨_, rfl, _, hg, h⟩
  | mark hs h ih =>
    intro w hg
    refine ⟨by simp, .inl ⟨_, _, rfl, run_takeDeferred (hg.own _ hs.mem), ih _ (hg.set hs rfl ⟨rfl, rfl⟩)⟩⟩

/-- A function's contract from its body; it may panic; it may live on another's memory. -/
theorem fn_bodyX {P : Program} {f : FuncId} {fn : Func} {c : Code} {args : List Value} {w0 w : World} {M : List Nat} {H0 : Heap} {n : Nat} {rs : List ResultVar} {R : Value → Heap → Prop} {S : List PanicEntry → Heap → Prop}
    (hf : P.funcs[f]? = some fn) (hb : fn.body = some c) (hname : (fn.name == "runtime.NumGoroutine") = false) (hn : fn.ntmps = n) (hr : fn.results = rs.toArray) (hl : Nat.ble args.length n = true) (hg : Good w0 M H0 w)
    (h : V ⟨P, none, n, w0, M⟩ c (argEnv args 0) [] H0 (RetX P rs R S)) : FnX P f args w (fun v w' => ∃ H, Good w0 M H w' ∧ R v H) (fun ch w' => ∃ H, Good w0 M H w' ∧ S ch H) := by
  refine ⟨ent_of hf hname hb, callsIn_of_wp_marks hf hb trivial ?_⟩
  subst hn
  refine wpIn_mono (h _ w (entryAgr (Nat.le_of_ble_eq_true hl)) hg) ?_
  rintro e a w' ⟨ρ, ds, H, ha, hg', hq⟩
  cases e with
  | normal => rw [show bodyPostM (FW none) 0 P fn _ .normal a w' = LeavesInM _ _ _ _ _ _ _ _ _ from rfl, ha.defers]; exact leave_leavesX hr ha hq w' hg'
  | ret => rw [show bodyPostM (FW none) 0 P fn _ .ret a w' = LeavesInM _ _ _ _ _ _ _ _ _ from rfl, ha.defers]; exact leave_leavesX hr ha hq w' hg'
  | panic ch => rw [show bodyPostM (FW none) 0 P fn _ (.panic ch) a w' = LeavesInM _ _ _ _ _ _ _ _ _ from rfl, ha.defers]; exact leaveP_leaves hq w' hg'
  | _ => exact hq.elim

theorem fn_overX {P : Program} {f : FuncId} {fn : Func} {c : Code} {args : List Value} {w0 w : World} {M : List Nat} {H0 : Heap} {n : Nat} {rs : List ResultVar} {R : Value → Heap → Prop} {S : List PanicEntry → Heap → Prop}
    (hf : P.funcs[f]? = some fn) (hb : fn.body = some c) (hname : (fn.name == "runtime.NumGoroutine") = false) (hn : fn.ntmps = n) (hr : fn.results = rs.toArray) (hl : Nat.ble args.length n = true) (hg : Good w0 M H0 w)
    (h : V ⟨P, none, n, w0, M⟩ c (argEnv args 0) [] H0 (RetX P rs (fun v H => ∃ Hc, HSub Hc H ∧ R v Hc) (fun ch H => ∃ Hc, HSub Hc H ∧ S ch Hc))) :
    FnX P f args w (fun v w' => ∃ Hc, Good w0 M Hc w' ∧ R v Hc) (fun ch w' => ∃ Hc, Good w0 M Hc w' ∧ S ch Hc) :=
  (fn_bodyX hf hb hname hn hr hl hg h).mono (fun v w' ⟨_, hg, Hc, hs, hR⟩ => ⟨Hc, hg.hsub hs, hR⟩) (fun v w' ⟨_, hg, Hc, hs, hR⟩ => ⟨Hc, hg.hsub hs, hR⟩)

theorem fn_newX {P : Program} {f : FuncId} {fn : Func} {c : Code} {args : List Value} {w : World} {n : Nat} {rs : List ResultVar} {R : Value → Heap → Prop} {S : List PanicEntry → Heap → Prop}
    (hf : P.funcs[f]? = some fn) (hb : fn.body = some c) (hname : (fn.name == "runtime.NumGoroutine") = false) (hn : fn.ntmps = n) (hr : fn.results = rs.toArray) (hl : Nat.ble args.length n = true)
    (h : V ⟨P, none, n, w, []⟩ c (argEnv args 0) [] [] (RetX P rs (fun v H => ∃ Hc, HSub Hc H ∧ R v Hc) (fun ch H => ∃ Hc, HSub Hc H ∧ S ch Hc))) :
    FnX P f args w (fun v w' => ∃ Hc, Good w [] Hc w' ∧ R v Hc) (fun ch w' => ∃ Hc, Good w [] Hc w' ∧ S ch Hc) :=
  fn_overX hf hb hname hn hr hl (Good.start w) h

section
variable {X : Cx} {ρ : PEnv} {ds : List Deferred} {H : Heap} {Q : Post} {o : Oper} {ops : Array Oper} {l : List Oper}

/-- A call that may panic. -/
theorem X_callX {fo : Operand} {ags : Array Operand} {tys : Array TypeId} {f : FuncId} {cap : Array Value} {vs : List Value} {R : Value → Heap → Prop} {S : List PanicEntry → Heap → Prop} (ho : o.op = .call { callee := .value fo, args := ags, argTypes := tys })
    (hf : ρ.ev fo = some (.func (.func f) #[] cap)) (hv : evL ρ ags.toList = some vs)
    (h : ∀ w, Good X.w0 X.M H w → FnX X.P f (vs ++ cap.toList) w (fun v w' => ∃ H', Good X.w0 X.M H' w' ∧ R v H') (fun ch w' => ∃ H', Good X.w0 X.M H' w' ∧ S ch H'))
    (kp : ∀ ch H', S ch H' → Q (.panic ch) ρ ds H') (k : ∀ v H', R v H' → LL X ops l (ρ.put o.dst v) ds H' Q) : LX X ops o l ρ ds H Q := by
  intro hfit hd a w ha hg
  rw [semAt_of (fun c hc => by rw [ho] at hc; cases hc)]
  have hc := h w hg
  have hargs : ags.map a.eval = vs.toArray := Array.toList_inj.1 (by simp [evL_map ha.evs hv])
  have hrun : (execOp a.eval o).run X.P w = .ok (.enter f (vs ++ cap.toList).toArray) w := by
    have e1 : #[] ++ vs.toArray ++ cap = (vs ++ cap.toList).toArray := by simp
    simp only [execOp, ho, resolve, ha.evs _ _ hf, hargs, Deferred.ofValue, Sem.run_bind, Sem.run_pure, Result.andThen_ok, invoke, e1]
    exact hc.ent _ w
  rw [hrun]
  refine ⟨fun hd => (by simp [FW, Fence.wide] at hd), callsIn_any (hc.calls.mono ?_)⟩
  rintro e w' (⟨v, rfl, H', hg', hR⟩ | ⟨ch, rfl, H', hg', hS⟩)
  · exact k v H' hR hfit _ w' (ha.put (dstLt_iff hd) v) hg'
  exact ⟨ρ, ds, H', ha, hg', kp ch H' hS⟩

/-- panic(x) -/
theorem X_panic {x : Operand} {v : Value} (ho : o.op = .panic x) (hx : ρ.ev x = some v) (hnn : ∀ a w, Evs ρ a → (execOp a o).run X.P w = .halt (.panic v) w) (k : Q (.panic [{ v, recovered := false }]) ρ ds H) : LX X ops o l ρ ds H Q := by
  intro hfit hd a w ha hg
  rw [semAt_of (fun c hc => by rw [ho] at hc; cases hc), hnn _ w ha.evs]
  exact ⟨ρ, ds, H, ha, hg, k⟩

/-- A deferred call of a function. -/
theorem X_defer {fo : Operand} {tys : Array TypeId} {f : FuncId} {cap : Array Value} (hr : X.r = none) (ho : o.op = .defer { callee := .value fo, args := #[], argTypes := tys })
    (hf : ρ.ev fo = some (.func (.func f) #[] cap)) (k : LL X ops l (ρ.put o.dst undef) ({ target := .fn (.func f) cap, args := #[] } :: ds) H Q) : LX X ops o l ρ ds H Q := by
  intro hfit hd a w ha hg
  have hrun : (o.semAt X.r a.eval).run X.P w = .ok (.defer { target := .fn (.func f) cap, args := #[] }) w := by
    rw [hr, Oper.semAt_none]
    simp [execOp, ho, resolve, ha.evs _ _ hf, Deferred.ofValue]
  rw [hrun]
  refine k hfit _ w ?_ hg
  have h2 : Agr X.n ρ ({ target := .fn (.func f) cap, args := #[] } :: ds) { a with defers := { target := .fn (.func f) cap, args := #[] } :: a.defers } := ⟨ha.at_, ha.size, by rw [← ha.defers]⟩
  exact h2.put (dstLt_iff hd) undef
end

/-! ### ranges over functions -/

/-- The round's end: it goes on, or it ends the loop. -/
def EndX (l : Nat) (r : Loop) (K : Heap → Prop) (KE : Code → Heap → Prop) : Post := fun e _ _ H => match e with
  | .normal => ∃ H', SetAt H l (bsy r) (rdy r) H' ∧ K H'
  | .ret => ∃ H', SetAt H l (bsy r) (dne r .ret) H' ∧ KE .ret H'
  | .exit id => ∃ H', SetAt H l (bsy r) (dne r (.exit id)) H' ∧ KE (.exit id) H'
  | _ => False

/-- A call of yield, from outside: a round that goes on, or the last one. -/
def RoundX (P : Program) (w0 : World) (M : List Nat) (l : Nat) (Pre : List (List Value) → List Value → Prop) (I E : List (List Value) → Heap → Prop) : Prop :=
  ∀ done vs Hs own w, Pre done vs → I done Hs → Good w0 M (Hs ++ own) w → ∃ f tmps assign body, (Instr.yield l vs.toArray).run P w = .ok (.round l f tmps assign body) w ∧
    RoundIn (FW none) 0 P l f tmps assign body w fun e w' => ∃ Hs' go, e = .returned (.bool go) ∧ Good w0 M (Hs' ++ own) w' ∧ ((go = true ∧ I (done ++ [vs]) Hs') ∨ (go = false ∧ E (done ++ [vs]) Hs'))

section
variable {X : Cx} {ρ : PEnv} {ds : List Deferred} {H : Heap} {Q : Post} {o : Oper}

theorem w_yieldX {fo : Operand} {ags : Array Operand} {tys : Array TypeId} {l : Nat} {vs : List Value} {Pre : List (List Value) → List Value → Prop} {I E : List (List Value) → Heap → Prop} {done : List (List Value)} {Hs own : Heap}
    (ho : o.op = .call { callee := .value fo, args := ags, argTypes := tys }) (hf : ρ.ev fo = some (.func (.yield l) #[] #[])) (hv : evL ρ ags.toList = some vs) (hY : RoundX X.P X.w0 X.M l Pre I E) (hpre : Pre done vs) (hI : I done Hs)
    (hH : H = own ++ Hs) : WrA X ρ H o fun v H' => ∃ Hs' go, v = .bool go ∧ H' = own ++ Hs' ∧ ((go = true ∧ I (done ++ [vs]) Hs') ∨ (go = false ∧ E (done ++ [vs]) Hs')) := by
  subst hH
  refine ⟨fun c hc => (by rw [ho] at hc; cases hc), fun a w he hg => ?_⟩
  obtain ⟨f, tmps, assign, body, hrun, hround⟩ := hY done vs Hs own w hpre hI (hg.perm List.perm_append_comm)
  have hargs : ags.map a.eval = vs.toArray := Array.toList_inj.1 (by simp [evL_map he hv])
  have hex : (execOp a.eval o).run X.P w = .ok (.round l f tmps assign body) w := by
    simp only [execOp, ho, resolve, he _ _ hf, hargs, Deferred.ofValue, Sem.run_bind, Sem.run_pure, Result.andThen_ok, invoke, Array.empty_append, hrun]
  rw [hex]
  refine ⟨fun hd => (by simp [FW, Fence.wide] at hd), RoundIn.mono (hround : RoundIn (FW X.r) 0 X.P l f tmps assign body w _) ?_⟩
  rintro e w' ⟨Hs', go, rfl, hg', hI'⟩
  exact ⟨.bool go, own ++ Hs', rfl, hg'.perm List.perm_append_comm, Hs', go, rfl, rfl, hI'⟩

theorem roundX_of {l : Nat} {r : Loop} {ρ0 : PEnv} {ps : Array Tmp} {Pre : List (List Value) → List Value → Prop} {I E : List (List Value) → Heap → Prop} {EC : List (List Value) → Code → Heap → Prop} (htm : Agr X.n ρ0 [] { tmps := r.tmps, defers := [] }) (hps : r.params = ps) (hfit : ∀ t ∈ ps.toList, t < X.n)
    (hin : ∀ done Hs, I done Hs → (l, rdy r) ∈ Hs) (hlen : ∀ done vs, Pre done vs → vs.length = ps.size) (hE : ∀ done c Hs, EC done c Hs → E done Hs)
    (h : ∀ done vs Hs own, Pre done vs → I done Hs → V { X with r := some l } r.assign (bindP ps.toList vs ρ0) [] (Hs ++ own) (AsgQ { X with r := some l } l r r.body
      (EndX l r (fun H' => ∃ Hs', HSub (Hs' ++ own) H' ∧ I (done ++ [vs]) Hs') (fun c H' => ∃ Hs', HSub (Hs' ++ own) H' ∧ EC (done ++ [vs]) c Hs')))) :
    RoundX X.P X.w0 X.M l Pre I E := by
  intro done vs Hs own w hpre hI hg
  have hm : (l, rdy r) ∈ Hs ++ own := List.mem_append_left _ (hin done Hs hI)
  have hl := hg.own _ hm
  refine ⟨_, _, _, _, run_yield (r := { r with state := .ready, pending := none }) hl (by simp [hlen done vs hpre, hps]), ?_⟩
  refine roundIn_of_wpIn trivial ?_
  have hag : Agr X.n (bindP ps.toList vs ρ0) [] { tmps := (r.params.zip vs.toArray).foldl (fun tmps (x : Nat × Value) => match x with | (t, a) => tmps.setIfInBounds t a) r.tmps, defers := [] } := by
    have := agr_bind ps.toList vs hfit htm
    rw [hps]
    have e : (ps.zip vs.toArray) = (ps.toList.zip vs).toArray := by apply Array.toList_inj.1; simp
    rw [e]
    simpa using this
  refine wpIn_mono (h done vs Hs own hpre hI _ w hag hg) ?_
  rintro e a₁ w₁ ⟨ρ1, ds1, H1, hag1, hg1, hq⟩
  cases e <;> first | exact hq.elim | skip
  obtain ⟨H2, hset, hbody⟩ := hq
  have hl1 : w₁.heap[l]? = some (.loop { r with state := .ready, pending := none }) := hg1.own _ hset.mem
  refine ⟨_, run_beginRound hl1 rfl, ?_⟩
  have hg2 : Good X.w0 X.M H2 (w₁.putObj l (bsy r)) := hg1.set hset rfl ⟨rfl, rfl⟩
  refine wpIn_mono (hbody a₁ _ hag1 hg2) ?_
  rintro e a₂ w₂ ⟨ρ2, ds2, H3, hag3, hg3, hq⟩
  cases e <;> first | exact hq.elim | skip
  · obtain ⟨H4, hset2, Hs', hsub, hI'⟩ := hq
    have hl2 : w₂.heap[l]? = some (.loop { r with state := .busy, pending := none }) := hg3.own _ hset2.mem
    have hg4 : Good X.w0 X.M H4 (w₂.putObj l (rdy r)) := hg3.set hset2 rfl ⟨rfl, rfl⟩
    exact ⟨_, _, run_endRound none hl2, Hs', true, rfl, hg4.hsub hsub, .inl ⟨rfl, hI'⟩⟩
  · obtain ⟨H4, hset2, Hs', hsub, hI'⟩ := hq
    have hl2 : w₂.heap[l]? = some (.loop { r with state := .busy, pending := none }) := hg3.own _ hset2.mem
    rename_i id
    have hg4 : Good X.w0 X.M H4 (w₂.putObj l (dne r (.exit id))) := hg3.set hset2 rfl ⟨rfl, rfl⟩
    exact ⟨_, _, run_endRound (some (.exit id)) hl2, Hs', false, rfl, hg4.hsub hsub, .inr ⟨rfl, hE _ _ _ hI'⟩⟩
  obtain ⟨H4, hset2, Hs', hsub, hI'⟩ := hq
  have hl2 : w₂.heap[l]? = some (.loop { r with state := .busy, pending := none }) := hg3.own _ hset2.mem
  have hg4 : Good X.w0 X.M H4 (w₂.putObj l (dne r .ret)) := hg3.set hset2 rfl ⟨rfl, rfl⟩
  exact ⟨_, _, run_endRound (some .ret) hl2, Hs', false, rfl, hg4.hsub hsub, .inr ⟨rfl, hE _ _ _ hI'⟩⟩

theorem endX_n {l : Nat} {r : Loop} {K : Heap → Prop} {KE : Code → Heap → Prop} {H' : Heap} (hs : SetAt H l (bsy r) (rdy r) H') (h : K H') : EndX l r K KE .normal ρ ds H := ⟨H', hs, h⟩
theorem endX_r {l : Nat} {r : Loop} {K : Heap → Prop} {KE : Code → Heap → Prop} {H' : Heap} (hs : SetAt H l (bsy r) (dne r .ret) H') (h : KE .ret H') : EndX l r K KE .ret ρ ds H := ⟨H', hs, h⟩
theorem endX_e {l i : Nat} {r : Loop} {K : Heap → Prop} {KE : Code → Heap → Prop} {H' : Heap} (hs : SetAt H l (bsy r) (dne r (.exit i)) H') (h : KE (.exit i) H') : EndX l r K KE (.exit i) ρ ds H := ⟨H', hs, h⟩
theorem then_p {k : PEnv → List Deferred → Heap → Prop} {ch : List PanicEntry} (h : Q (.panic ch) ρ ds H) : Then k Q (.panic ch) ρ ds H := h
theorem blk_p {i : Nat} {ch : List PanicEntry} (h : Q (.panic ch) ρ ds H) : InBlock i Q (.panic ch) ρ ds H := h

/-- 'x[:]' of an array that lies in memory -/
theorem p_slArr {x : Operand} {t n size b off : Nat} (hs : arrOf X.P t = some (n, size)) (ho : o.op = .slice t x none none none) (hx : ρ.ev x = some (.pointer (some ⟨b, off, none⟩))) (hn : n ≠ 0) : RdP X ρ o (.slice (some ⟨b, off, none⟩) n n) := by
  refine ⟨fun c h => (by rw [ho] at h; cases h), fun e w he => ?_⟩
  unfold arrOf at hs
  cases hu : X.P.underlying t with
  | none => simp [hu] at hs
  | some d =>
    cases d with
    | array m el =>
      simp only [hu, Option.map_eq_some_iff] at hs
      obtain ⟨sz, hsz, e⟩ := hs
      injection e with e1 e2
      subst e1 e2
      simp [execOp, ho, he _ _ hx, Instr.sliceAt, run_underlying' hu, Instr.sureAddr, Instr.sliceBounds, run_sizeOf' hsz, hn, add_zero']
    | _ => simp [hu] at hs

abbrev LD (l D : Nat) (o : Obj) (Hr : Heap) : Heap := (l, o) :: (D, .deferred (some [])) :: Hr

/-- A range over a function: its rounds may leave it (by a return, or an exit), and the function may panic. Hi: what the function has for itself. -/
theorem V_rangeX {g : Operand} {ps : Array Tmp} {assign body : Code} {f : FuncId} {cap : Array Value} {ks : List Nat} {ρf : PEnv} {H0 Hi : Heap} (hr : X.r = none) (hk : Keep ρ ks ρf) (hgv : ρ.ev g = some (.func (.func f) #[] cap)) (hfit : ps.toList.all (Nat.blt · X.n) = true)
    (Pre : List (List Value) → List Value → Prop) (J : List (List Value) → Heap → Prop) (E : List (List Value) → Code → Heap → Prop) (Fin : List (List Value) → Prop) (Sp : List (List Value) → List PanicEntry → Prop)
    (hlen : ∀ done vs, Pre done vs → vs.length = ps.size) (hsub : (H0 ++ Hi).Sublist H) (h0 : J [] H0)
    (round : ∀ l D r done vs Hr own, Pre done vs → J done Hr → V { X with r := some l } assign (bindP ps.toList vs ρf) [] (LD l D (rdy r) (Hr ++ own))
      (AsgQ { X with r := some l } l r body (EndX l r (fun H' => ∃ Hr', HSub (LD l D (rdy r) (Hr' ++ own)) H' ∧ J (done ++ [vs]) Hr') (fun c H' => ∃ Hr', HSub (LD l D (dne r c) (Hr' ++ own)) H' ∧ E (done ++ [vs]) c Hr'))))
    (iter : ∀ l D r w, RoundX X.P X.w0 X.M l Pre (fun done Hs => ∃ Hr, Hs = LD l D (rdy r) Hr ∧ J done Hr) (fun done Hs => ∃ Hr c, Hs = LD l D (dne r c) Hr ∧ E done c Hr) → Good X.w0 X.M (LD l D (rdy r) (H0 ++ Hi)) w →
      FnX X.P f (.func (.yield l) #[] #[] :: cap.toList) w (fun _ w' => ∃ Hs, Good X.w0 X.M Hs w' ∧ ∃ done, (Fin done ∧ ∃ Hr, Hs = LD l D (rdy r) Hr ∧ J done Hr) ∨ ∃ Hr c, Hs = LD l D (dne r c) Hr ∧ E done c Hr)
        (fun ch w' => ∃ Hs, Good X.w0 X.M Hs w' ∧ ∃ done, Sp done ch ∧ ∃ Hr, Hs = LD l D (rdy r) Hr ∧ J done Hr))
    (k : ∀ l D ob done Hr, Fin done → J done Hr → Q .normal ρf ({ target := .collected D, args := #[] } :: ds) (LD l D ob Hr))
    (kE : ∀ l D ob done c Hr, E done c Hr → V X c ρf ({ target := .collected D, args := #[] } :: ds) (LD l D ob Hr) Q)
    (kP : ∀ l D ob done ch Hr, Sp done ch → J done Hr → Q (.panic ch) ρf ({ target := .collected D, args := #[] } :: ds) (LD l D ob Hr)) : V X (.rangeFunc g ps assign body) ρ ds H Q := by
  intro a w ha hg
  have hg0 := hg.sub hsub
  let D := w.heap.size
  let l := w.heap.size + 1
  refine wpIn_rangeFunc fun fn _ => ?_
  let r : Loop := { state := .ready, pending := none, fn := fn, tmps := a.tmps, params := ps, assign := assign, body := body, defers := D }
  have hga : Good X.w0 X.M (LD l D (rdy r) (H0 ++ Hi)) ((w.alloc (.deferred (some []))).alloc (.loop r)) := by
    have h1 := hg0.alloc (.deferred (some []))
    have h2 := h1.alloc (.loop r)
    have e : (w.alloc (.deferred (some []))).heap.size = w.heap.size + 1 := by simp
    rw [e] at h2
    exact h2
  have htm : Agr X.n ρf [] { tmps := r.tmps, defers := [] } := ⟨fun t v ht => (ha.sub hk.sub).at_ t v ht, ha.size, rfl⟩
  have hY : RoundX X.P X.w0 X.M l Pre (fun done Hs => ∃ Hr, Hs = LD l D (rdy r) Hr ∧ J done Hr) (fun done Hs => ∃ Hr c, Hs = LD l D (dne r c) Hr ∧ E done c Hr) := by
    refine roundX_of (ps := ps) (EC := fun done c Hs => ∃ Hr, Hs = LD l D (dne r c) Hr ∧ E done c Hr) htm rfl (fun t ht => Nat.le_of_ble_eq_true (List.all_eq_true.1 hfit t ht)) ?_ hlen ?_ ?_
    · rintro done Hs ⟨Hr, rfl, _⟩; exact .head _
    · rintro done c Hs ⟨Hr, rfl, hE⟩; exact ⟨Hr, c, rfl, hE⟩
    rintro done vs Hs own hp ⟨Hr, rfl, hJ⟩
    refine V.mono (round l D r done vs Hr own hp hJ) ?_
    intro e ρ1 ds1 H1 hq
    cases e <;> first | exact hq.elim | skip
    obtain ⟨H2, hs, hb⟩ := hq
    refine ⟨H2, hs, hb.mono ?_⟩
    intro e ρ2 ds2 H3 hq
    cases e <;> first | exact hq.elim | skip
    all_goals
      obtain ⟨H4, hs2, Hr', hh, hJ'⟩ := hq
      exact ⟨H4, hs2, _, hh, Hr', rfl, hJ'⟩
  have hc := iter l D r _ hY hga
  have hFr : (FW X.r).round = none := hr
  have h3 := ha.sub hk.sub
  have hag : Agr X.n ρf ({ target := .collected D, args := #[] } :: ds) { a with defers := [{ target := .collected D, args := #[] }] ++ a.defers } := ⟨h3.at_, h3.size, by show [({ target := .collected D, args := #[] } : Deferred)] ++ a.defers = _; rw [h3.defers]; rfl⟩
  refine ⟨l, [{ target := .collected D, args := #[] }], (w.alloc (.deferred (some []))).alloc (.loop r), { target := .fn (.func f) cap, args := #[.func (.yield l) #[] #[]] }, (w.alloc (.deferred (some []))).alloc (.loop r), f, (.func (.yield l) #[] #[] :: cap.toList).toArray, (w.alloc (.deferred (some []))).alloc (.loop r), ?_, ?_, fun _ _ => trivial, ?_, fun hd => (by simp [FW, Fence.wide] at hd), ?_⟩
  · rw [hFr]; exact run_enterLoop_outer fn a.tmps ps assign body
  · simp only [resolve, ha.ev hgv, Deferred.ofValue]
    simp [Act.eval]
  · have e : #[Value.func (.yield l) #[] #[]] ++ cap = (.func (.yield l) #[] #[] :: cap.toList).toArray := by simp
    show (callFunc f (#[Value.func (.yield l) #[] #[]] ++ cap)).run X.P _ = _
    rw [e]; exact hc.ent _ _
  refine callsIn_any (hc.calls.mono ?_)
  rintro e w' (⟨v, rfl, _, hg', done, h | ⟨Hr, c, rfl, hE⟩⟩ | ⟨ch, rfl, _, hg', done, hS, Hr, rfl, hJ⟩)
  · obtain ⟨hF, Hr, rfl, hJ⟩ := h
    have hl : w'.heap[l]? = some (.loop { r with state := .ready, pending := none }) := hg'.own _ (.head _)
    refine ⟨none, _, run_endLoop hl (by simp), ?_⟩
    exact ⟨ρf, _, _, hag, hg'.set .head rfl ⟨rfl, rfl⟩, k l D _ done Hr hF hJ⟩
  · have hl : w'.heap[l]? = some (.loop { r with state := .done, pending := some c }) := hg'.own _ (.head _)
    refine ⟨some c, _, run_endLoop hl (by simp), ?_⟩
    exact kE l D _ done c Hr hE _ _ hag (hg'.set .head rfl ⟨rfl, rfl⟩)
  exact ⟨ρf, _, _, hag, hg', kP l D _ done ch Hr hS hJ⟩
end
end Go.Vc

/- The memory of layer 5's program: rooms, picks, their maps. -/
set_option linter.all false
namespace Go.Tk
open Go.Vc

structure SliceN (w : World) (m size : Nat) (v : Value) (els : List (List Value)) : Prop where
  ex : ∃ a cap, v = .slice a els.length cap ∧ els.length ≤ cap ∧ ∀ i e, els[i]? = some e → ∃ b, a = some b ∧ b.block ≠ m ∧ cellsAt w (b.add (i * size)) e

theorem SliceN.good {w0 w : World} {m size : Nat} {H : Heap} {v : Value} {els : List (List Value)} (h : SliceN w0 m size v els) (hg : Vc.Good w0 [m] H w) : SliceN w m size v els := by
  obtain ⟨a, cap, hv, hl, hc⟩ := h.ex
  exact ⟨a, cap, hv, hl, fun i e hi => let ⟨b, hb, hm, hcb⟩ := hc i e hi; ⟨b, hb, hm, hg.cells hcb (by rw [Vc.add_block]; simpa using hm)⟩⟩

theorem SliceN.ext {w w' : World} {m size : Nat} {v : Value} {els : List (List Value)} (h : SliceN w m size v els) (he : Ext w w') : SliceN w' m size v els := by
  obtain ⟨a, cap, hv, hl, hc⟩ := h.ex
  exact ⟨a, cap, hv, hl, fun i e hi => let ⟨b, hb, hm, hcb⟩ := hc i e hi; ⟨b, hb, hm, he.cells hcb⟩⟩

theorem cellsAt.lt {w : World} {a : Addr} {v : Value} {vs : List Value} (h : cellsAt w a (v :: vs)) : a.block < w.heap.size := by
  have := h 0 v rfl
  have := World.block_lt_of_cell? w _ this
  rwa [Vc.add_block] at this

theorem SliceR.toN {w : World} {m size : Nat} {v : Value} {els : List (List Value)} (h : SliceR w size v els) (hne : ∀ e ∈ els, e ≠ []) (hm : w.heap.size ≤ m) : SliceN w m size v els := by
  obtain ⟨a, cap, hv, hl, hc⟩ := h.ex
  refine ⟨a, cap, hv, hl, fun i e hi => ?_⟩
  obtain ⟨b, hb, hcb⟩ := hc i e hi
  refine ⟨b, hb, ?_, hcb⟩
  cases e with
  | nil => exact absurd rfl (hne _ (List.mem_of_getElem? hi))
  | cons x e =>
    have := cellsAt.lt hcb
    rw [Vc.add_block] at this
    omega

/-- A pick at bp; its map is at bm. -/
structure PickR (w : World) (bp bm : Nat) (mv : Value) (t : Task) (ps : List Int) : Prop where
  good : GoodT t
  bnd : ∀ i ∈ ps, 0 ≤ i ∧ i < t.plots.length
  psl : ps.length ≤ 60
  ne : bp ≠ bm
  ex : ∃ tv pv sv ty fr, w.heap[bp]? = some (.cells #[.int .i64 t.frm, .int .i64 t.speed, .int .i64 t.accel, tv, pv, sv, mv] ty fr) ∧ SliceN w bm 6 tv (t.trackers.map Tracker.cells) ∧ SliceN w bm 5 pv (t.plots.map Plot.cells) ∧ SliceN w bm 1 sv (ps.map fun n => [.int .i64 n])

theorem PickR.good' {w0 w : World} {bp bm : Nat} {mv : Value} {t : Task} {ps : List Int} {H : Heap} (h : PickR w0 bp bm mv t ps) (hg : Vc.Good w0 [bm] H w) : PickR w bp bm mv t ps := by
  obtain ⟨tv, pv, sv, ty, fr, h1, h2, h3, h4⟩ := h.ex
  have hb : w.heap[bp]? = w0.heap[bp]? := hg.base bp (lt_of_some h1) (by simpa using h.ne)
  exact ⟨h.good, h.bnd, h.psl, h.ne, tv, pv, sv, ty, fr, hb.trans h1, h2.good hg, h3.good hg, h4.good hg⟩

theorem PickR.ext {w w' : World} {bp bm : Nat} {mv : Value} {t : Task} {ps : List Int} (h : PickR w bp bm mv t ps) (he : Ext w w') : PickR w' bp bm mv t ps := by
  obtain ⟨tv, pv, sv, ty, fr, h1, h2, h3, h4⟩ := h.ex
  exact ⟨h.good, h.bnd, h.psl, h.ne, tv, pv, sv, ty, fr, he.heap h1, h2.ext he, h3.ext he, h4.ext he⟩

/-! ### the cache -/

def Cache (t : Task) (ps : List Int) (es : Array MapEntry) : Prop :=
  ∃ l, MapIs es l ∧ ∀ p ∈ l, ∃ k u, p = ([ii k, ii u], Value.agg #[.int .i64 (placeT t ps k u).lo, .int .i64 (placeT t ps k u).hi])

theorem Cache.nil (t : Task) (ps : List Int) : Cache t ps #[] := ⟨[], MapIs.nil, fun p hp => by cases hp⟩

theorem Cache.add {t : Task} {ps : List Int} {es : Array MapEntry} {l : List (List Value × Value)} {k u : Int} {v : Value} (h : ∀ p ∈ l, ∃ k u, p = ([ii k, ii u], Value.agg #[.int .i64 (placeT t ps k u).lo, .int .i64 (placeT t ps k u).hi]))
    (hm : MapIs es (l ++ [([ii k, ii u], v)])) (hv : v = .agg #[.int .i64 (placeT t ps k u).lo, .int .i64 (placeT t ps k u).hi]) : Cache t ps es := by
  subst hv
  refine ⟨_, hm, fun p hp => ?_⟩
  rcases List.mem_append.1 hp with hp | hp
  · exact h p hp
  rw [List.mem_singleton] at hp; exact ⟨k, u, hp⟩

def Box.cells (b : Box) : List Value := [.int .i64 b.at_, .int .i64 b.x.lo, .int .i64 b.x.hi, .int .i64 b.y.lo, .int .i64 b.y.hi, .int .i64 b.z.lo, .int .i64 b.z.hi, .int .i64 b.vx.lo, .int .i64 b.vx.hi, .int .i64 b.vy.lo, .int .i64 b.vy.hi, .int .i64 b.vz.lo, .int .i64 b.vz.hi]
def boxZ : Box := ⟨0, ⟨0, 0⟩, ⟨0, 0⟩, ⟨0, 0⟩, ⟨0, 0⟩, ⟨0, 0⟩, ⟨0, 0⟩⟩
end Go.Tk

namespace Go.Vc
/-- A function that turns one block of its caller's. -/
theorem fn_mod {P : Program} {f : FuncId} {fn : Func} {c : Code} {args : List Value} {w : World} {b : Nat} {o : Obj} {n : Nat} {rs : List ResultVar} {R : Value → Obj → Prop}
    (hf : P.funcs[f]? = some fn) (hb : fn.body = some c) (hname : (fn.name == "runtime.NumGoroutine") = false) (hn : fn.ntmps = n) (hr : fn.results = rs.toArray) (hl : Nat.ble args.length n = true) (ho : w.heap[b]? = some o)
    (h : V ⟨P, none, n, w, [b]⟩ c (argEnv args 0) [] [(b, o)] (RetQ P rs fun v H => ∃ o', (b, o') ∈ H ∧ R v o')) : FnC P f args w fun v w' => ∃ o', Good w [b] [(b, o')] w' ∧ R v o' :=
  (fn_body (M := [b]) (H0 := [(b, o)]) hf hb hname hn hr hl (Good.startWith (H := [(b, o)]) (by simpa using ho) (by simp)) h).mono fun v w' ⟨H, hg, o', hm, hR⟩ =>
    ⟨o', hg.of_sub (by simpa using hm) (by simp), hR⟩

/-- A function that hands over new blocks. -/
theorem fn_new {P : Program} {f : FuncId} {fn : Func} {c : Code} {args : List Value} {w : World} {n : Nat} {rs : List ResultVar} {R : Value → Heap → Prop}
    (hf : P.funcs[f]? = some fn) (hb : fn.body = some c) (hname : (fn.name == "runtime.NumGoroutine") = false) (hn : fn.ntmps = n) (hr : fn.results = rs.toArray) (hl : Nat.ble args.length n = true)
    (h : V ⟨P, none, n, w, []⟩ c (argEnv args 0) [] [] (RetQ P rs fun v H => ∃ Hc, HSub Hc H ∧ R v Hc)) : FnC P f args w fun v w' => ∃ Hc, Good w [] Hc w' ∧ R v Hc :=
  (fn_body hf hb hname hn hr hl (Good.start w) h).mono fun v w' ⟨H, hg, Hc, hs, hR⟩ => ⟨Hc, hg.hsub hs, hR⟩

end Go.Vc

namespace Go.Tk
open Go.Vc

def iv (i : Int) : List Value := [.int .i64 i]
def knownV (t : Task) (now : Int) (n : Nat) : List (List Value) := (knownN t now n).map iv

theorem knownV_len {t : Task} {now : Int} {n : Nat} : (knownV t now n).length ≤ n := by
  have h := List.length_filter_le (knownB t now) (List.range n)
  simp only [knownV, knownN, List.length_map, List.length_range] at h ⊢
  exact h

theorem knownN_bnd {t : Task} {now : Int} {n : Nat} : ∀ i ∈ knownN t now n, 0 ≤ i ∧ i < n := by
  intro i hi
  obtain ⟨j, hj, rfl⟩ := List.mem_map.1 hi
  have := List.mem_range.1 (List.mem_filter.1 hj).1
  simp only [Int.ofNat_eq_natCast]
  omega

def iiL (l : List Int) : List Value := l.map fun i => Value.int .i64 i

end Go.Tk

namespace Go.Vc
theorem Good.uniq {w0 w : World} {M : List Nat} {H : Heap} (h : Good w0 M H w) {b : Nat} {o o' : Obj} (h1 : (b, o) ∈ H) (h2 : (b, o') ∈ H) : o = o' := by
  have e1 := h.own _ h1
  have e2 := h.own _ h2
  simp only at e1 e2
  rw [e1] at e2
  exact Option.some.inj e2

end Go.Vc

namespace Go.Tk
open Go.Vc

theorem TaskR.lit {w : World} {t : Task} {a b c : Int} {tv pv : Value} (h : TaskR w (.agg #[.int .i64 a, .int .i64 b, .int .i64 c, tv, pv]) t) :
    a = t.frm ∧ b = t.speed ∧ c = t.accel ∧ SliceR w 6 tv (t.trackers.map Tracker.cells) ∧ SliceR w 5 pv (t.plots.map Plot.cells) := by
  obtain ⟨tv', pv', e, htr, hpl⟩ := h.ex
  simp only [Value.agg.injEq, Array.mk.injEq, List.cons.injEq, Value.int.injEq, and_true, true_and] at e
  obtain ⟨rfl, rfl, rfl, rfl, rfl⟩ := e
  exact ⟨rfl, rfl, rfl, htr, hpl⟩

theorem byT_bnd {t : Task} {now : Int} {want : Int → Bool} : ∀ i ∈ byT t now want, 0 ≤ i ∧ i < t.plots.length := by
  intro i hi
  exact knownN_bnd i (List.mem_filter.1 hi).1
theorem byT_len {t : Task} {now : Int} {want : Int → Bool} : (byT t now want).length ≤ t.plots.length := by
  have h1 := List.length_filter_le (fun i : Int => want (t.pl i.toNat).tracker) (knownN t now t.plots.length)
  have h2 := knownV_len (t := t) (now := now) (n := t.plots.length)
  simp only [knownV, List.length_map] at h2
  unfold byT byN
  omega

theorem PickR.own {w0 w : World} {H G : Heap} {bp bm clk ty el : Nat} {t : Task} {now : Int} {want : Int → Bool} {tv pv sv : Value} {es : Array MapEntry} (hg : Vc.Good w0 [] H w) (hG : GoodT t) (hT : TaskR w0 (.agg #[.int .i64 t.frm, .int .i64 t.speed, .int .i64 t.accel, tv, pv]) t) (hbm : w0.heap.size ≤ bm)
    (h1 : (bp, Obj.cells #[.int .i64 t.frm, .int .i64 t.speed, .int .i64 t.accel, tv, pv, sv, .map (some bm)] ty) ∈ H) (h2 : (bm, Obj.map es clk) ∈ H) (h3 : ∀ p ∈ G, p ∈ H) (hgr : Grow el 1 sv (byT t now want).length (iiL (byT t now want)) G) :
    PickR w bp bm (.map (some bm)) t (byT t now want) := by
  obtain ⟨tv', pv', e, htr, hpl⟩ := hT.ex
  simp only [Value.agg.injEq, Array.mk.injEq, List.cons.injEq, and_true, true_and] at e
  obtain ⟨rfl, rfl⟩ := e
  have hsz : w0.heap.size ≤ w.heap.size := hg.size
  have toN : ∀ {size : Nat} {v : Value} {els : List (List Value)}, SliceR w0 size v els → (∀ e ∈ els, e ≠ []) → SliceN w bm size v els := by
    intro size v els h hne
    exact (h.toN hne hbm).ext hg.toExt
  refine ⟨hG, byT_bnd, Nat.le_trans byT_len hG.h2, ?_, tv, pv, sv, ty, _, hg.own _ h1, toN htr (by intro e he; obtain ⟨x, _, rfl⟩ := List.mem_map.1 he; simp [Tracker.cells]), toN hpl (by intro e he; obtain ⟨x, _, rfl⟩ := List.mem_map.1 he; simp [Plot.cells]), ?_⟩
  · rintro rfl
    have := hg.uniq h1 h2
    cases this
  generalize hps : byT t now want = ps at hgr
  generalize hn : ps.length = n at hgr
  generalize hxs : iiL ps = xs at hgr
  cases hgr with
  | nil =>
    have e1 := hn
    refine ⟨none, 0, ?_, ?_, ?_⟩
    · rw [List.length_map, e1]
    · rw [List.length_map, e1]; exact Nat.le_refl _
    intro i e hi
    have : ps = [] := List.eq_nil_of_length_eq_zero e1
    rw [this] at hi; simp at hi
  | row q1 q2 q3 q4 q5 =>
    rename_i b cap cur
    have hm := h3 (b, .cells cur el) (.head _)
    refine ⟨_, _, by rw [List.length_map, hn], by rw [List.length_map, hn]; exact q1, fun i e hi => ⟨_, rfl, ?_, ?_⟩⟩
    · intro h
      simp only at h
      subst h
      have := hg.uniq hm h2
      cases this
    intro j v hj
    rw [List.getElem?_map] at hi
    cases hx : ps[i]? with
    | none => rw [hx] at hi; cases hi
    | some x =>
      rw [hx] at hi
      simp only [Option.map_some, Option.some.injEq] at hi
      subst hi
      cases j with
      | succ j => simp at hj
      | zero =>
        simp only [List.getElem?_cons_zero, Option.some.injEq] at hj
        subst hj
        rw [add_none, add_none, own_cell (hg.own _ hm)]
        have h4 : xs[i]? = some (Value.int .i64 x) := by rw [← hxs, iiL, List.getElem?_map, hx]; rfl
        rw [← q4, List.getElem?_take] at h4
        split at h4
        · simpa using h4
        cases h4

def othersV (t : Task) (u now : Int) (n : Nat) : List (Int × Box) := (List.range n).filterMap fun (i : Nat) => (boxT t (byT t now (fun x => decide (x ≠ (i : Int)))) u).map fun b => ((i : Int), b)
theorem othersV_yes {t : Task} {u now k : Int} {b : Box} (hk : 0 ≤ k) (h : boxT t (byT t now (fun x => decide (x ≠ k))) u = some b) : othersV t u now (k + 1).toNat = othersV t u now k.toNat ++ [(k, b)] := by
  have e : (k + 1).toNat = k.toNat + 1 := by omega
  have e2 : ((k.toNat : Nat) : Int) = k := Int.toNat_of_nonneg hk
  rw [e, othersV, List.range_succ, List.filterMap_append]
  simp only [List.filterMap_cons, List.filterMap_nil, e2, h, Option.map_some]
  rfl
theorem othersV_no {t : Task} {u now k : Int} (hk : 0 ≤ k) (h : boxT t (byT t now (fun x => decide (x ≠ k))) u = none) : othersV t u now (k + 1).toNat = othersV t u now k.toNat := by
  have e : (k + 1).toNat = k.toNat + 1 := by omega
  have e2 : ((k.toNat : Nat) : Int) = k := Int.toNat_of_nonneg hk
  rw [e, othersV, List.range_succ, List.filterMap_append]
  simp only [List.filterMap_cons, List.filterMap_nil, e2, h, Option.map_none, List.append_nil]
  rfl

end Go.Tk

/- The plain part of layer 2 (flights): what its functions compute. -/
set_option linter.all false
namespace Go.Fl
open Go.Vc Go.Tk

structure AirE where
  frm : Int
  dens : Int
structure Ax where
  x : Span
  y : Span
  z : Span
  deriving DecidableEq
structure Phase where
  ticks : Int
  thrust : Span
  mass : Span
  drag : Span
  tilt : Ax
structure Piece where
  name : ByteArray
  at_ : Int
  mass : Span
  drag : Span
  kick : Ax
  floor : Int
structure Veh where
  name : ByteArray
  gravity : Span
  air : List AirE
  phases : List Phase
  pieces : List Piece
structure Dir where
  x : Int
  y : Int
  z : Int
structure Band where
  frm : Int
  to : Int
  x : Span
  y : Span
structure St where
  p : Ax
  v : Ax
  deriving DecidableEq
structure Imp where
  piece : Int
  x : Span
  y : Span
  at_ : Span
  deriving DecidableEq
structure Pt where
  x : Int
  y : Int
  z : Int
  vx : Int
  vy : Int
  vz : Int
  deriving DecidableEq

abbrev axV (a : Ax) : List Value := [.int .i64 a.x.lo, .int .i64 a.x.hi, .int .i64 a.y.lo, .int .i64 a.y.hi, .int .i64 a.z.lo, .int .i64 a.z.hi]
def AirE.cells (a : AirE) : List Value := [.int .i64 a.frm, .int .i64 a.dens]
def Phase.cells (p : Phase) : List Value := [.int .i64 p.ticks, .int .i64 p.thrust.lo, .int .i64 p.thrust.hi, .int .i64 p.mass.lo, .int .i64 p.mass.hi, .int .i64 p.drag.lo, .int .i64 p.drag.hi,
  .int .i64 p.tilt.x.lo, .int .i64 p.tilt.x.hi, .int .i64 p.tilt.y.lo, .int .i64 p.tilt.y.hi, .int .i64 p.tilt.z.lo, .int .i64 p.tilt.z.hi]
def Piece.cells (p : Piece) : List Value := [.string p.name, .int .i64 p.at_, .int .i64 p.mass.lo, .int .i64 p.mass.hi, .int .i64 p.drag.lo, .int .i64 p.drag.hi,
  .int .i64 p.kick.x.lo, .int .i64 p.kick.x.hi, .int .i64 p.kick.y.lo, .int .i64 p.kick.y.hi, .int .i64 p.kick.z.lo, .int .i64 p.kick.z.hi, .int .i64 p.floor]
def Band.cells (b : Band) : List Value := [.int .i64 b.frm, .int .i64 b.to, .int .i64 b.x.lo, .int .i64 b.x.hi, .int .i64 b.y.lo, .int .i64 b.y.hi]
def St.cells (s : St) : List Value := [.int .i64 s.p.x.lo, .int .i64 s.p.x.hi, .int .i64 s.p.y.lo, .int .i64 s.p.y.hi, .int .i64 s.p.z.lo, .int .i64 s.p.z.hi, .int .i64 s.v.x.lo, .int .i64 s.v.x.hi, .int .i64 s.v.y.lo, .int .i64 s.v.y.hi, .int .i64 s.v.z.lo, .int .i64 s.v.z.hi]
def Imp.cells (i : Imp) : List Value := [.int .i64 i.piece, .int .i64 i.x.lo, .int .i64 i.x.hi, .int .i64 i.y.lo, .int .i64 i.y.hi, .int .i64 i.at_.lo, .int .i64 i.at_.hi]
def Pt.cells (p : Pt) : List Value := [.int .i64 p.x, .int .i64 p.y, .int .i64 p.z, .int .i64 p.vx, .int .i64 p.vy, .int .i64 p.vz]

def airZ : AirE := ⟨0, 0⟩
def spZ : Span := ⟨0, 0⟩
def axZ : Ax := ⟨⟨0, 0⟩, ⟨0, 0⟩, ⟨0, 0⟩⟩
def phZ : Phase := ⟨0, ⟨0, 0⟩, ⟨0, 0⟩, ⟨0, 0⟩, axZ⟩
def pcZ : Piece := ⟨ByteArray.empty, 0, ⟨0, 0⟩, ⟨0, 0⟩, axZ, 0⟩
def bdZ : Band := ⟨0, 0, ⟨0, 0⟩, ⟨0, 0⟩⟩
def stZ : St := ⟨axZ, axZ⟩
def imZ : Imp := ⟨0, ⟨0, 0⟩, ⟨0, 0⟩, ⟨0, 0⟩⟩
def ptZ : Pt := ⟨0, 0, 0, 0, 0, 0⟩

/-! ### checks -/

def beyond (s : Span) (lo hi : Int) : Bool := decide (s.lo < lo) || (decide (hi < s.hi) || decide (s.hi < s.lo))
theorem beyond_false {s : Span} {lo hi : Int} : beyond s lo hi = false ↔ lo ≤ s.lo ∧ s.lo ≤ s.hi ∧ s.hi ≤ hi := by
  simp only [beyond, Bool.or_eq_false_iff, decide_eq_false_iff_not]; omega
def wideA (a : Ax) (m : Int) : Bool := beyond a.x (-m) m || (beyond a.y (-m) m || beyond a.z (-m) m)
def heavyB (mass drag : Span) : Bool := beyond mass 1 100000 || beyond drag 0 1000
def farS (s : St) : Bool := wideA s.p 2000000000 || wideA s.v 1000000

def Veh.ar (v : Veh) (i : Nat) : AirE := v.air.getD i airZ
def Veh.ph (v : Veh) (i : Nat) : Phase := v.phases.getD i phZ
def Veh.pc (v : Veh) (i : Nat) : Piece := v.pieces.getD i pcZ

def errAir (v : Veh) (i : Nat) : Int :=
  if (i = 0 ∧ (v.ar i).frm ≠ 0) ∨ (0 < i ∧ (v.ar i).frm ≤ (v.ar (i - 1)).frm) then 2 else if 2000000000 < (v.ar i).frm ∨ oP (v.ar i).dens 0 1000 = true then 7 else 0
def phBad (p : Phase) : Bool := oP p.ticks 1 3000 || (beyond p.thrust 0 2000000 || (heavyB p.mass p.drag || wideA p.tilt 2000))
def errPh (v : Veh) (i : Nat) : Int := if phBad (v.ph i) = true then 7 else 0
def dupPc (v : Veh) (i : Nat) : Bool := anyIdx (fun j => decide ((v.pc j).name = (v.pc i).name)) i
def pcBad (p : Piece) : Bool := oP p.at_ 1 3000 || (heavyB p.mass p.drag || (wideA p.kick 1000000 || oP p.floor 0 2000000000))
def errPc (v : Veh) (i : Nat) : Int := if nameOk (v.pc i).name = false then 6 else if dupPc v i = true then 5 else if pcBad (v.pc i) = true then 7 else 0

def checkV (v : Veh) : Int × Int × Int :=
  if nameOk v.name = false then (1, 0, 6) else if beyond v.gravity 0 200 = true then (1, 0, 7) else if v.air.length > 20 then (2, 0, 3)
  else match firstErr (errAir v) 0 v.air.length with
    | some (i, e) => (2, i, e)
    | none => if oP v.phases.length 1 12 = true then (3, 0, 3) else match firstErr (errPh v) 0 v.phases.length with
      | some (i, e) => (3, i, e)
      | none => if v.pieces.length > 6 then (4, 0, 3) else match firstErr (errPc v) 0 v.pieces.length with
        | some (i, e) => (4, i, e)
        | none => (0, 0, 0)

def dirE (d : Dir) : Int :=
  if oP d.x (-10000) 10000 = true ∨ oP d.y (-10000) 10000 = true ∨ oP d.z 1 10000 = true then 7
  else if oP (d.x * d.x + d.y * d.y + d.z * d.z) 99800100 100200100 = true then 2 else 0

def bdAt (l : List Band) (i : Nat) : Band := l.getD i bdZ
/-- where band i has to begin -/
def begB (l : List Band) (i : Nat) : Int := if i = 0 then 0 else (bdAt l (i - 1)).to
def stormB (b : Band) : Bool := oP b.x.lo (-20000) 20000 || (oP b.x.hi (-20000) 20000 || (oP b.y.lo (-20000) 20000 || oP b.y.hi (-20000) 20000)) || (decide (b.x.hi < b.x.lo) || decide (b.y.hi < b.y.lo))
def errBd (l : List Band) (i : Nat) : Int :=
  if (bdAt l i).frm ≠ begB l i then 2 else if oP (bdAt l i).to (begB l i + 1) 100000000 = true ∨ stormB (bdAt l i) = true then 7 else 0
def checkB (l : List Band) : Int × Int := if oP l.length 1 20 = true then (0, 3) else match firstErr (errBd l) 0 l.length with
  | some (i, e) => (i, e)
  | none => (0, 0)

def askedF (v : Veh) (d : Dir) (l : List Band) : Int := if (checkV v).2.2 ≠ 0 then (checkV v).2.2 else if dirE d ≠ 0 then dirE d else (checkB l).2

/-! ### spans -/

def at1 (n : Int) : Span := ⟨n, n⟩
def addS (a b : Span) : Span := ⟨a.lo + b.lo, a.hi + b.hi⟩
def subS (a b : Span) : Span := ⟨a.lo - b.hi, a.hi - b.lo⟩
def mulS (a b : Span) : Span := ⟨min (min (min (a.lo * b.lo) (a.lo * b.hi)) (a.hi * b.lo)) (a.hi * b.hi), max (max (max (a.lo * b.lo) (a.lo * b.hi)) (a.hi * b.lo)) (a.hi * b.hi)⟩
def hullS (a b : Span) : Span := ⟨min a.lo b.lo, max a.hi b.hi⟩
def sqLo (s : Span) : Int := max (max 0 s.lo) (-s.hi)
def sqHi (s : Span) : Int := max (-s.lo) s.hi
def sqS (s : Span) : Span := ⟨sqLo s * sqLo s, sqHi s * sqHi s⟩
def divS (s mass : Span) (n : Int) : Span := ⟨s.lo / ((if 0 < s.lo then mass.hi else mass.lo) * n), -((-s.hi) / ((if s.hi < 0 then mass.hi else mass.lo) * n))⟩
def rootB (n : Int) : Nat → Int → Int → Int
  | 0, lo, _ => lo
  | k + 1, lo, hi => if hi - lo > 1 then (if (lo + hi) / 2 ≤ n / ((lo + hi) / 2) then rootB n k ((lo + hi) / 2) hi else rootB n k lo ((lo + hi) / 2)) else lo
def rootI (n : Int) : Int := rootB n 32 0 4000000000
def rootUp (n : Int) : Int := if rootI n * rootI n < n then rootI n + 1 else rootI n
def rootS (s : Span) : Span := ⟨rootI s.lo, rootUp s.hi⟩

def addA (a b : Ax) : Ax := ⟨addS a.x b.x, addS a.y b.y, addS a.z b.z⟩
def subA (a b : Ax) : Ax := ⟨subS a.x b.x, subS a.y b.y, subS a.z b.z⟩
def hullA (a b : Ax) : Ax := ⟨hullS a.x b.x, hullS a.y b.y, hullS a.z b.z⟩

/-! ### winds and air -/

def addO (acc : Option Ax) (a : Ax) : Option Ax := match acc with
  | none => some a
  | some b => some (hullA b a)
def skipI (z : Span) (frm : List Int) (n i : Nat) : Bool := decide (0 < i ∧ z.hi < frm.getD i 0) || decide (i + 1 < n ∧ frm.getD (i + 1) 0 - 1 < z.lo)
def someN (z : Span) (frm : List Int) (of : List Ax) : Nat → Option Ax
  | 0 => none
  | i + 1 => if skipI z frm of.length i = true then someN z frm of i else addO (someN z frm of i) (of.getD i axZ)
def someT (z : Span) (frm : List Int) (of : List Ax) : Ax := (someN z frm of of.length).getD axZ

def bdFrm (l : List Band) : List Int := if l.length = 0 then [] else l.map Band.frm ++ [(bdAt l (l.length - 1)).to]
def bdOf (l : List Band) : List Ax := if l.length = 0 then [] else l.map (fun b => ⟨b.x, b.y, spZ⟩) ++ [axZ]
def windsT (l : List Band) (z : Span) : Ax := someT z (bdFrm l) (bdOf l)
def arFrm (v : Veh) : List Int := v.air.map AirE.frm
def arOf (v : Veh) : List Ax := v.air.map fun a => ⟨at1 a.dens, spZ, spZ⟩
def airT (v : Veh) (z : Span) : Span := (someT z (arFrm v) (arOf v)).x

/-! ### flights -/

def phaseN : List Phase → Int → Option Phase
  | [], _ => none
  | p :: ps, t => if t < p.ticks then some p else phaseN ps (t - p.ticks)
def lastPh (v : Veh) : Phase := ⟨(v.ph (v.phases.length - 1)).ticks, spZ, (v.ph (v.phases.length - 1)).mass, (v.ph (v.phases.length - 1)).drag, axZ⟩
def nowT (v : Veh) (tick : Int) : Phase := (phaseN v.phases tick).getD (lastPh v)

def relA (l : List Band) (s : St) : Ax := subA s.v (windsT l s.p.z)
def speedS (w : Ax) : Span := rootS (addS (addS (addS (at1 0) (sqS w.x)) (sqS w.y)) (sqS w.z))
def dragS (v : Veh) (drag : Span) (s : St) (w : Ax) : Span := mulS (mulS drag (airT v s.p.z)) (speedS w)
def pushS (p : Phase) : Span := mulS p.thrust (at1 10)
def axisS (push drag mass : Span) (d : Int) (tilt w : Span) : Span := subS (divS (mulS push (addS (at1 d) tilt)) mass 10000) (divS (mulS drag w) mass 1000000000)
def forceW (v : Veh) (d : Dir) (p : Phase) (w : Ax) (drag : Span) : Ax :=
  ⟨axisS (pushS p) drag p.mass d.x p.tilt.x w.x, axisS (pushS p) drag p.mass d.y p.tilt.y w.y, subS (axisS (pushS p) drag p.mass d.z p.tilt.z w.z) v.gravity⟩
def forceT (v : Veh) (d : Dir) (l : List Band) (p : Phase) (s : St) : Ax := forceW v d p (relA l s) (dragS v p.drag s (relA l s))

def nextS (s : St) (f : Ax) : St := ⟨addA s.p (addA s.v f), addA s.v f⟩
def runT (v : Veh) (d : Dir) (l : List Band) (of : Nat → Phase) (s : St) : Nat → St
  | 0 => s
  | n + 1 => nextS (runT v d l of s n) (forceT v d l (of n) (runT v d l of s n))
def stT (v : Veh) (d : Dir) (l : List Band) : Nat → St := runT v d l (fun n => nowT v n) stZ
def pcPh (x : Piece) : Phase := ⟨0, spZ, x.mass, x.drag, axZ⟩
def kickS (s : St) (k : Ax) : St := ⟨s.p, addA s.v k⟩
def pcT (v : Veh) (d : Dir) (l : List Band) (x : Piece) : Nat → St := runT v d l (fun _ => pcPh x) (kickS (stT v d l x.at_.toNat) x.kick)
def anyFar (f : Nat → St) (n : Nat) : Bool := (List.range (n + 1)).any fun t => farS (f t)
def rowS (f : Nat → St) (n : Nat) : List St := (List.range (n + 1)).map f

def flyE (v : Veh) (d : Dir) (l : List Band) (n : Int) : Int := if askedF v d l ≠ 0 then askedF v d l else if oP n 0 3000 = true then 7 else if anyFar (stT v d l) n.toNat = true then 3 else 0
def flyL (v : Veh) (d : Dir) (l : List Band) (n : Int) : List St := if flyE v d l n ≠ 0 then [] else rowS (stT v d l) n.toNat
def pieceE (v : Veh) (d : Dir) (l : List Band) (i n : Int) : Int :=
  if askedF v d l ≠ 0 then askedF v d l else if oP i 0 (v.pieces.length - 1) = true then 4 else if oP n 0 (3000 - (v.pc i.toNat).at_) = true then 7
  else if anyFar (stT v d l) (v.pc i.toNat).at_.toNat = true ∨ anyFar (pcT v d l (v.pc i.toNat)) n.toNat = true then 3 else 0
def pieceL (v : Veh) (d : Dir) (l : List Band) (i n : Int) : List St := if pieceE v d l i n ≠ 0 then [] else rowS (pcT v d l (v.pc i.toNat)) n.toNat

/-- a state is watched: what is known of the impact, and whether all is down -/
def watchT (frm floor : Int) (x : Imp) (t : Nat) (s : St) : Imp × Bool :=
  if t = 0 ∨ (x.at_.lo = 0 ∧ floor < s.p.z.lo) then (x, false)
  else if 0 < x.at_.lo then (⟨x.piece, hullS s.p.x x.x, hullS s.p.y x.y, ⟨x.at_.lo, frm + t⟩⟩, decide (s.p.z.hi ≤ floor))
  else (⟨x.piece, s.p.x, s.p.y, ⟨frm + t, frm + t⟩⟩, decide (s.p.z.hi ≤ floor))
/-- n more ticks may be looked at -/
def impN (f : Nat → St) (frm floor : Int) : Nat → Nat → Imp → Imp × Int
  | 0, t, x => if farS (f t) = true then (imZ, 3) else if (watchT frm floor x t (f t)).2 = true then ((watchT frm floor x t (f t)).1, 0) else (imZ, 9)
  | n + 1, t, x => if farS (f t) = true then (imZ, 3) else if (watchT frm floor x t (f t)).2 = true then ((watchT frm floor x t (f t)).1, 0) else impN f frm floor n (t + 1) (watchT frm floor x t (f t)).1
def impT (v : Veh) (d : Dir) (l : List Band) (i : Nat) : Imp × Int :=
  if i < v.pieces.length then
    if anyFar (stT v d l) (v.pc i).at_.toNat = true then (imZ, 3) else impN (pcT v d l (v.pc i)) (v.pc i).at_ (v.pc i).floor (3000 - (v.pc i).at_).toNat 0 ⟨i, spZ, spZ, spZ⟩
  else impN (stT v d l) 0 0 3000 0 ⟨i, spZ, spZ, spZ⟩
def impsN (v : Veh) (d : Dir) (l : List Band) : Nat → Int
  | 0 => 0
  | n + 1 => if impsN v d l n ≠ 0 then impsN v d l n else (impT v d l n).2
def impsE (v : Veh) (d : Dir) (l : List Band) : Int := if askedF v d l ≠ 0 then askedF v d l else impsN v d l (v.pieces.length + 1)
def impsL (v : Veh) (d : Dir) (l : List Band) : List Imp := if impsE v d l ≠ 0 then [] else (List.range (v.pieces.length + 1)).map fun i => (impT v d l i).1

/-! ### paths -/

def ptS (p : Pt) : St := ⟨⟨at1 p.x, at1 p.y, at1 p.z⟩, ⟨at1 p.vx, at1 p.vy, at1 p.vz⟩⟩
def ptAt (l : List Pt) (i : Nat) : Pt := l.getD i ptZ
def strayE (l : List Pt) : Int := if oP l.length 1 3001 = true then 3 else if l.any (fun p => farS (ptS p)) = true then 7 else 0
def hasS (s : Span) (n : Int) : Bool := !(oP n s.lo s.hi)
def goesB (f : Ax) (p q : Pt) : Bool := hasS f.x (q.vx - p.vx) && (hasS f.y (q.vy - p.vy) && (hasS f.z (q.vz - p.vz) && (decide (q.x = p.x + q.vx) && (decide (q.y = p.y + q.vy) && decide (q.z = p.z + q.vz)))))
def downI (l : List Pt) (floor : Int) : Int := firstIdx (fun t => decide ((ptAt l (t + 1)).z ≤ floor)) 0 (l.length - 1)
def downE (l : List Pt) (floor : Int) : Int := if strayE l ≠ 0 then strayE l else if oP floor 0 2000000000 = true then 7 else if downI l floor < 0 then 9 else 0

/-! ### how great numbers are -/

def SpB (B : Int) (s : Span) : Prop := -B ≤ s.lo ∧ s.lo ≤ s.hi ∧ s.hi ≤ B

theorem mul_abs {a b A B : Int} (hA : 0 ≤ A) (ha : -A ≤ a ∧ a ≤ A) (hb : -B ≤ b ∧ b ≤ B) : -(A * B) ≤ a * b ∧ a * b ≤ A * B := by
  have hB : 0 ≤ B := by omega
  rcases Int.le_total 0 a with h | h <;> rcases Int.le_total 0 b with k | k
  · have := mul_bnd (show 0 ≤ a ∧ a ≤ A by omega) (show 0 ≤ b ∧ b ≤ B by omega); omega
  · have := mul_bnd (show 0 ≤ a ∧ a ≤ A by omega) (show 0 ≤ -b ∧ -b ≤ B by omega); rw [Int.mul_neg] at this; omega
  · have := mul_bnd (show 0 ≤ -a ∧ -a ≤ A by omega) (show 0 ≤ b ∧ b ≤ B by omega); rw [Int.neg_mul] at this; omega
  have := mul_bnd (show 0 ≤ -a ∧ -a ≤ A by omega) (show 0 ≤ -b ∧ -b ≤ B by omega); rw [Int.neg_mul_neg] at this; omega

theorem mulS_le (a b : Span) : (mulS a b).lo ≤ (mulS a b).hi := by unfold mulS; dsimp only; omega
theorem mulS_bnd {a b : Span} {A B : Int} (ha : SpB A a) (hb : SpB B b) : SpB (A * B) (mulS a b) := by
  obtain ⟨a1, a2, a3⟩ := ha
  obtain ⟨b1, b2, b3⟩ := hb
  have hA : 0 ≤ A := by omega
  have h1 := mul_abs hA (show -A ≤ a.lo ∧ a.lo ≤ A by omega) (show -B ≤ b.lo ∧ b.lo ≤ B by omega)
  have h2 := mul_abs hA (show -A ≤ a.lo ∧ a.lo ≤ A by omega) (show -B ≤ b.hi ∧ b.hi ≤ B by omega)
  have h3 := mul_abs hA (show -A ≤ a.hi ∧ a.hi ≤ A by omega) (show -B ≤ b.lo ∧ b.lo ≤ B by omega)
  have h4 := mul_abs hA (show -A ≤ a.hi ∧ a.hi ≤ A by omega) (show -B ≤ b.hi ∧ b.hi ≤ B by omega)
  refine ⟨?_, mulS_le a b, ?_⟩ <;> (unfold mulS; dsimp only; omega)
theorem addS_bnd {a b : Span} {A B : Int} (ha : SpB A a) (hb : SpB B b) : SpB (A + B) (addS a b) := by
  obtain ⟨a1, a2, a3⟩ := ha
  obtain ⟨b1, b2, b3⟩ := hb
  unfold SpB addS; dsimp only; omega
theorem subS_bnd {a b : Span} {A B : Int} (ha : SpB A a) (hb : SpB B b) : SpB (A + B) (subS a b) := by
  obtain ⟨a1, a2, a3⟩ := ha
  obtain ⟨b1, b2, b3⟩ := hb
  unfold SpB subS; dsimp only; omega
theorem SpB.mono {s : Span} {A B : Int} (h : SpB A s) (hAB : A ≤ B) : SpB B s := by
  obtain ⟨a1, a2, a3⟩ := h
  unfold SpB; omega

end Go.Fl

/- Layer 5: what is done with boxes. -/
set_option linter.all false
namespace Go.Tk
open Go.Vc

/-! ### boxes -/

def wideB (b : Box) : Int := max (max (b.x.hi - b.x.lo) (b.y.hi - b.y.lo)) (b.z.hi - b.z.lo)
def meetS (a b : Span) : Bool := decide (a.lo ≤ b.hi) && decide (b.lo ≤ a.hi)
def meetB (a b : Box) : Bool := meetS a.x b.x && (meetS a.y b.y && (meetS a.z b.z && (meetS a.vx b.vx && (meetS a.vy b.vy && meetS a.vz b.vz))))
structure BoxB (B : Int) (b : Box) : Prop where
  x : SpanB B b.x
  y : SpanB B b.y
  z : SpanB B b.z

end Go.Tk

/- Layer 5: spare boxes, and the best source. -/
set_option linter.all false
namespace Go.Tk
open Go.Vc

def joinS (a b : Span) : Span := ⟨min a.lo b.lo, max a.hi b.hi⟩
def joinB (a b : Box) : Box := ⟨a.at_, joinS a.x b.x, joinS a.y b.y, joinS a.z b.z, joinS a.vx b.vx, joinS a.vy b.vy, joinS a.vz b.vz⟩
def addB (acc : Option Box) (b : Box) : Option Box := match acc with
  | none => some b
  | some a => some (joinB a b)
def foldB (l : List (Int × Box)) : Option Box := l.foldl (fun acc p => addB acc p.2) none
theorem foldB_snoc (l : List (Int × Box)) (p : Int × Box) : foldB (l ++ [p]) = addB (foldB l) p.2 := by simp [foldB]
def spareT (t : Task) (u now : Int) : Option Box := if t.trackers.length = 0 then boxT t (byT t now fun _ => true) u else foldB (othersV t u now t.trackers.length)

end Go.Tk

namespace Go.Tk
open Go.Vc

theorem SliceR.nil (w : World) (size : Nat) : SliceR w size (.slice none 0 0) [] := ⟨none, 0, rfl, Nat.le_refl _, fun i e h => by simp at h⟩

theorem PickR.box {w0 w : World} {H : Heap} {bp ty : Nat} {t : Task} {tv pv : Value} (hg : Vc.Good w0 [] H w) (hG : GoodT t) (hT : TaskR w0 (.agg #[.int .i64 t.frm, .int .i64 t.speed, .int .i64 t.accel, tv, pv]) t)
    (h1 : (bp, Obj.cells #[.int .i64 t.frm, .int .i64 t.speed, .int .i64 t.accel, tv, pv, .slice none 0 0, .map none] ty) ∈ H) : PickR w bp w.heap.size (.map none) t [] := by
  obtain ⟨_, _, _, htr, hpl⟩ := hT.lit
  have toN : ∀ {size : Nat} {v : Value} {els : List (List Value)}, SliceR w0 size v els → (∀ e ∈ els, e ≠ []) → SliceN w w.heap.size size v els := fun h hne => (h.ext hg.toExt).toN hne (Nat.le_refl _)
  refine ⟨hG, fun i hi => (by cases hi), Nat.zero_le _, ?_, tv, pv, _, ty, _, hg.own _ h1, toN htr (by intro e he; obtain ⟨x, _, rfl⟩ := List.mem_map.1 he; simp [Tracker.cells]), toN hpl (by intro e he; obtain ⟨x, _, rfl⟩ := List.mem_map.1 he; simp [Plot.cells]), ?_⟩
  · have := hg.lt h1
    simp only at this
    omega
  exact ⟨none, 0, rfl, Nat.le_refl _, fun i e h => by simp at h⟩

end Go.Tk

/- Layer 5: rows of an owned block as a slice; the example's task. -/
set_option linter.all false
namespace Go.Tk
open Go.Vc

theorem flat_at {α : Type} {size : Nat} : ∀ (els : List (List α)) (i j : Nat) (e : List α), (∀ e ∈ els, e.length = size) → els[i]? = some e → j < size → els.flatten[i * size + j]? = e[j]? := by
  intro els
  induction els with
  | nil => intro i j e _ h; simp at h
  | cons a els ih =>
    intro i j e hs h hj
    have ha := hs a (.head _)
    rw [List.flatten_cons]
    cases i with
    | zero =>
      simp only [List.getElem?_cons_zero, Option.some.injEq] at h
      subst h
      rw [Nat.zero_mul, Nat.zero_add, List.getElem?_append_left (by omega)]
    | succ i =>
      simp only [List.getElem?_cons_succ] at h
      rw [List.getElem?_append_right (by rw [ha, Nat.add_mul]; omega), ha, show (i + 1) * size + j - size = i * size + j by rw [Nat.add_mul]; omega]
      exact ih i j e (fun x hx => hs x (.tail _ hx)) h hj

theorem own_rows {w : World} {b n cap ty size : Nat} {cells : Array Value} {fr : Nat × Nat} {els : List (List Value)} (h : w.heap[b]? = some (.cells cells ty fr)) (hc : cells = els.flatten.toArray) (hs : ∀ e ∈ els, e.length = size) (hn : n = els.length) (hcap : n ≤ cap) :
    SliceR w size (.slice (some ⟨b, 0, none⟩) n cap) els := by
  subst hn hc
  refine ⟨some ⟨b, 0, none⟩, cap, rfl, hcap, fun i e hi => ⟨_, rfl, fun j v hj => ?_⟩⟩
  have hjl : j < size := by rw [← hs e (List.mem_of_getElem? hi)]; exact (List.getElem?_eq_some_iff.1 hj).1
  rw [add_none, add_none, own_cell h, Nat.zero_add, List.toList_toArray, flat_at els i j e hs hi hjl]
  exact hj

end Go.Tk

/- Layer 5: lists that are returned; the reference's ways to reckon. -/
set_option linter.all false
namespace Go.Tk
open Go.Vc

theorem asked_ok {t : Task} {l : List Int} (h : (checkT t).2.2 = 0) (h2 : (l.any fun n => oP n 0 100000) = false) : askedT t l = 0 := by rw [askedT, if_neg (fun a => by rw [h2] at a; cases a.2), h]

/-! ### lists that are returned -/

theorem Grow.slice {el n : Nat} {v : Value} {xs : List Int} {G : Heap} (h : Grow el 1 v n (iiL xs) G) {w : World} (hg : ∀ p ∈ G, w.heap[p.1]? = some p.2) : SliceR w 1 v (xs.map fun n => [Value.int .i64 n]) := by
  obtain ⟨a, cap, rfl, hc, hl, hx⟩ := h.cells hg
  have hn : n = xs.length := by rw [iiL, List.length_map] at hl; omega
  subst hn
  refine ⟨a, cap, by simp, by simpa using hc, fun i e hi => ?_⟩
  rw [List.getElem?_map] at hi
  cases hi' : xs[i]? with
  | none => rw [hi'] at hi; cases hi
  | some x =>
    rw [hi'] at hi
    simp only [Option.map_some, Option.some.injEq] at hi
    subst hi
    obtain ⟨b, hb, hv⟩ := hx i (.int .i64 x) (by rw [iiL, List.getElem?_map, hi']; rfl)
    refine ⟨b, hb, fun j v hj => ?_⟩
    cases j with
    | succ j => simp at hj
    | zero =>
      simp only [List.getElem?_cons_zero, Option.some.injEq] at hj
      subst hj
      rw [Nat.mul_one, add_zero']
      exact hv

/-! ### pairs -/
def foundP (o : Option Box) : Box × Int := (o.getD boxZ, if o.isSome then 0 else 9)
def spareP (t : Task) (u now : Int) : Box × Int := if askedT t [u, now] ≠ 0 then (boxZ, askedT t [u, now]) else foundP (spareT t u now)
end Go.Tk

/- Layer 5: one tracker's box, the best source, who may fail; boxes ahead. -/
set_option linter.all false
namespace Go.Tk
open Go.Vc

/-! ### one tracker alone -/
section
variable {t : Task} {tr u now : Int}
end

/-! ### the best source -/
def bestStep (p : Int × Int) (i : Int) (o : Option Box) (s : Box) : Int × Int := match o with
  | none => p
  | some b => if meetB b s = true ∧ (p.1 < 0 ∨ wideB b < p.2) then (i, wideB b) else p
def ownT (t : Task) (u now : Int) (i : Int) : Option Box := boxT t (byT t now fun x => decide (x = i)) u
def bestN (t : Task) (s : Box) (u now : Int) : Nat → Int × Int
  | 0 => (-1, 0)
  | n + 1 => bestStep (bestN t s u now n) n (ownT t u now n) s
def bestP (t : Task) (u now : Int) : Int × Int :=
  if (spareP t u now).2 ≠ 0 then (0, (spareP t u now).2) else if (bestN t (spareP t u now).1 u now t.trackers.length).1 < 0 then (0, 4) else ((bestN t (spareP t u now).1 u now t.trackers.length).1, 0)
theorem Grow.form {el size n : Nat} {v : Value} {xs : List Value} {G : Heap} (h : Grow el size v n xs G) : ∃ a c, v = .slice a n c := by
  cases h with
  | nil => exact ⟨none, 0, rfl⟩
  | row => exact ⟨_, _, rfl⟩

/-! ### who may fail -/
/-! ### a box's check, and boxes ahead -/
def spanBad (m : Int) (s : Span) : Bool := oP s.lo (-m) m || oP s.hi (-m) m || decide (s.hi < s.lo)
def checkB (b : Box) : Int := if (oP b.at_ 0 100000 || spanBad 2000000000 b.x || spanBad 2000000000 b.y || spanBad 2000000000 b.z || spanBad 1000000 b.vx || spanBad 1000000 b.vy || spanBad 1000000 b.vz) = true then 7 else 0

end Go.Tk

/- Layer 5: how the reference reckons boxes. -/
set_option linter.all false
namespace Go.Tk
open Go.Vc

end Go.Tk

namespace Go.Tk
open Go.Vc
end Go.Tk

/- Layer 5: boxes are not empty; spare boxes as the reference reckons them. -/
set_option linter.all false
namespace Go.Tk
open Go.Vc

/-- no span of the box is empty -/
structure BoxNe (b : Box) : Prop where
  x : b.x.lo ≤ b.x.hi
  y : b.y.lo ≤ b.y.hi
  z : b.z.lo ≤ b.z.hi
  vx : b.vx.lo ≤ b.vx.hi
  vy : b.vy.lo ≤ b.vy.hi
  vz : b.vz.lo ≤ b.vz.hi

theorem none_false {s : Span} (h : s.none = false) : s.lo ≤ s.hi := by
  simp only [Span.none, decide_eq_false_iff_not] at h; omega
theorem boxT_parts {t : Task} {ps : List Int} {u : Int} {b : Box} (h : boxT t ps u = some b) : ∃ p0 p1 p2, partT t ps 0 u = some p0 ∧ partT t ps 1 u = some p1 ∧ partT t ps 2 u = some p2 ∧ b = ⟨u, p0.1, p1.1, p2.1, p0.2, p1.2, p2.2⟩ := by
  unfold boxT at h
  cases h0 : partT t ps 0 u with
  | none => rw [h0] at h; cases h
  | some p0 =>
    cases h1 : partT t ps 1 u with
    | none => rw [h0, Option.bind_some, h1] at h; cases h
    | some p1 =>
      cases h2 : partT t ps 2 u with
      | none => rw [h0, Option.bind_some, h1, Option.bind_some, h2] at h; cases h
      | some p2 =>
        rw [h0, Option.bind_some, h1, Option.bind_some, h2] at h
        simp only [Option.bind_some, Option.some.injEq] at h
        exact ⟨p0, p1, p2, rfl, rfl, rfl, h.symm⟩
theorem foldB_yes {t : Task} {u now k : Int} {b : Box} (hk : 0 ≤ k) (h : boxT t (byT t now (fun x => decide (x ≠ k))) u = some b) : foldB (othersV t u now (k + 1).toNat) = addB (foldB (othersV t u now k.toNat)) b := by
  rw [othersV_yes hk h, foldB_snoc]
theorem foldB_no {t : Task} {u now k : Int} (hk : 0 ≤ k) (h : boxT t (byT t now (fun x => decide (x ≠ k))) u = none) : foldB (othersV t u now (k + 1).toNat) = foldB (othersV t u now k.toNat) := by
  rw [othersV_no hk h]
end Go.Tk

/- Layer 5: with less that binds, no box becomes less. -/
set_option linter.all false
namespace Go.Tk
open Go.Vc

/-- a span within another one, by its ends -/
def InS (a b : Span) : Prop := b.lo ≤ a.lo ∧ a.hi ≤ b.hi
theorem InS.none {a b : Span} (h : InS a b) (ha : a.none = false) : b.none = false := by
  have := none_false ha
  simp only [Span.none, decide_eq_false_iff_not]
  have := h.1; have := h.2; omega
structure InB (a b : Box) : Prop where
  at_ : a.at_ = b.at_
  x : InS a.x b.x
  y : InS a.y b.y
  z : InS a.z b.z
  vx : InS a.vx b.vx
  vy : InS a.vy b.vy
  vz : InS a.vz b.vz

/-- what binds (t', ps') binds (t, ps) no less -/
structure Binds (t : Task) (ps : List Int) (t' : Task) (ps' : List Int) : Prop where
  frm : t.frm = t'.frm
  speed : t.speed ≤ t'.speed
  accel : 0 ≤ t.accel ∧ t.accel ≤ t'.accel
  reach : ∀ n, 0 ≤ n → reachT t n ≤ reachT t' n
  plots : ∀ i' ∈ ps', ∃ i ∈ ps, ∀ k u, InS (plotS t k u i) (plotS t' k u i')

theorem fold_in {t : Task} {k u : Int} : ∀ (l : List Int) (s : Span), InS (l.foldl (fun s i => common s (plotS t k u i)) s) s ∧ ∀ i ∈ l, InS (l.foldl (fun s i => common s (plotS t k u i)) s) (plotS t k u i) := by
  intro l
  induction l with
  | nil => intro s; exact ⟨⟨Int.le_refl _, Int.le_refl _⟩, fun i h => by cases h⟩
  | cons i l ih =>
    intro s
    obtain ⟨h1, h2⟩ := ih (common s (plotS t k u i))
    simp only [List.foldl_cons]
    have hc : InS (common s (plotS t k u i)) s ∧ InS (common s (plotS t k u i)) (plotS t k u i) := by
      simp only [InS, common]; omega
    have tr : ∀ {a b c : Span}, InS a b → InS b c → InS a c := fun p q => ⟨Int.le_trans q.1 p.1, Int.le_trans p.2 q.2⟩
    refine ⟨tr h1 hc.1, fun j hj => ?_⟩
    rcases List.mem_cons.1 hj with rfl | hj
    · exact tr h1 hc.2
    exact h2 j hj
theorem fold_out {t : Task} {k u : Int} {a : Span} : ∀ (l : List Int) (s : Span), InS a s → (∀ i ∈ l, InS a (plotS t k u i)) → InS a (l.foldl (fun s i => common s (plotS t k u i)) s) := by
  intro l
  induction l with
  | nil => intro s h _; exact h
  | cons i l ih =>
    intro s h hp
    refine ih _ ?_ (fun j hj => hp j (.tail _ hj))
    have h2 := hp i (.head _)
    simp only [InS, common] at h h2 ⊢; omega

theorem place_mono {t t' : Task} {ps ps' : List Int} (h : Binds t ps t' ps') (k u : Int) : InS (placeT t ps k u) (placeT t' ps' k u) := by
  unfold placeT
  rw [h.frm]
  split
  · rename_i hu
    have hr := h.reach (u - t.frm) (by rw [h.frm]; omega)
    obtain ⟨h1, h2⟩ := fold_in (t := t) (k := k) (u := u) ps (room0 (min 2000000000 (reachT t (u - t.frm))))
    refine fold_out _ _ ?_ (fun i' hi' => ?_)
    · have : InS (placeN t ps k u) (room0 (min 2000000000 (reachT t (u - t.frm)))) := h1
      rw [← h.frm]
      simp only [InS, room0] at this ⊢; omega
    obtain ⟨i, hi, hin⟩ := h.plots i' hi'
    have a := h2 i hi
    have b := hin k u
    exact ⟨Int.le_trans b.1 a.1, Int.le_trans a.2 b.2⟩
  exact ⟨Int.le_refl _, Int.le_refl _⟩

theorem gone_mono {s s' : Span} {lo hi lo' hi' j : Int} (hj : 0 < j) (hs : InS s s') (hl : lo' ≤ lo) (hh : hi ≤ hi') : InS (goneS s lo hi j) (goneS s' lo' hi' j) := by
  have h1 := Int.ediv_le_ediv hj (show -lo ≤ -lo' by omega)
  have h2 := Int.ediv_le_ediv hj hh
  simp only [InS, goneS] at hs ⊢; omega
theorem more_mono {t t' : Task} (h : 0 ≤ t.accel ∧ t.accel ≤ t'.accel) {j : Int} (hj : 1 ≤ j) : moreB t j ≤ moreB t' j ∧ moreF t j ≤ moreF t' j := by
  have h1 : 0 ≤ (j * (j + 1)).tdiv 2 := Int.tdiv_nonneg (Int.mul_nonneg (by omega) (by omega)) (by omega)
  have h2 : 0 ≤ (j * (j - 1)).tdiv 2 := Int.tdiv_nonneg (Int.mul_nonneg (by omega) (by omega)) (by omega)
  exact ⟨Int.mul_le_mul_of_nonneg_right h.2 h1, Int.mul_le_mul_of_nonneg_right h.2 h2⟩

theorem fastB_mono {t t' : Task} {ps ps' : List Int} (h : Binds t ps t' ps') {k u j : Int} (hj : 1 ≤ j) {s s' r : Span} (hs : InS s s') (hr : fastB t ps k u j s = some r) : ∃ r', fastB t' ps' k u j s' = some r' ∧ InS r r' := by
  unfold fastB at hr ⊢
  rw [← h.frm]
  split at hr
  · rename_i hf
    rw [if_pos hf]
    split at hr
    · cases hr
    rename_i hn
    cases hr
    have hp := place_mono h k u
    have hv := place_mono h k (u - j)
    have hne := hv.none (by cases hh : (placeT t ps k (u - j)).none <;> simp_all)
    rw [if_neg (by rw [hne]; decide)]
    have hm := (more_mono h.accel hj).1
    exact ⟨_, rfl, gone_mono (by omega) hs (by have := hp.1; have := hv.2; omega) (by have := hp.2; have := hv.1; omega)⟩
  rename_i hf
  rw [if_neg hf]
  cases hr
  exact ⟨_, rfl, hs⟩
theorem fastF_mono {t t' : Task} {ps ps' : List Int} (h : Binds t ps t' ps') {k u j : Int} (hj : 1 ≤ j) {s s' r : Span} (hs : InS s s') (hr : fastF t ps k u j s = some r) : ∃ r', fastF t' ps' k u j s' = some r' ∧ InS r r' := by
  unfold fastF at hr ⊢
  split at hr
  · rename_i hf
    rw [if_pos hf]
    split at hr
    · cases hr
    rename_i hn
    cases hr
    have hp := place_mono h k u
    have hv := place_mono h k (u + j)
    have hne := hv.none (by cases hh : (placeT t ps k (u + j)).none <;> simp_all)
    rw [if_neg (by rw [hne]; decide)]
    have hm := (more_mono h.accel hj).2
    exact ⟨_, rfl, gone_mono (by omega) hs (by have := hp.2; have := hv.1; omega) (by have := hp.1; have := hv.2; omega)⟩
  rename_i hf
  rw [if_neg hf]
  cases hr
  exact ⟨_, rfl, hs⟩
theorem fastN_mono {t t' : Task} {ps ps' : List Int} (h : Binds t ps t' ps') {k u : Int} (hu : t.frm ≤ u) : ∀ n {r : Span}, fastN t ps k u n = some r → ∃ r', fastN t' ps' k u n = some r' ∧ InS r r' := by
  intro n
  induction n with
  | zero =>
    intro r hr
    simp only [fastN, Option.some.injEq] at hr
    subst hr
    refine ⟨_, rfl, ?_⟩
    have h1 := h.speed
    have h2 := Int.mul_le_mul_of_nonneg_right h.accel.2 (show 0 ≤ u - t.frm + 1 by omega)
    rw [← h.frm]
    simp only [InS, room0]; omega
  | succ n ih =>
    intro r hr
    simp only [fastN] at hr ⊢
    cases h0 : fastN t ps k u n with
    | none => rw [h0] at hr; cases hr
    | some a =>
      rw [h0, Option.bind_some] at hr
      obtain ⟨a', e0, i0⟩ := ih h0
      cases h1 : fastB t ps k u (n + 1) a with
      | none => rw [h1] at hr; cases hr
      | some b =>
        rw [h1, Option.bind_some] at hr
        obtain ⟨b', e1, i1⟩ := fastB_mono h (by omega) i0 h1
        obtain ⟨c', e2, i2⟩ := fastF_mono h (by omega) i1 hr
        exact ⟨c', by rw [e0, Option.bind_some, e1, Option.bind_some, e2], i2⟩
theorem fastT_mono {t t' : Task} {ps ps' : List Int} (h : Binds t ps t' ps') {k u : Int} {r : Span} (hr : fastT t ps k u = some r) : ∃ r', fastT t' ps' k u = some r' ∧ InS r r' := by
  unfold fastT at hr ⊢
  rw [← h.frm]
  split at hr
  · rename_i hu
    rw [if_pos hu]
    cases hr
    exact ⟨_, rfl, Int.le_refl _, Int.le_refl _⟩
  rename_i hu
  rw [if_neg hu]
  cases h0 : fastN t ps k u 8 with
  | none => rw [h0] at hr; cases hr
  | some a =>
    rw [h0, Option.bind_some] at hr
    obtain ⟨a', e0, i0⟩ := fastN_mono h (by omega) 8 h0
    split at hr
    · cases hr
    rename_i hn
    cases hr
    have hne := i0.none (by cases hh : r.none <;> simp_all)
    refine ⟨a', ?_, i0⟩
    rw [e0, Option.bind_some, if_neg (by rw [hne]; decide)]
theorem partT_mono {t t' : Task} {ps ps' : List Int} (h : Binds t ps t' ps') {k u : Int} {r : Span × Span} (hr : partT t ps k u = some r) : ∃ r', partT t' ps' k u = some r' ∧ InS r.1 r'.1 ∧ InS r.2 r'.2 := by
  unfold partT at hr ⊢
  cases h0 : fastT t ps k u with
  | none => rw [h0] at hr; cases hr
  | some a =>
    rw [h0, Option.bind_some] at hr
    obtain ⟨a', e0, i0⟩ := fastT_mono h h0
    split at hr
    · cases hr
    rename_i hn
    cases hr
    have hp := place_mono h k u
    have hne := hp.none (by cases hh : (placeT t ps k u).none <;> simp_all)
    refine ⟨(placeT t' ps' k u, a'), ?_, hp, i0⟩
    rw [e0, Option.bind_some, if_neg (by rw [hne]; decide)]
theorem box_mono {t t' : Task} {ps ps' : List Int} (h : Binds t ps t' ps') {u : Int} {b : Box} (hb : boxT t ps u = some b) : ∃ b', boxT t' ps' u = some b' ∧ InB b b' := by
  obtain ⟨p0, p1, p2, h0, h1, h2, rfl⟩ := boxT_parts hb
  obtain ⟨q0, e0, i0, j0⟩ := partT_mono h h0
  obtain ⟨q1, e1, i1, j1⟩ := partT_mono h h1
  obtain ⟨q2, e2, i2, j2⟩ := partT_mono h h2
  exact ⟨_, boxT_3 e0 e1 e2, rfl, i0, i1, i2, j0, j1, j2⟩

theorem InS.anti {a b : Span} (h : InS a b) (h2 : InS b a) : a = b := by
  obtain ⟨a1, a2⟩ := a
  obtain ⟨b1, b2⟩ := b
  simp only [InS] at h h2
  simp only [Span.mk.injEq]; omega
theorem InB.anti {a b : Box} (h : InB a b) (h2 : InB b a) : a = b := by
  have e1 := h.x.anti h2.x
  have e2 := h.y.anti h2.y
  have e3 := h.z.anti h2.z
  have e4 := h.vx.anti h2.vx
  have e5 := h.vy.anti h2.vy
  have e6 := h.vz.anti h2.vz
  have e0 := h.at_
  cases a; cases b
  simp_all
theorem InB.refl (a : Box) : InB a a := ⟨rfl, ⟨Int.le_refl _, Int.le_refl _⟩, ⟨Int.le_refl _, Int.le_refl _⟩, ⟨Int.le_refl _, Int.le_refl _⟩, ⟨Int.le_refl _, Int.le_refl _⟩, ⟨Int.le_refl _, Int.le_refl _⟩, ⟨Int.le_refl _, Int.le_refl _⟩⟩
theorem InS.trans {a b c : Span} (p : InS a b) (q : InS b c) : InS a c := ⟨Int.le_trans q.1 p.1, Int.le_trans p.2 q.2⟩
theorem InB.trans {a b c : Box} (p : InB a b) (q : InB b c) : InB a c := ⟨p.at_.trans q.at_, p.x.trans q.x, p.y.trans q.y, p.z.trans q.z, p.vx.trans q.vx, p.vy.trans q.vy, p.vz.trans q.vz⟩
/-- tasks that are bound alike have the same boxes -/
theorem box_same {t t' : Task} {ps ps' : List Int} (h : Binds t ps t' ps') (h2 : Binds t' ps' t ps) (u : Int) : boxT t ps u = boxT t' ps' u := by
  cases hb : boxT t ps u with
  | some b =>
    obtain ⟨b', e, i⟩ := box_mono h hb
    obtain ⟨b2, e2, i2⟩ := box_mono h2 e
    rw [hb] at e2; cases e2
    rw [e, i.anti i2]
  | none =>
    cases hb' : boxT t' ps' u with
    | none => rfl
    | some b' =>
      obtain ⟨b2, e2, _⟩ := box_mono h2 hb'
      rw [hb] at e2; cases e2

theorem joinB_in {a b c : Box} (h : InB a b) : InB a (joinB b c) := by
  obtain ⟨h0, h1, h2, h3, h4, h5, h6⟩ := h
  refine ⟨h0, ?_, ?_, ?_, ?_, ?_, ?_⟩ <;> (simp only [InS, joinB, joinS] at *; omega)
/-! ### if all agree -/
structure AgreeS (t : Task) (u now : Int) (b : Box) : Prop where
  others : ∀ k : Nat, k < t.trackers.length → (boxT t (byT t now (fun x => decide (x ≠ (k : Int)))) u).isSome = true
  own : ∀ k, ∃ a, ownT t u now k = some a ∧ InB b a
  spare : ∃ s, spareT t u now = some s ∧ InB b s

/-! ### rows that grew, opened -/
theorem Grow.form2 {el size n c : Nat} {a : Option Addr} {xs : List Value} {G : Heap} (h : Grow el size (.slice a n c) n xs G) (hn : 0 < n) : ∃ b cur, a = some ⟨b, 0, none⟩ ∧ G = [(b, .cells cur el)] ∧ cur.toList.take (n * size) = xs ∧ cur.size = c * size ∧ n ≤ c ∧ c ≤ maxLen := by
  cases h with
  | nil => omega
  | row h1 h2 h3 h4 h5 => exact ⟨_, _, rfl, rfl, h4, h3, h1, h2⟩
end Go.Tk

/- Roots, squares, quotients; what grows with what (plain). -/
set_option linter.all false
namespace Go.Fl
open Go.Vc Go.Tk

/-! ### roots -/

def IsRoot (n r : Int) : Prop := 0 ≤ r ∧ r * r ≤ n ∧ n < (r + 1) * (r + 1)

theorem sq_le {a b : Int} (h : 0 ≤ a) (h2 : a ≤ b) : a * a ≤ b * b := Int.mul_le_mul h2 h2 h (by omega)
theorem sq_lt_iff {a b : Int} (ha : 0 ≤ a) (hb : 0 ≤ b) (h : a * a < b * b) : a < b := by
  rcases Int.lt_or_le a b with h' | h'
  · exact h'
  have := sq_le hb h'; omega
theorem sq_le_iff {a b : Int} (ha : 0 ≤ a) (hb : 0 ≤ b) (h : a * a ≤ b * b) : a ≤ b := by
  rcases Int.lt_or_le b a with h' | h'
  · have h1 := sq_le (show 0 ≤ b + 1 by omega) (show b + 1 ≤ a by omega)
    have h2 : (b + 1) * (b + 1) = b * b + 2 * b + 1 := by rw [Int.add_mul, Int.mul_add]; omega
    omega
  exact h'
theorem IsRoot.uniq {n r s : Int} (h : IsRoot n r) (k : IsRoot n s) : r = s := by
  obtain ⟨h0, h1, h2⟩ := h
  obtain ⟨k0, k1, k2⟩ := k
  have a := sq_lt_iff h0 (show 0 ≤ s + 1 by omega) (by omega)
  have b := sq_lt_iff k0 (show 0 ≤ r + 1 by omega) (by omega)
  omega

theorem half_le {n m : Int} (hm : 0 < m) : (m ≤ n / m) ↔ m * m ≤ n := Int.le_ediv_iff_mul_le hm

theorem rootB_root {n : Int} : ∀ (k : Nat) (lo hi : Int), 0 ≤ lo → lo < hi → hi - lo ≤ 2 ^ k → lo * lo ≤ n → n < hi * hi → IsRoot n (rootB n k lo hi) := by
  intro k
  induction k with
  | zero =>
    intro lo hi h0 h1 h2 h3 h4
    have e : hi = lo + 1 := by simp at h2; omega
    subst e
    exact ⟨h0, h3, h4⟩
  | succ k ih =>
    intro lo hi h0 h1 h2 h3 h4
    unfold rootB
    have e2 : (2 : Int) ^ (k + 1) = 2 * 2 ^ k := by rw [Int.pow_succ, Int.mul_comm]
    split
    · split
      · rename_i hh hm
        exact ih _ _ (by omega) (by omega) (by omega) ((half_le (by omega)).1 hm) h4
      rename_i hh hm
      have := mt (half_le (n := n) (m := (lo + hi) / 2) (by omega)).2 hm
      exact ih _ _ h0 (by omega) (by omega) h3 (by omega)
    have e : hi = lo + 1 := by omega
    subst e
    exact ⟨h0, h3, h4⟩
theorem root_is {n : Int} (h0 : 0 ≤ n) (h : n < 16000000000000000000) : IsRoot n (rootI n) := rootB_root 32 0 4000000000 (by omega) (by omega) (by decide) (by omega) (by omega)
theorem root_bnd {n B : Int} (h0 : 0 ≤ n) (hB : 0 ≤ B) (h : n < 16000000000000000000) (h2 : n < (B + 1) * (B + 1)) : 0 ≤ rootI n ∧ rootI n ≤ B := by
  obtain ⟨r0, r1, _⟩ := root_is h0 h
  have := sq_lt_iff r0 (show 0 ≤ B + 1 by omega) (by omega)
  omega

/-- Newton's step comes from above. -/
theorem newton_ge {n x r : Int} (hx : 1 ≤ x) (hr : 0 ≤ r) (h : r * r ≤ n) : r ≤ (x + n / x) / 2 := by
  have h1 : 2 * r - x ≤ n / x := by
    rw [Int.le_ediv_iff_mul_le (by omega)]
    have h2 : 0 ≤ (r - x) * (r - x) := by
      rcases Int.le_total 0 (r - x) with h | h
      · exact Int.mul_nonneg h h
      have := Int.mul_nonneg (show 0 ≤ -(r - x) by omega) (show 0 ≤ -(r - x) by omega); rwa [Int.neg_mul_neg] at this
    have h3 : (r - x) * (r - x) = r * r - 2 * (r * x) + x * x := by rw [Int.sub_mul, Int.mul_sub, Int.mul_sub, Int.mul_comm x r]; omega
    have h4 : (2 * r - x) * x = 2 * (r * x) - x * x := by rw [Int.sub_mul, Int.mul_assoc]
    omega
  omega
theorem newton_end {n x : Int} (hx : 1 ≤ x) (h : x ≤ (x + n / x) / 2) : x * x ≤ n := by
  rw [← half_le (by omega)]; omega

/-- what a step of the loop keeps -/
def NewI (n x y : Int) : Prop := (n = 0 ∧ x = 0 ∧ y = 0) ∨ (1 ≤ n ∧ (1 ≤ x ∧ x ≤ n) ∧ rootI n ≤ x ∧ y = (x + n / x) / 2)
theorem NewI.start {n : Int} (h0 : 0 ≤ n) (h : n < 16000000000000000000) : NewI n n ((n + 1) / 2) := by
  by_cases e : n = 0
  · subst e; exact .inl ⟨rfl, rfl, rfl⟩
  refine .inr ⟨by omega, ⟨by omega, by omega⟩, ?_, ?_⟩
  · obtain ⟨r0, r1, _⟩ := root_is h0 h
    have := sq_le_iff r0 h0 (Int.le_trans r1 (by have := Int.mul_le_mul_of_nonneg_left (show 1 ≤ n by omega) h0; omega))
    exact this
  rw [Int.ediv_self (by omega)]
theorem NewI.pos {n x y : Int} (h : NewI n x y) (hn : n < 16000000000000000000) (hy : y < x) : 1 ≤ y ∧ 1 ≤ n := by
  rcases h with ⟨_, h1, h2⟩ | ⟨h0, h1, h2, h3⟩
  · omega
  obtain ⟨r0, r1, r2⟩ := root_is (by omega) hn
  have := newton_ge h1.1 r0 r1
  have : 1 ≤ rootI n := by
    rcases Int.lt_or_le (rootI n) 1 with h | h
    · have : rootI n = 0 := by omega
      rw [this] at r2; omega
    exact h
  omega
theorem NewI.next {n x y : Int} (h : NewI n x y) (hn : n < 16000000000000000000) (hy : y < x) : NewI n y ((y + n / y) / 2) := by
  have hp := h.pos hn hy
  rcases h with ⟨_, h1, h2⟩ | ⟨h0, h1, h2, h3⟩
  · omega
  obtain ⟨r0, r1, r2⟩ := root_is (by omega) hn
  exact .inr ⟨h0, ⟨hp.1, by omega⟩, by have := newton_ge h1.1 r0 r1; omega, rfl⟩
theorem NewI.end {n x y : Int} (h : NewI n x y) (hn : n < 16000000000000000000) (hy : x ≤ y) : x = rootI n := by
  rcases h with ⟨h0, h1, h2⟩ | ⟨h0, h1, h2, h3⟩
  · subst h0 h1; rfl
  obtain ⟨r0, r1, r2⟩ := root_is (by omega) hn
  have h4 := newton_end (n := n) h1.1 (by omega)
  have := sq_lt_iff (show 0 ≤ x by omega) (show 0 ≤ rootI n + 1 by omega) (by omega)
  omega
theorem NewI.bnd {n x y : Int} (h : NewI n x y) : 0 ≤ x ∧ x ≤ n := by
  rcases h with ⟨h0, h1, h2⟩ | ⟨h0, h1, h2, h3⟩ <;> omega

theorem root_mono {n m : Int} (h0 : 0 ≤ n) (h : n ≤ m) (hm : m < 16000000000000000000) : rootI n ≤ rootI m := by
  obtain ⟨r0, r1, _⟩ := root_is h0 (show n < 16000000000000000000 by omega)
  obtain ⟨s0, _, s2⟩ := root_is (show 0 ≤ m by omega) hm
  have := sq_lt_iff r0 (show 0 ≤ rootI m + 1 by omega) (by omega)
  omega
theorem rootUp_is {n : Int} (h0 : 0 ≤ n) (h : n < 16000000000000000000) : 0 ≤ rootUp n ∧ n ≤ rootUp n * rootUp n ∧ rootI n ≤ rootUp n ∧ rootUp n ≤ rootI n + 1 ∧ ∀ r, 0 ≤ r → n ≤ r * r → rootUp n ≤ r := by
  obtain ⟨r0, r1, r2⟩ := root_is h0 h
  unfold rootUp
  split
  · refine ⟨by omega, by omega, by omega, by omega, fun r hr hn => ?_⟩
    have := sq_lt_iff r0 hr (by omega); omega
  refine ⟨by omega, by omega, by omega, by omega, fun r hr hn => ?_⟩
  exact sq_le_iff r0 hr (by omega)
theorem rootUp_mono {n m : Int} (h0 : 0 ≤ n) (h : n ≤ m) (hm : m < 16000000000000000000) : rootUp n ≤ rootUp m := by
  obtain ⟨a, b, _⟩ := rootUp_is (show 0 ≤ m by omega) hm
  exact (rootUp_is h0 (by omega)).2.2.2.2 _ a (by omega)

/-! ### squares and quotients, as the reference has them -/

theorem sqS_bnd {s : Span} {A : Int} (h : SpB A s) : 0 ≤ (sqS s).lo ∧ (sqS s).lo ≤ (sqS s).hi ∧ (sqS s).hi ≤ A * A := by
  obtain ⟨h1, h2, h3⟩ := h
  have a0 : 0 ≤ sqLo s ∧ sqLo s ≤ sqHi s ∧ sqHi s ≤ A := by unfold sqLo sqHi; omega
  refine ⟨Int.mul_nonneg a0.1 a0.1, sq_le a0.1 a0.2.1, sq_le (by omega) a0.2.2⟩

theorem div_anti {a p q : Int} (ha : 0 ≤ a) (hp : 0 < p) (h : p ≤ q) : a / q ≤ a / p := by
  rw [Int.le_ediv_iff_mul_le hp]
  have h1 := Int.ediv_mul_le a (show q ≠ 0 by omega)
  have h2 := Int.mul_le_mul_of_nonneg_left h (Int.ediv_nonneg ha (show 0 ≤ q by omega))
  omega
theorem div_mono_neg {a p q : Int} (ha : a ≤ 0) (hp : 0 < p) (h : p ≤ q) : a / p ≤ a / q := by
  rw [Int.le_ediv_iff_mul_le (by omega)]
  have h1 := Int.ediv_mul_le a (show p ≠ 0 by omega)
  have h3 : a / p ≤ 0 := by
    have := Int.ediv_le_ediv hp ha
    rwa [Int.zero_ediv] at this
  have h2 := Int.mul_le_mul_of_nonpos_left h3 h
  omega
theorem divS_ref {s m : Span} {n : Int} (hn : 0 < n) (hm : 1 ≤ m.lo ∧ m.lo ≤ m.hi) :
    divS s m n = ⟨min (s.lo / (m.lo * n)) (s.lo / (m.hi * n)), max (-((-s.hi) / (m.lo * n))) (-((-s.hi) / (m.hi * n)))⟩ := by
  have hp : 0 < m.lo * n := Int.mul_pos (by omega) hn
  have hq : m.lo * n ≤ m.hi * n := Int.mul_le_mul_of_nonneg_right hm.2 (by omega)
  unfold divS
  congr 1
  · split
    · have := div_anti (show 0 ≤ s.lo by omega) hp hq; omega
    have := div_mono_neg (show s.lo ≤ 0 by omega) hp hq; omega
  split
  · have := div_anti (show 0 ≤ -s.hi by omega) hp hq; omega
  have := div_mono_neg (show -s.hi ≤ 0 by omega) hp hq; omega

/-! ### what is in a span -/

theorem addS_in {a b a' b' : Span} (h : InS a a') (k : InS b b') : InS (addS a b) (addS a' b') := by
  obtain ⟨h1, h2⟩ := h; obtain ⟨k1, k2⟩ := k; unfold InS addS; dsimp only; omega
theorem subS_in {a b a' b' : Span} (h : InS a a') (k : InS b b') : InS (subS a b) (subS a' b') := by
  obtain ⟨h1, h2⟩ := h; obtain ⟨k1, k2⟩ := k; unfold InS subS; dsimp only; omega
theorem hullS_in {a b a' b' : Span} (h : InS a a') (k : InS b b') : InS (hullS a b) (hullS a' b') := by
  obtain ⟨h1, h2⟩ := h; obtain ⟨k1, k2⟩ := k; unfold InS hullS; dsimp only; omega

/-- x times a number between two others is between those products -/
theorem mul_between {x lo hi y : Int} (h1 : lo ≤ y) (h2 : y ≤ hi) : min (x * lo) (x * hi) ≤ x * y ∧ x * y ≤ max (x * lo) (x * hi) := by
  rcases Int.le_total 0 x with h | h
  · have a := Int.mul_le_mul_of_nonneg_left h1 h
    have b := Int.mul_le_mul_of_nonneg_left h2 h
    omega
  have a := Int.mul_le_mul_of_nonpos_left h h1
  have b := Int.mul_le_mul_of_nonpos_left h h2
  omega
theorem mul_has {a b : Span} {x y : Int} (hx : a.lo ≤ x ∧ x ≤ a.hi) (hy : b.lo ≤ y ∧ y ≤ b.hi) : (mulS a b).lo ≤ x * y ∧ x * y ≤ (mulS a b).hi := by
  have h1 := mul_between (x := x) hy.1 hy.2
  have h2 := mul_between (x := b.lo) hx.1 hx.2
  have h3 := mul_between (x := b.hi) hx.1 hx.2
  rw [Int.mul_comm b.lo, Int.mul_comm b.lo, Int.mul_comm b.lo] at h2
  rw [Int.mul_comm b.hi, Int.mul_comm b.hi, Int.mul_comm b.hi] at h3
  unfold mulS; dsimp only; omega
theorem mulS_in {a b a' b' : Span} (ha : a.lo ≤ a.hi) (hb : b.lo ≤ b.hi) (h : InS a a') (k : InS b b') : InS (mulS a b) (mulS a' b') := by
  obtain ⟨h1, h2⟩ := h
  obtain ⟨k1, k2⟩ := k
  have p1 := mul_has (a := a') (b := b') (x := a.lo) (y := b.lo) (by omega) (by omega)
  have p2 := mul_has (a := a') (b := b') (x := a.lo) (y := b.hi) (by omega) (by omega)
  have p3 := mul_has (a := a') (b := b') (x := a.hi) (y := b.lo) (by omega) (by omega)
  have p4 := mul_has (a := a') (b := b') (x := a.hi) (y := b.hi) (by omega) (by omega)
  constructor
  · show (mulS a' b').lo ≤ min (min (min (a.lo * b.lo) (a.lo * b.hi)) (a.hi * b.lo)) (a.hi * b.hi); omega
  show max (max (max (a.lo * b.lo) (a.lo * b.hi)) (a.hi * b.lo)) (a.hi * b.hi) ≤ (mulS a' b').hi; omega
theorem sqS_in {a a' : Span} (ha : a.lo ≤ a.hi) (h : InS a a') : InS (sqS a) (sqS a') := by
  obtain ⟨h1, h2⟩ := h
  constructor
  · exact sq_le (by unfold sqLo; omega) (by unfold sqLo; omega)
  exact sq_le (by unfold sqHi; omega) (by unfold sqHi; omega)
theorem rootS_in {a a' : Span} (h0 : 0 ≤ a'.lo) (ha : a.lo ≤ a.hi) (h : InS a a') (hm : a'.hi < 16000000000000000000) : InS (rootS a) (rootS a') := by
  obtain ⟨h1, h2⟩ := h
  exact ⟨root_mono h0 h1 (by omega), rootUp_mono (by omega) h2 hm⟩
theorem div_pos_mono {x y p q : Int} (hp : 0 < p) (hq : p ≤ q) (h : x ≤ y) : x / (if 0 < x then q else p) ≤ y / (if 0 < y then q else p) := by
  have hq0 : 0 < q := by omega
  by_cases hx : 0 < x
  · rw [if_pos hx, if_pos (show 0 < y by omega)]; exact Int.ediv_le_ediv hq0 h
  rw [if_neg hx]
  by_cases hy : 0 < y
  · rw [if_pos hy]
    have h1 := Int.ediv_le_ediv hp (show x ≤ 0 by omega)
    rw [Int.zero_ediv] at h1
    have h2 := Int.ediv_nonneg (show 0 ≤ y by omega) (show 0 ≤ q by omega)
    omega
  rw [if_neg hy]; exact Int.ediv_le_ediv hp h
theorem divS_in {a a' m : Span} {n : Int} (hn : 0 < n) (hm : 1 ≤ m.lo ∧ m.lo ≤ m.hi) (h : InS a a') : InS (divS a m n) (divS a' m n) := by
  have hp : 0 < m.lo * n := Int.mul_pos (by omega) hn
  have hq : m.lo * n ≤ m.hi * n := Int.mul_le_mul_of_nonneg_right hm.2 (by omega)
  obtain ⟨h1, h2⟩ := h
  have e1 : ∀ x : Int, (if 0 < x then m.hi else m.lo) * n = if 0 < x then m.hi * n else m.lo * n := fun x => by split <;> rfl
  have e2 : ∀ x : Int, (if x < 0 then m.hi else m.lo) * n = if 0 < -x then m.hi * n else m.lo * n := fun x => by
    by_cases e : x < 0
    · rw [if_pos e, if_pos (by omega)]
    rw [if_neg e, if_neg (by omega)]
  constructor
  · show a'.lo / _ ≤ a.lo / _
    rw [e1, e1]; exact div_pos_mono hp hq h1
  show -(-a.hi / _) ≤ -(-a'.hi / _)
  rw [e2, e2]
  have := div_pos_mono hp hq (show -a'.hi ≤ -a.hi by omega)
  omega
theorem divS_le {s m : Span} {n : Int} (hn : 0 < n) (hm : 1 ≤ m.lo ∧ m.lo ≤ m.hi) (h : s.lo ≤ s.hi) : (divS s m n).lo ≤ (divS s m n).hi := by
  have hp : 0 < m.lo * n := Int.mul_pos (by omega) hn
  have hq : 0 < m.hi * n := Int.mul_pos (by omega) hn
  have up : ∀ {x p : Int}, 0 < p → x / p ≤ -((-x) / p) := by
    intro x p hp
    have h1 := Int.ediv_mul_le x (show p ≠ 0 by omega)
    have h2 := Int.ediv_mul_le (-x) (show p ≠ 0 by omega)
    have h3 : (x / p + (-x) / p) * p ≤ 0 := by rw [Int.add_mul]; omega
    rcases Int.lt_or_le 0 (x / p + (-x) / p) with h | h
    · have := Int.mul_pos h hp; omega
    omega
  rw [divS_ref hn hm]
  have h1 := up (x := s.lo) hp
  have h2 := Int.ediv_le_ediv hp (show -s.hi ≤ -s.lo by omega)
  dsimp only; omega

end Go.Fl

/- Winds, air and forces: bounds, and what grows with what (plain). -/
set_option linter.all false
namespace Go.Fl
open Go.Vc Go.Tk

structure InA (a b : Ax) : Prop where
  x : InS a.x b.x
  y : InS a.y b.y
  z : InS a.z b.z
theorem InS.rfl' {a : Span} : InS a a := ⟨Int.le_refl _, Int.le_refl _⟩
theorem InA.rfl' {a : Ax} : InA a a := ⟨InS.rfl', InS.rfl', InS.rfl'⟩
theorem InS.tr {a b c : Span} (h : InS a b) (k : InS b c) : InS a c := ⟨Int.le_trans k.1 h.1, Int.le_trans h.2 k.2⟩
theorem InA.tr {a b c : Ax} (h : InA a b) (k : InA b c) : InA a c := ⟨InS.tr h.x k.x, InS.tr h.y k.y, InS.tr h.z k.z⟩
theorem hullS_l {a b : Span} : InS a (hullS a b) := by unfold InS hullS; dsimp only; omega
theorem hullS_r {a b : Span} : InS b (hullS a b) := by unfold InS hullS; dsimp only; omega
theorem hullA_l {a b : Ax} : InA a (hullA a b) := ⟨hullS_l, hullS_l, hullS_l⟩
theorem hullA_r {a b : Ax} : InA b (hullA a b) := ⟨hullS_r, hullS_r, hullS_r⟩
theorem hullA_in {a b a' b' : Ax} (h : InA a a') (k : InA b b') : InA (hullA a b) (hullA a' b') := ⟨hullS_in h.x k.x, hullS_in h.y k.y, hullS_in h.z k.z⟩
theorem subA_in {a b a' b' : Ax} (h : InA a a') (k : InA b b') : InA (subA a b) (subA a' b') := ⟨subS_in h.x k.x, subS_in h.y k.y, subS_in h.z k.z⟩

section
variable {z z' : Span} {frm : List Int} {of : List Ax}

theorem skip_mono {n i : Nat} (h : InS z z') (hs : skipI z' frm n i = true) : skipI z frm n i = true := by
  obtain ⟨h1, h2⟩ := h
  simp only [skipI, Bool.or_eq_true, decide_eq_true_eq] at hs ⊢
  omega

theorem some_mono (h : InS z z') : ∀ (k : Nat) (a : Ax), someN z frm of k = some a → ∃ b, someN z' frm of k = some b ∧ InA a b := by
  intro k
  induction k with
  | zero => intro a h; cases h
  | succ k ih =>
    intro a ha
    unfold someN at ha ⊢
    by_cases hs : skipI z frm of.length k = true
    · rw [if_pos hs] at ha
      obtain ⟨b, hb, hab⟩ := ih a ha
      by_cases hs' : skipI z' frm of.length k = true
      · rw [if_pos hs']; exact ⟨b, hb, hab⟩
      rw [if_neg hs', hb]; exact ⟨_, rfl, hab.tr hullA_l⟩
    have hs' : ¬ skipI z' frm of.length k = true := fun e => hs (skip_mono h e)
    rw [if_neg hs] at ha
    rw [if_neg hs']
    cases hk : someN z frm of k with
    | none =>
      rw [hk] at ha
      simp only [addO, Option.some.injEq] at ha
      subst ha
      cases hk' : someN z' frm of k with
      | none => exact ⟨_, rfl, InA.rfl'⟩
      | some c => exact ⟨_, rfl, hullA_r⟩
    | some c =>
      rw [hk] at ha
      simp only [addO, Option.some.injEq] at ha
      subst ha
      obtain ⟨b, hb, hcb⟩ := ih c hk
      rw [hb]
      exact ⟨_, rfl, hullA_in hcb InA.rfl'⟩

/-- the last part that begins at most at the greatest height is met -/
theorem some_ex (hz : z.lo ≤ z.hi) (h : 0 < of.length) : ∃ i, i < of.length ∧ skipI z frm of.length i = false := by
  have key : ∀ m : Nat, m < of.length → (∀ j, m < j → j < of.length → z.hi < frm.getD j 0) → ∃ i, i < of.length ∧ skipI z frm of.length i = false := by
    intro m
    induction m with
    | zero =>
      intro h0 hj
      refine ⟨0, h0, ?_⟩
      simp only [skipI, Bool.or_eq_false_iff, decide_eq_false_iff_not]
      refine ⟨by omega, fun ⟨h1, h2⟩ => ?_⟩
      have := hj 1 (by omega) (by omega)
      simp only [Nat.zero_add] at h2
      omega
    | succ m ih =>
      intro h0 hj
      by_cases e : z.hi < frm.getD (m + 1) 0
      · refine ih (by omega) fun j h1 h2 => ?_
        by_cases ej : j = m + 1
        · rw [ej]; exact e
        exact hj j (by omega) h2
      refine ⟨m + 1, h0, ?_⟩
      simp only [skipI, Bool.or_eq_false_iff, decide_eq_false_iff_not]
      refine ⟨by omega, fun ⟨h1, h2⟩ => ?_⟩
      have := hj (m + 1 + 1) (by omega) (by omega)
      omega
  exact key (of.length - 1) (by omega) fun j h1 h2 => by omega

theorem some_has {i : Nat} : ∀ k, i < k → skipI z frm of.length i = false → ∃ a, someN z frm of k = some a ∧ InA (of.getD i axZ) a := by
  intro k
  induction k with
  | zero => intro h; omega
  | succ k ih =>
    intro hik hs
    unfold someN
    by_cases e : i = k
    · subst e
      rw [if_neg (by rw [hs]; simp)]
      cases hk : someN z frm of i with
      | none => exact ⟨_, rfl, InA.rfl'⟩
      | some c => exact ⟨_, rfl, hullA_r⟩
    obtain ⟨a, ha, hia⟩ := ih (by omega) hs
    split
    · exact ⟨a, ha, hia⟩
    rw [ha]; exact ⟨_, rfl, hia.tr hullA_l⟩

theorem someT_mono (hz : z.lo ≤ z.hi) (h : InS z z') : InA (someT z frm of) (someT z' frm of) := by
  unfold someT
  by_cases h0 : 0 < of.length
  · obtain ⟨i, hi, hs⟩ := some_ex (frm := frm) hz h0
    obtain ⟨a, ha, _⟩ := some_has of.length hi hs
    obtain ⟨b, hb, hab⟩ := some_mono h _ a ha
    rw [ha, hb]; exact hab
  have e : of.length = 0 := by omega
  rw [e]; exact InA.rfl'

/-- a property that hulls keep -/
theorem some_all {p : Ax → Prop} (hp : ∀ a b, p a → p b → p (hullA a b)) (h : ∀ i, i < of.length → p (of.getD i axZ)) : ∀ k, k ≤ of.length → ∀ a, someN z frm of k = some a → p a := by
  intro k
  induction k with
  | zero => intro _ a h; cases h
  | succ k ih =>
    intro hk a ha
    unfold someN at ha
    split at ha
    · exact ih (by omega) a ha
    cases hn : someN z frm of k with
    | none =>
      rw [hn] at ha
      simp only [addO, Option.some.injEq] at ha
      subst ha; exact h k (by omega)
    | some c =>
      rw [hn] at ha
      simp only [addO, Option.some.injEq] at ha
      subst ha; exact hp _ _ (ih (by omega) c hn) (h k (by omega))
theorem someT_all {p : Ax → Prop} (hp : ∀ a b, p a → p b → p (hullA a b)) (h : ∀ i, i < of.length → p (of.getD i axZ)) (h0 : p axZ) : p (someT z frm of) := by
  unfold someT
  cases hn : someN z frm of of.length with
  | none => exact h0
  | some a => exact some_all hp h _ (Nat.le_refl _) a hn
end

/-! ### what is valid -/

structure GoodV (v : Veh) : Prop where
  name : nameOk v.name = true
  grav : beyond v.gravity 0 200 = false
  air20 : v.air.length ≤ 20
  air : ∀ j, j < v.air.length → errAir v j = 0
  ph12 : oP v.phases.length 1 12 = false
  ph : ∀ j, j < v.phases.length → errPh v j = 0
  pc6 : v.pieces.length ≤ 6
  pc : ∀ j, j < v.pieces.length → errPc v j = 0
structure GoodB (l : List Band) : Prop where
  len : oP l.length 1 20 = false
  bd : ∀ j, j < l.length → errBd l j = 0
structure GoodD (d : Dir) : Prop where
  e : dirE d = 0

theorem firstErr_0 {f : Nat → Int} {n : Nat} (h : firstErr f 0 n = none) : ∀ j, j < n → f j = 0 := by
  intro j hj
  rcases firstErr_of (f := f) (n := n) n 0 (by omega) with ⟨_, h'⟩ | ⟨i, _, _, h', _⟩
  · exact h' j (by omega) hj
  rw [h] at h'; cases h'
theorem firstErr_e {f : Nat → Int} {n i : Nat} {e : Int} (h : firstErr f 0 n = some (i, e)) : e ≠ 0 ∧ e = f i := by
  rcases firstErr_of (f := f) (n := n) n 0 (by omega) with ⟨h', _⟩ | ⟨k, _, _, h', h2, _⟩
  · rw [h] at h'; cases h'
  rw [h] at h'; simp only [Option.some.injEq, Prod.mk.injEq] at h'; obtain ⟨rfl, rfl⟩ := h'; exact ⟨h2, rfl⟩

theorem good_of_checkV {v : Veh} (h : (checkV v).2.2 = 0) : GoodV v := by
  unfold checkV at h
  split at h
  · cases h
  rename_i h1
  split at h
  · cases h
  rename_i h2
  split at h
  · cases h
  rename_i h3
  split at h
  · rename_i i e he; exact absurd h (firstErr_e he).1
  rename_i ha
  split at h
  · cases h
  rename_i h4
  split at h
  · rename_i i e he; exact absurd h (firstErr_e he).1
  rename_i hph
  split at h
  · cases h
  rename_i h5
  split at h
  · rename_i i e he; exact absurd h (firstErr_e he).1
  rename_i hpc
  exact ⟨by simpa using h1, by simpa using h2, by omega, firstErr_0 ha, by simpa using h4, firstErr_0 hph, by omega, firstErr_0 hpc⟩
theorem good_of_checkB {l : List Band} (h : (checkB l).2 = 0) : GoodB l := by
  unfold checkB at h
  split at h
  · cases h
  rename_i h1
  split at h
  · rename_i i e he; exact absurd h (firstErr_e he).1
  rename_i hb; exact ⟨by simpa using h1, firstErr_0 hb⟩
theorem asked_good {v : Veh} {d : Dir} {l : List Band} (h : askedF v d l = 0) : GoodV v ∧ dirE d = 0 ∧ GoodB l := by
  unfold askedF at h
  split at h
  · contradiction
  rename_i h1
  split at h
  · contradiction
  rename_i h2
  exact ⟨good_of_checkV (by omega), by omega, good_of_checkB h⟩

structure PhB (p : Phase) : Prop where
  thrust : 0 ≤ p.thrust.lo ∧ p.thrust.lo ≤ p.thrust.hi ∧ p.thrust.hi ≤ 2000000
  mass : 1 ≤ p.mass.lo ∧ p.mass.lo ≤ p.mass.hi ∧ p.mass.hi ≤ 100000
  drag : 0 ≤ p.drag.lo ∧ p.drag.lo ≤ p.drag.hi ∧ p.drag.hi ≤ 1000
  tx : SpB 2000 p.tilt.x
  ty : SpB 2000 p.tilt.y
  tz : SpB 2000 p.tilt.z
def AxB (m : Int) (a : Ax) : Prop := SpB m a.x ∧ SpB m a.y ∧ SpB m a.z
theorem wideA_false {a : Ax} {m : Int} : wideA a m = false ↔ AxB m a := by
  simp only [wideA, Bool.or_eq_false_iff, beyond_false, AxB, SpB]
theorem heavy_false {m d : Span} : heavyB m d = false ↔ (1 ≤ m.lo ∧ m.lo ≤ m.hi ∧ m.hi ≤ 100000) ∧ (0 ≤ d.lo ∧ d.lo ≤ d.hi ∧ d.hi ≤ 1000) := by
  simp only [heavyB, Bool.or_eq_false_iff, beyond_false]
theorem ph_zero {v : Veh} {j : Nat} (h : errPh v j = 0) : (1 ≤ (v.ph j).ticks ∧ (v.ph j).ticks ≤ 3000) ∧ PhB (v.ph j) := by
  unfold errPh at h
  split at h
  · cases h
  rename_i hb
  simp only [phBad, Bool.not_eq_true, Bool.or_eq_false_iff, oP_false, beyond_false, heavy_false, wideA_false] at hb
  obtain ⟨h1, h2, ⟨h3, h4⟩, h5, h6, h7⟩ := hb
  exact ⟨h1, h2, h3, h4, h5, h6, h7⟩
structure PcB (p : Piece) : Prop where
  at_ : 1 ≤ p.at_ ∧ p.at_ ≤ 3000
  mass : 1 ≤ p.mass.lo ∧ p.mass.lo ≤ p.mass.hi ∧ p.mass.hi ≤ 100000
  drag : 0 ≤ p.drag.lo ∧ p.drag.lo ≤ p.drag.hi ∧ p.drag.hi ≤ 1000
  kick : AxB 1000000 p.kick
  floor : 0 ≤ p.floor ∧ p.floor ≤ 2000000000
theorem pc_zero {v : Veh} {j : Nat} (h : errPc v j = 0) : PcB (v.pc j) := by
  unfold errPc at h
  split at h
  · cases h
  split at h
  · cases h
  split at h
  · cases h
  rename_i hb
  simp only [pcBad, Bool.not_eq_true, Bool.or_eq_false_iff, oP_false, heavy_false, wideA_false] at hb
  obtain ⟨h1, ⟨h2, h3⟩, h4, h5⟩ := hb
  exact ⟨h1, h2, h3, h4, h5⟩
theorem PcB.ph {p : Piece} (h : PcB p) : PhB (pcPh p) := ⟨(by decide : (0 : Int) ≤ 0 ∧ (0 : Int) ≤ 0 ∧ (0 : Int) ≤ 2000000), h.mass, h.drag, (by decide : (-2000 : Int) ≤ 0 ∧ (0 : Int) ≤ 0 ∧ (0 : Int) ≤ 2000), (by decide : (-2000 : Int) ≤ 0 ∧ (0 : Int) ≤ 0 ∧ (0 : Int) ≤ 2000), (by decide : (-2000 : Int) ≤ 0 ∧ (0 : Int) ≤ 0 ∧ (0 : Int) ≤ 2000)⟩

theorem phaseN_mem : ∀ (l : List Phase) (t : Int) (p : Phase), phaseN l t = some p → p ∈ l := by
  intro l
  induction l with
  | nil => intro t p h; cases h
  | cons q l ih =>
    intro t p h
    unfold phaseN at h
    split at h
    · injection h with h; rw [← h]; exact .head _
    exact .tail _ (ih _ _ h)
theorem mem_ph {v : Veh} {p : Phase} (h : p ∈ v.phases) : ∃ j, j < v.phases.length ∧ v.ph j = p := by
  obtain ⟨j, hj, e⟩ := List.getElem_of_mem h
  refine ⟨j, hj, ?_⟩
  rw [Veh.ph, List.getD_eq_getElem?_getD, List.getElem?_eq_getElem hj]; exact e
theorem now_ph {v : Veh} (h : GoodV v) (t : Int) : PhB (nowT v t) := by
  unfold nowT
  cases hp : phaseN v.phases t with
  | some p =>
    obtain ⟨j, hj, e⟩ := mem_ph (phaseN_mem _ _ _ hp)
    rw [Option.getD_some, ← e]; exact (ph_zero (h.ph j hj)).2
  | none =>
    have hl := (oP_false.1 h.ph12)
    have := (ph_zero (h.ph (v.phases.length - 1) (by omega))).2
    exact ⟨(by decide : (0 : Int) ≤ 0 ∧ (0 : Int) ≤ 0 ∧ (0 : Int) ≤ 2000000), this.mass, this.drag, (by decide : (-2000 : Int) ≤ 0 ∧ (0 : Int) ≤ 0 ∧ (0 : Int) ≤ 2000), (by decide : (-2000 : Int) ≤ 0 ∧ (0 : Int) ≤ 0 ∧ (0 : Int) ≤ 2000), (by decide : (-2000 : Int) ≤ 0 ∧ (0 : Int) ≤ 0 ∧ (0 : Int) ≤ 2000)⟩

theorem bd_zero {l : List Band} {j : Nat} (h : errBd l j = 0) : (bdAt l j).frm = begB l j ∧ (begB l j + 1 ≤ (bdAt l j).to ∧ (bdAt l j).to ≤ 100000000) ∧ SpB 20000 (bdAt l j).x ∧ SpB 20000 (bdAt l j).y := by
  unfold errBd at h
  split at h
  · cases h
  split at h
  · cases h
  rename_i h1 h2
  simp only [not_or, Bool.not_eq_true, oP_false, stormB, Bool.or_eq_false_iff, decide_eq_false_iff_not] at h2
  unfold SpB
  omega
theorem ar_zero {v : Veh} {j : Nat} (h : errAir v j = 0) : ((j = 0 → (v.ar j).frm = 0) ∧ (0 < j → (v.ar (j - 1)).frm < (v.ar j).frm)) ∧ (v.ar j).frm ≤ 2000000000 ∧ 0 ≤ (v.ar j).dens ∧ (v.ar j).dens ≤ 1000 := by
  unfold errAir at h
  split at h
  · cases h
  split at h
  · cases h
  rename_i h1 h2
  simp only [not_or, Bool.not_eq_true, oP_false] at h2
  omega

theorem hull_bnd {m : Int} {a b : Span} (h : SpB m a) (k : SpB m b) : SpB m (hullS a b) := by unfold SpB hullS at *; dsimp only; omega
theorem bdOf_at {l : List Band} {i : Nat} (h : i < (bdOf l).length) : (i < l.length ∧ (bdOf l).getD i axZ = ⟨(bdAt l i).x, (bdAt l i).y, spZ⟩) ∨ (bdOf l).getD i axZ = axZ := by
  unfold bdOf at h ⊢
  split
  · right; rfl
  by_cases hi : i < l.length
  · left
    refine ⟨hi, ?_⟩
    rw [List.getD_eq_getElem?_getD, List.getElem?_append_left (by rw [List.length_map]; exact hi), List.getElem?_map]
    rw [bdAt, List.getD_eq_getElem?_getD, List.getElem?_eq_getElem hi]; rfl
  right
  rw [List.getD_eq_getElem?_getD, List.getElem?_append_right (by rw [List.length_map]; omega), List.length_map]
  cases i - l.length with
  | zero => rfl
  | succ k => simp
theorem winds_bnd {l : List Band} (h : GoodB l) (z : Span) : SpB 20000 (windsT l z).x ∧ SpB 20000 (windsT l z).y ∧ (windsT l z).z = spZ := by
  have z0 : SpB 20000 spZ := by unfold SpB spZ; decide
  refine someT_all (p := fun a => SpB 20000 a.x ∧ SpB 20000 a.y ∧ a.z = spZ) (fun a b ⟨a1, a2, a3⟩ ⟨b1, b2, b3⟩ => ⟨hull_bnd a1 b1, hull_bnd a2 b2, ?_⟩) (fun i hi => ?_) ⟨z0, z0, rfl⟩
  · show hullS a.z b.z = spZ; rw [a3, b3]; decide
  rcases bdOf_at hi with ⟨h1, h2⟩ | h2
  · rw [h2]; obtain ⟨_, _, hx, hy⟩ := bd_zero (h.bd i h1); exact ⟨hx, hy, rfl⟩
  rw [h2]; exact ⟨z0, z0, rfl⟩
theorem air_bnd {v : Veh} (h : GoodV v) (z : Span) : 0 ≤ (airT v z).lo ∧ (airT v z).lo ≤ (airT v z).hi ∧ (airT v z).hi ≤ 1000 := by
  refine someT_all (p := fun a => 0 ≤ a.x.lo ∧ a.x.lo ≤ a.x.hi ∧ a.x.hi ≤ 1000) (fun a b ha hb => ?_) (fun i hi => ?_) (by decide)
  · show 0 ≤ min a.x.lo b.x.lo ∧ min a.x.lo b.x.lo ≤ max a.x.hi b.x.hi ∧ max a.x.hi b.x.hi ≤ 1000; omega
  rw [arOf, List.length_map] at hi
  rw [arOf, List.getD_eq_getElem?_getD, List.getElem?_map, List.getElem?_eq_getElem hi]
  have := ar_zero (h.air i hi)
  rw [Veh.ar, List.getD_eq_getElem?_getD, List.getElem?_eq_getElem hi] at this
  simp only [Option.getD_some, Option.map_some] at this ⊢
  show 0 ≤ (v.air[i]).dens ∧ (v.air[i]).dens ≤ (v.air[i]).dens ∧ (v.air[i]).dens ≤ 1000
  omega

theorem far_false {s : St} : farS s = false ↔ AxB 2000000000 s.p ∧ AxB 1000000 s.v := by simp only [farS, Bool.or_eq_false_iff, wideA_false]

/-! ### forces -/

theorem rel_bnd {l : List Band} (hB : GoodB l) {s : St} (hs : AxB 1000000 s.v) : AxB 1020000 (relA l s) := by
  obtain ⟨h1, h2, h3⟩ := winds_bnd hB s.p.z
  obtain ⟨k1, k2, k3⟩ := hs
  refine ⟨subS_bnd k1 h1, subS_bnd k2 h2, ?_⟩
  show SpB 1020000 (subS s.v.z (windsT l s.p.z).z)
  rw [h3]; exact (subS_bnd (B := 0) k3 (by unfold SpB spZ; decide)).mono (by decide)
theorem sum_bnd {w : Ax} (h : AxB 1020000 w) : 0 ≤ (addS (addS (addS (at1 0) (sqS w.x)) (sqS w.y)) (sqS w.z)).lo ∧ (addS (addS (addS (at1 0) (sqS w.x)) (sqS w.y)) (sqS w.z)).lo ≤ (addS (addS (addS (at1 0) (sqS w.x)) (sqS w.y)) (sqS w.z)).hi ∧ (addS (addS (addS (at1 0) (sqS w.x)) (sqS w.y)) (sqS w.z)).hi ≤ 3121200000000 := by
  obtain ⟨h1, h2, h3⟩ := h
  have a := sqS_bnd h1; have b := sqS_bnd h2; have c := sqS_bnd h3
  simp only [addS, at1]
  omega
theorem speed_bnd {w : Ax} (h : AxB 1020000 w) : 0 ≤ (speedS w).lo ∧ (speedS w).lo ≤ (speedS w).hi ∧ (speedS w).hi ≤ 1766693 := by
  obtain ⟨s1, s2, s3⟩ := sum_bnd h
  unfold speedS rootS
  generalize addS (addS (addS (at1 0) (sqS w.x)) (sqS w.y)) (sqS w.z) = s at *
  dsimp only
  have a := root_bnd (n := s.lo) (B := 1766692) s1 (by decide) (by omega) (by omega)
  have b := root_bnd (n := s.hi) (B := 1766692) (by omega) (by decide) (by omega) (by omega)
  have c := root_mono s1 s2 (by omega)
  have d := rootUp_is (n := s.hi) (by omega) (by omega)
  omega
theorem drag_bnd {v : Veh} (hV : GoodV v) {drag : Span} (hd : 0 ≤ drag.lo ∧ drag.lo ≤ drag.hi ∧ drag.hi ≤ 1000) {s : St} {w : Ax} (h : AxB 1020000 w) :
    SpB 1000000 (mulS drag (airT v s.p.z)) ∧ SpB 1766693000000 (dragS v drag s w) := by
  have a := air_bnd hV s.p.z
  have r := speed_bnd h
  have h1 := mulS_bnd (A := 1000) (B := 1000) (a := drag) (b := airT v s.p.z) (by unfold SpB; omega) (by unfold SpB; omega)
  exact ⟨h1, mulS_bnd (A := 1000000) (B := 1766693) h1 (by unfold SpB; omega)⟩
theorem push_bnd {p : Phase} (h : PhB p) : SpB 20000000 (pushS p) := by
  have := h.thrust
  exact mulS_bnd (A := 2000000) (B := 10) (by unfold SpB; omega) (by unfold SpB at1; decide)

/-- the same, the divisor being great -/
theorem divS_bnd2 {s m : Span} {n A : Int} (hn : 0 < n) (hA : 0 ≤ A) (hm : 1 ≤ m.lo ∧ m.lo ≤ m.hi) (h : SpB (A * n) s) : SpB A (divS s m n) := by
  obtain ⟨h1, h2, h3⟩ := h
  refine ⟨?_, divS_le hn hm h2, ?_⟩
  all_goals
    have hp : n ≤ m.lo * n := by have := Int.mul_le_mul_of_nonneg_right (show 1 ≤ m.lo by omega) (show 0 ≤ n by omega); omega
    have hq : n ≤ m.hi * n := by have := Int.mul_le_mul_of_nonneg_right (show 1 ≤ m.hi by omega) (show 0 ≤ n by omega); omega
    have low : ∀ {x p : Int}, n ≤ p → -(A * n) ≤ x → -A ≤ x / p := by
      intro x p hp hx
      rw [Int.le_ediv_iff_mul_le (by omega), Int.neg_mul]
      have := Int.mul_le_mul_of_nonneg_left hp hA
      omega
    rw [divS_ref hn hm]
    have a := low hp h1; have b := low hq h1
    have c := low (x := -s.hi) hp (by omega); have d := low (x := -s.hi) hq (by omega)
    dsimp only; omega

structure AxisB (push drag mass : Span) (d : Int) (tilt w : Span) : Prop where
  tl : SpB 12000 (addS (at1 d) tilt)
  pu : SpB 240000000000 (mulS push (addS (at1 d) tilt))
  thr : SpB 24000000 (divS (mulS push (addS (at1 d) tilt)) mass 10000)
  dw : SpB 1802026860000000000 (mulS drag w)
  drg : SpB 1802026860 (divS (mulS drag w) mass 1000000000)
  all : SpB 1826026860 (axisS push drag mass d tilt w)
theorem axis_bnd {push drag mass : Span} {d : Int} {tilt w : Span} (hp : SpB 20000000 push) (hd : SpB 1766693000000 drag) (hm : 1 ≤ mass.lo ∧ mass.lo ≤ mass.hi) (h1 : -10000 ≤ d ∧ d ≤ 10000) (ht : SpB 2000 tilt) (hw : SpB 1020000 w) : AxisB push drag mass d tilt w := by
  have a : SpB 12000 (addS (at1 d) tilt) := addS_bnd (A := 10000) (by unfold SpB at1; dsimp only; omega) ht
  have b := mulS_bnd hp a
  have c := divS_bnd2 (A := 24000000) (n := 10000) (m := mass) (by decide) (by decide) hm b
  have e := mulS_bnd hd hw
  have f := divS_bnd2 (A := 1802026860) (n := 1000000000) (m := mass) (by decide) (by decide) hm e
  exact ⟨a, b, c, e, f, subS_bnd c f⟩

theorem dir_bnd {d : Dir} (h : dirE d = 0) : (-10000 ≤ d.x ∧ d.x ≤ 10000) ∧ (-10000 ≤ d.y ∧ d.y ≤ 10000) ∧ (1 ≤ d.z ∧ d.z ≤ 10000) := by
  unfold dirE at h
  split at h
  · cases h
  rename_i h1
  simp only [not_or, Bool.not_eq_true, oP_false] at h1
  exact h1

theorem force_bnd {v : Veh} {d : Dir} {l : List Band} {p : Phase} {s : St} (hV : GoodV v) (hd : dirE d = 0) (hB : GoodB l) (hp : PhB p) (hs : AxB 1000000 s.v) : AxB 1826027060 (forceT v d l p s) := by
  have hw := rel_bnd hB hs
  have hdr := (drag_bnd hV hp.drag (s := s) hw).2
  obtain ⟨d1, d2, d3⟩ := dir_bnd hd
  obtain ⟨w1, w2, w3⟩ := hw
  have hm : 1 ≤ p.mass.lo ∧ p.mass.lo ≤ p.mass.hi := by have := hp.mass; omega
  have hg := beyond_false.1 hV.grav
  refine ⟨(axis_bnd (push_bnd hp) hdr hm d1 hp.tx w1).all.mono (B := 1826027060) (by decide), (axis_bnd (push_bnd hp) hdr hm d2 hp.ty w2).all.mono (B := 1826027060) (by decide), ?_⟩
  exact subS_bnd (axis_bnd (push_bnd hp) hdr hm (by omega) hp.tz w3).all (B := 200) (by unfold SpB; omega)

/-- what is in a state has its force in that of it -/
structure InT (a b : St) : Prop where
  p : InA a.p b.p
  v : InA a.v b.v

theorem force_in {v : Veh} {d : Dir} {l : List Band} {p : Phase} {a b : St} (hV : GoodV v) (hd : dirE d = 0) (hB : GoodB l) (hp : PhB p) (ha : AxB 1000000 a.v) (hz : a.p.z.lo ≤ a.p.z.hi) (hb : AxB 1000000 b.v) (h : InT a b) : InA (forceT v d l p a) (forceT v d l p b) := by
  have hwa := rel_bnd hB ha
  have hwb := rel_bnd hB hb
  have hw : InA (relA l a) (relA l b) := subA_in h.v (someT_mono hz h.p.z)
  have hair : InS (airT v a.p.z) (airT v b.p.z) := (someT_mono hz h.p.z).x
  obtain ⟨a1, a2, a3⟩ := sum_bnd hwa
  obtain ⟨b1, b2, b3⟩ := sum_bnd hwb
  have hsp : InS (speedS (relA l a)) (speedS (relA l b)) :=
    rootS_in b1 a2 (addS_in (addS_in (addS_in InS.rfl' (sqS_in hwa.1.2.1 hw.x)) (sqS_in hwa.2.1.2.1 hw.y)) (sqS_in hwa.2.2.2.1 hw.z)) (by omega)
  have hdr : InS (dragS v p.drag a (relA l a)) (dragS v p.drag b (relA l b)) :=
    mulS_in (mulS_le _ _) (speed_bnd hwa).2.1 (mulS_in hp.drag.2.1 (air_bnd hV _).2.1 InS.rfl' hair) hsp
  have hm : 1 ≤ p.mass.lo ∧ p.mass.lo ≤ p.mass.hi := by have := hp.mass; omega
  have ax : ∀ (dd : Int) (t wa wb : Span), wa.lo ≤ wa.hi → InS wa wb → InS (axisS (pushS p) (dragS v p.drag a (relA l a)) p.mass dd t wa) (axisS (pushS p) (dragS v p.drag b (relA l b)) p.mass dd t wb) := by
    intro dd t wa wb hle hin
    exact subS_in InS.rfl' (divS_in (by decide) hm (mulS_in (mulS_le _ _) hle hdr hin))
  exact ⟨ax _ _ _ _ hwa.1.2.1 hw.x, ax _ _ _ _ hwa.2.1.2.1 hw.y, subS_in (ax _ _ _ _ hwa.2.2.2.1 hw.z) InS.rfl'⟩

end Go.Fl

/- Impacts; paths that a vehicle can fly (plain). -/
set_option linter.all false
namespace Go.Fl
open Go.Vc Go.Tk

def hullN (f : Nat → St) (a : Nat) : Nat → Span × Span
  | 0 => ((f a).p.x, (f a).p.y)
  | k + 1 => (hullS (f (a + k + 1)).p.x (hullN f a k).1, hullS (f (a + k + 1)).p.y (hullN f a k).2)
theorem hullN_in (f : Nat → St) (a : Nat) : ∀ (k j : Nat), j ≤ k → InS (f (a + j)).p.x (hullN f a k).1 ∧ InS (f (a + j)).p.y (hullN f a k).2 := by
  intro k
  induction k with
  | zero => intro j hj; have : j = 0 := by omega
            subst this; exact ⟨InS.rfl', InS.rfl'⟩
  | succ k ih =>
    intro j hj
    by_cases e : j = k + 1
    · subst e; exact ⟨hullS_l, hullS_l⟩
    obtain ⟨h1, h2⟩ := ih j (by omega)
    exact ⟨InS.tr h1 hullS_r, InS.tr h2 hullS_r⟩

/-- what an impact is -/
structure ImpIs (f : Nat → St) (frm floor pc : Int) (y : Imp) (a b : Nat) : Prop where
  a1 : 1 ≤ a
  ab : a ≤ b
  far : ∀ j, j ≤ b → farS (f j) = false
  above : ∀ j, 1 ≤ j → j < a → floor < (f j).p.z.lo
  low : (f a).p.z.lo ≤ floor
  up : ∀ j, 1 ≤ j → j < b → floor < (f j).p.z.hi
  down : (f b).p.z.hi ≤ floor
  pc : y.piece = pc
  at_ : y.at_ = ⟨frm + a, frm + b⟩
  x : y.x = (hullN f a (b - a)).1
  y : y.y = (hullN f a (b - a)).2

/-- what is known of it ahead of tick t -/
def ImpPre (f : Nat → St) (frm floor pc : Int) (t : Nat) (x : Imp) : Prop :=
  x.piece = pc ∧ ((x.at_.lo = 0 ∧ ∀ j, 1 ≤ j → j < t → floor < (f j).p.z.lo) ∨
    ∃ a, 1 ≤ a ∧ a < t ∧ (∀ j, 1 ≤ j → j < a → floor < (f j).p.z.lo) ∧ (f a).p.z.lo ≤ floor ∧ x.at_ = ⟨frm + a, frm + (t - 1 : Nat)⟩ ∧ x.x = (hullN f a (t - 1 - a)).1 ∧ x.y = (hullN f a (t - 1 - a)).2)

section
variable {f : Nat → St} {frm floor pc : Int}
theorem watch_step (h0 : 0 ≤ frm) {t : Nat} {x : Imp} (h : ImpPre f frm floor pc t x) (hsp : ∀ j, (f j).p.z.lo ≤ (f j).p.z.hi ∨ farS (f j) = true) (hf : farS (f t) = false) :
    ((watchT frm floor x t (f t)).2 = false → ImpPre f frm floor pc (t + 1) (watchT frm floor x t (f t)).1 ∧ (1 ≤ t → floor < (f t).p.z.hi)) ∧
    ((watchT frm floor x t (f t)).2 = true → ∃ a, 1 ≤ a ∧ a ≤ t ∧ (∀ j, 1 ≤ j → j < a → floor < (f j).p.z.lo) ∧ (f a).p.z.lo ≤ floor ∧ (f t).p.z.hi ≤ floor ∧ (watchT frm floor x t (f t)).1.piece = pc ∧ (watchT frm floor x t (f t)).1.at_ = ⟨frm + a, frm + t⟩ ∧
      (watchT frm floor x t (f t)).1.x = (hullN f a (t - a)).1 ∧ (watchT frm floor x t (f t)).1.y = (hullN f a (t - a)).2) := by
  obtain ⟨hp, h⟩ := h
  have hle : (f t).p.z.lo ≤ (f t).p.z.hi := (hsp t).resolve_right (by rw [hf]; simp)
  unfold watchT
  split
  · rename_i hc
    refine ⟨fun _ => ⟨⟨hp, ?_⟩, fun h1 => ?_⟩, fun e => by cases e⟩
    · rcases hc with hc | ⟨hc, hz⟩
      · subst hc
        rcases h with ⟨h1, h2⟩ | ⟨a, h1, h2, _⟩
        · exact .inl ⟨h1, fun j a b => by omega⟩
        omega
      rcases h with ⟨h1, h2⟩ | ⟨a, h1, h2, _, _, h3, _⟩
      · refine .inl ⟨h1, fun j a b => ?_⟩
        by_cases e : j = t
        · rw [e]; exact hz
        exact h2 j a (by omega)
      rw [h3] at hc; dsimp only at hc; omega
    rcases hc with hc | ⟨hc, hz⟩
    · omega
    omega
  rename_i hc
  have ht : 1 ≤ t := by omega
  split
  · rename_i hpos
    rcases h with ⟨h1, h2⟩ | ⟨a, h1, h2, h3, h4, h5, h6, h7⟩
    · omega
    have ex : hullS (f t).p.x x.x = (hullN f a (t - a)).1 ∧ hullS (f t).p.y x.y = (hullN f a (t - a)).2 := by
      have e : t - a = (t - 1 - a) + 1 := by omega
      have e2 : a + (t - 1 - a) + 1 = t := by omega
      rw [e, hullN, e2, h6, h7]; exact ⟨rfl, rfl⟩
    refine ⟨fun e => ⟨⟨hp, .inr ⟨a, h1, by omega, h3, h4, ?_, ?_, ?_⟩⟩, fun _ => ?_⟩, fun e => ⟨a, h1, by omega, h3, h4, by simpa using e, hp, ?_, ex.1, ex.2⟩⟩
    · show (⟨x.at_.lo, frm + t⟩ : Span) = _
      rw [h5]; congr 1
    · exact ex.1
    · exact ex.2
    · have : ¬ (f t).p.z.hi ≤ floor := by simpa using e
      omega
    show (⟨x.at_.lo, frm + t⟩ : Span) = _
    rw [h5]
  rename_i hpos
  rcases h with ⟨h1, h2⟩ | ⟨a, h1, h2, h3, h4, h5, h6, h7⟩
  · have hlo : (f t).p.z.lo ≤ floor := by omega
    refine ⟨fun e => ⟨⟨hp, .inr ⟨t, ht, by omega, h2, hlo, ?_, ?_, ?_⟩⟩, fun _ => ?_⟩, fun e => ⟨t, ht, Nat.le_refl _, h2, hlo, by simpa using e, hp, rfl, ?_, ?_⟩⟩
    · show (⟨frm + t, frm + t⟩ : Span) = _
      congr 1
    · rw [show t + 1 - 1 - t = 0 by omega]; rfl
    · rw [show t + 1 - 1 - t = 0 by omega]; rfl
    · have : ¬ (f t).p.z.hi ≤ floor := by simpa using e
      omega
    · rw [show t - t = 0 by omega]; rfl
    rw [show t - t = 0 by omega]; rfl
  rw [h5] at hpos; dsimp only at hpos; omega

theorem far_le {s : St} (h : farS s = false) : s.p.z.lo ≤ s.p.z.hi := (far_false.1 h).1.2.2.2.1
theorem far_or (f : Nat → St) : ∀ j, (f j).p.z.lo ≤ (f j).p.z.hi ∨ farS (f j) = true := fun j => by
  cases h : farS (f j)
  · exact .inl (far_le h)
  exact .inr rfl

theorem impN_is (h0 : 0 ≤ frm) : ∀ (n t : Nat) (x y : Imp), ImpPre f frm floor pc t x → (∀ j, j < t → farS (f j) = false) → (∀ j, 1 ≤ j → j < t → floor < (f j).p.z.hi) → impN f frm floor n t x = (y, 0) → ∃ a b, ImpIs f frm floor pc y a b ∧ b ≤ t + n := by
  have base : ∀ (t : Nat) (x y : Imp), ImpPre f frm floor pc t x → (∀ j, j < t → farS (f j) = false) → (∀ j, 1 ≤ j → j < t → floor < (f j).p.z.hi) → farS (f t) = false → (watchT frm floor x t (f t)).2 = true → (watchT frm floor x t (f t)).1 = y → ∃ a b, ImpIs f frm floor pc y a b ∧ b = t := by
    intro t x y hp hfar hup hf hw hy
    obtain ⟨a, h1, h2, h3, h4, h5, h6, h7, h8, h9⟩ := (watch_step h0 hp (far_or f) hf).2 hw
    rw [hy] at h6 h7 h8 h9
    exact ⟨a, t, ⟨h1, h2, fun j hj => by
      by_cases e : j = t
      · rw [e]; exact hf
      exact hfar j (by omega), h3, h4, hup, h5, h6, h7, h8, h9⟩, rfl⟩
  intro n
  induction n with
  | zero =>
    intro t x y hp hfar hup h
    unfold impN at h
    split at h
    · simp at h
    rename_i hf
    have hf : farS (f t) = false := by simpa using hf
    split at h
    · rename_i hw
      obtain ⟨a, b, hi, hb⟩ := base t x y hp hfar hup hf hw (by simpa using congrArg Prod.fst h)
      exact ⟨a, b, hi, by omega⟩
    simp at h
  | succ n ih =>
    intro t x y hp hfar hup h
    unfold impN at h
    split at h
    · simp at h
    rename_i hf
    have hf : farS (f t) = false := by simpa using hf
    split at h
    · rename_i hw
      obtain ⟨a, b, hi, hb⟩ := base t x y hp hfar hup hf hw (by simpa using congrArg Prod.fst h)
      exact ⟨a, b, hi, by omega⟩
    rename_i hw
    obtain ⟨hp', hup'⟩ := (watch_step h0 hp (far_or f) hf).1 (by simpa using hw)
    obtain ⟨a, b, hi, hb⟩ := ih (t + 1) _ y hp' (fun j hj => by
      by_cases e : j = t
      · rw [e]; exact hf
      · exact hfar j (by omega)) (fun j h1 hj => by
      by_cases e : j = t
      · rw [e]; exact hup' (by omega)
      exact hup j h1 (by omega)) h
    exact ⟨a, b, hi, by omega⟩

/-- what comes down, and is in the states, comes down in the impact -/
theorem imp_has {y : Imp} {a b : Nat} (h : ImpIs f frm floor pc y a b) {g : Nat → Pt} {t : Nat} (hin : ∀ j, j ≤ b → j ≤ t → InT (ptS (g j)) (f j)) (h1 : 1 ≤ t) (ht : (g t).z ≤ floor) (hb : ∀ j, 1 ≤ j → j < t → floor < (g j).z) :
    hasS y.at_ (frm + t) = true ∧ hasS y.x (g t).x = true ∧ hasS y.y (g t).y = true := by
  have htb : t ≤ b := by
    rcases Nat.lt_or_ge b t with hlt | hge
    · have := (hin b (Nat.le_refl _) (by omega)).p.z.2
      have h2 := hb b (by have := h.a1; have := h.ab; omega) hlt
      have h3 := h.down
      simp only [ptS, at1] at this; omega
    exact hge
  have hat : a ≤ t := by
    rcases Nat.lt_or_ge t a with hlt | hge
    · have := (hin t htb (Nat.le_refl _)).p.z.1
      have h2 := h.above t h1 hlt
      simp only [ptS, at1] at this; omega
    exact hge
  have hi := hin t htb (Nat.le_refl _)
  have hh := hullN_in f a (b - a) (t - a) (by omega)
  rw [show a + (t - a) = t by omega] at hh
  have px := InS.tr hi.p.x hh.1
  have py := InS.tr hi.p.y hh.2
  rw [← h.x] at px
  rw [← h.y] at py
  obtain ⟨p1, p2⟩ := px
  obtain ⟨p3, p4⟩ := py
  simp only [ptS, at1] at p1 p2 p3 p4
  refine ⟨?_, ?_, ?_⟩
  · rw [h.at_]; simp only [hasS, Bool.not_eq_true', oP_false]; omega
  · simp only [hasS, Bool.not_eq_true', oP_false]; omega
  simp only [hasS, Bool.not_eq_true', oP_false]; omega
end

/-! ### paths -/

theorem hasS_iff {s : Span} {n : Int} : hasS s n = true ↔ s.lo ≤ n ∧ n ≤ s.hi := by simp only [hasS, Bool.not_eq_true', oP_false]

section
variable {v : Veh} {d : Dir} {l : List Band}

theorem pt_far {p : Pt} (h : farS (ptS p) = false) : AxB 1000000 (ptS p).v ∧ AxB 2000000000 (ptS p).p := ⟨(far_false.1 h).2, (far_false.1 h).1⟩

/-- one step of a path is in one step of the states -/
theorem goes_in (hV : GoodV v) (hd : dirE d = 0) (hB : GoodB l) {ph : Phase} (hp : PhB ph) {a b : Pt} {s : St} (ha : farS (ptS a) = false) (hs : farS s = false) (h : InT (ptS a) s) (hg : goesB (forceT v d l ph (ptS a)) a b = true) :
    InT (ptS b) (nextS s (forceT v d l ph s)) := by
  have hf := force_in hV hd hB hp (pt_far ha).1 (Int.le_refl _) (far_false.1 hs).2 h
  simp only [goesB, Bool.and_eq_true, hasS_iff, decide_eq_true_eq] at hg
  obtain ⟨g1, g2, g3, g4, g5, g6⟩ := hg
  obtain ⟨⟨x1, x2⟩, ⟨y1, y2⟩, ⟨z1, z2⟩⟩ := h.p
  obtain ⟨⟨u1, u2⟩, ⟨w1, w2⟩, ⟨t1, t2⟩⟩ := h.v
  obtain ⟨⟨a1, a2⟩, ⟨b1, b2⟩, ⟨c1, c2⟩⟩ := hf
  simp only [ptS, at1] at x1 x2 y1 y2 z1 z2 u1 u2 w1 w2 t1 t2
  refine ⟨⟨?_, ?_, ?_⟩, ⟨?_, ?_, ?_⟩⟩ <;> (unfold InS nextS addA addS ptS at1; dsimp only; omega)

end

end Go.Fl

/- The reference's winds and air (plain). -/
set_option linter.all false
namespace Go.Fl
open Go.Vc Go.Tk

theorem span_ext {a b : Span} (h : a.lo = b.lo) (k : a.hi = b.hi) : a = b := by cases a; cases b; simp_all
theorem ax_ext {a b : Ax} (h : a.x = b.x) (k : a.y = b.y) (j : a.z = b.z) : a = b := by cases a; cases b; simp_all
theorem hullS_comm (a b : Span) : hullS a b = hullS b a := span_ext (by show min _ _ = min _ _; omega) (by show max _ _ = max _ _; omega)
theorem hullS_assoc (a b c : Span) : hullS (hullS a b) c = hullS a (hullS b c) := span_ext (by show min (min _ _) _ = min _ (min _ _); omega) (by show max (max _ _) _ = max _ (max _ _); omega)
theorem hullA_comm (a b : Ax) : hullA a b = hullA b a := ax_ext (hullS_comm _ _) (hullS_comm _ _) (hullS_comm _ _)
theorem hullA_assoc (a b c : Ax) : hullA (hullA a b) c = hullA a (hullA b c) := ax_ext (hullS_assoc _ _ _) (hullS_assoc _ _ _) (hullS_assoc _ _ _)

section
variable {l : List Band} {z : Span}

def rskip (l : List Band) (z : Span) (i : Nat) : Bool := decide (z.hi < (bdAt l i).frm ∧ 0 < i) || decide ((bdAt l i).to ≤ z.lo)
def rwN (l : List Band) (z : Span) : Nat → Option Ax
  | 0 => if (bdAt l (l.length - 1)).to ≤ z.hi then some axZ else none
  | i + 1 => if rskip l z i = true then rwN l z i else addO (rwN l z i) ⟨(bdAt l i).x, (bdAt l i).y, spZ⟩

theorem bdFrm_at (hB : GoodB l) {i : Nat} (h : i < l.length) : (bdFrm l).getD i 0 = (bdAt l i).frm ∧ (bdFrm l).getD (i + 1) 0 = (bdAt l i).to := by
  have e : bdFrm l = l.map Band.frm ++ [(bdAt l (l.length - 1)).to] := by unfold bdFrm; rw [if_neg (by omega)]
  have at_ : ∀ j, j < l.length → (bdFrm l).getD j 0 = (bdAt l j).frm := by
    intro j hj
    rw [e, List.getD_eq_getElem?_getD, List.getElem?_append_left (by rw [List.length_map]; exact hj), List.getElem?_map, bdAt, List.getD_eq_getElem?_getD, List.getElem?_eq_getElem hj]; rfl
  refine ⟨at_ i h, ?_⟩
  by_cases hi : i + 1 < l.length
  · rw [at_ _ hi, (bd_zero (hB.bd _ hi)).1]
    rw [begB, if_neg (by omega)]; rfl
  have : i + 1 = l.length := by omega
  rw [e, List.getD_eq_getElem?_getD, List.getElem?_append_right (by rw [List.length_map]; omega), List.length_map, this]
  rw [show i = l.length - 1 by omega]; simp
theorem bdOf_len (h : 0 < l.length) : (bdOf l).length = l.length + 1 := by
  unfold bdOf; rw [if_neg (by omega)]; simp
theorem rskip_eq (hB : GoodB l) {i : Nat} (h : i < l.length) : skipI z (bdFrm l) (bdOf l).length i = rskip l z i := by
  obtain ⟨h1, h2⟩ := bdFrm_at hB h
  rw [bdOf_len (by omega), Bool.eq_iff_iff]
  simp only [skipI, rskip, Bool.or_eq_true, decide_eq_true_eq, h1, h2]
  omega
theorem bdOf_yes {i : Nat} (h : i < l.length) : (bdOf l).getD i axZ = ⟨(bdAt l i).x, (bdAt l i).y, spZ⟩ := by
  unfold bdOf; rw [if_neg (by omega)]
  rw [List.getD_eq_getElem?_getD, List.getElem?_append_left (by rw [List.length_map]; exact h), List.getElem?_map, bdAt, List.getD_eq_getElem?_getD, List.getElem?_eq_getElem h]; rfl
theorem bdOf_last (h : 0 < l.length) : (bdOf l).getD l.length axZ = axZ := by
  unfold bdOf; rw [if_neg (by omega)]
  rw [List.getD_eq_getElem?_getD, List.getElem?_append_right (by rw [List.length_map]; omega), List.length_map]; simp

theorem rw_some (hB : GoodB l) : ∀ k, k ≤ l.length → rwN l z k = if (bdAt l (l.length - 1)).to ≤ z.hi then (match someN z (bdFrm l) (bdOf l) k with | none => some axZ | some a => some (hullA axZ a)) else someN z (bdFrm l) (bdOf l) k := by
  intro k
  induction k with
  | zero => intro _; unfold rwN someN; rfl
  | succ k ih =>
    intro hk
    unfold rwN someN
    rw [rskip_eq hB (by omega), ih (by omega), bdOf_yes (by omega)]
    cases rskip l z k
    · simp only [Bool.false_eq_true, if_false]
      split
      · cases someN z (bdFrm l) (bdOf l) k with
        | none => rfl
        | some a => simp only [addO]; rw [hullA_assoc]
      rfl
    simp only [if_true]
theorem rw_winds (hB : GoodB l) : (rwN l z l.length).getD axZ = windsT l z := by
  have hl := oP_false.1 hB.len
  have h0 : 0 < l.length := by omega
  rw [rw_some hB _ (Nat.le_refl _), windsT, someT, bdOf_len h0, someN, bdOf_last h0]
  have hs : skipI z (bdFrm l) (bdOf l).length l.length = decide (z.hi < (bdAt l (l.length - 1)).to) := by
    have := (bdFrm_at hB (i := l.length - 1) (by omega)).2
    rw [show l.length - 1 + 1 = l.length by omega] at this
    rw [bdOf_len h0, Bool.eq_iff_iff]
    simp only [skipI, Bool.or_eq_true, decide_eq_true_eq, this]
    omega
  rw [hs]
  by_cases hz : (bdAt l (l.length - 1)).to ≤ z.hi
  · rw [if_pos hz, if_neg (by simp; omega)]
    cases someN z (bdFrm l) (bdOf l) l.length with
    | none => rfl
    | some a => simp only [addO, Option.getD_some]; exact hullA_comm _ _
  rw [if_neg hz, if_pos (by simp; omega)]
end

end Go.Fl

/- Layer 2: vehicles and bands in memory (plain). -/
set_option linter.all false
namespace Go.Fl
open Go.Vc Go.Tk

abbrev maxI : Int := 9223372036854775807
def VehV (v : Veh) (av pv qv : Value) : Value := .agg #[.string v.name, .int .i64 v.gravity.lo, .int .i64 v.gravity.hi, av, pv, qv]
/-- this value is this vehicle -/
structure VehR (w : World) (x : Value) (v : Veh) : Prop where
  name : (v.name.size : Int) ≤ 9223372036854775807
  names : ∀ p ∈ v.pieces, (p.name.size : Int) ≤ 9223372036854775807
  la : (v.air.length : Int) ≤ 9223372036854775807
  lp : (v.phases.length : Int) ≤ 9223372036854775807
  lq : (v.pieces.length : Int) ≤ 9223372036854775807
  ex : ∃ av pv qv, x = VehV v av pv qv ∧ SliceR w 2 av (v.air.map AirE.cells) ∧ SliceR w 13 pv (v.phases.map Phase.cells) ∧ SliceR w 13 qv (v.pieces.map Piece.cells)
theorem VehR.ext {w w' : World} {x : Value} {v : Veh} (h : VehR w x v) (he : Ext w w') : VehR w' x v := by
  obtain ⟨a, b, c, e, h1, h2, h3⟩ := h.ex
  exact ⟨h.name, h.names, h.la, h.lp, h.lq, a, b, c, e, h1.ext he, h2.ext he, h3.ext he⟩
theorem VehR.good {w0 w : World} {H : Heap} {x : Value} {v : Veh} (h : VehR w0 x v) (hg : Vc.Good w0 [] H w) : VehR w x v := h.ext hg.toExt
theorem VehR.pname {w : World} {x : Value} {v : Veh} (h : VehR w x v) (i : Nat) : ((v.pc i).name.size : Int) ≤ 9223372036854775807 := by
  rw [Veh.pc, List.getD_eq_getElem?_getD]
  cases hx : v.pieces[i]? with
  | none => exact (by decide : ((ByteArray.empty.size : Nat) : Int) ≤ 9223372036854775807)
  | some x => exact h.names x (List.mem_of_getElem? hx)
theorem VehR.sl {w : World} {av pv qv : Value} {v : Veh} (h : VehR w (VehV v av pv qv) v) : SliceR w 2 av (v.air.map AirE.cells) ∧ SliceR w 13 pv (v.phases.map Phase.cells) ∧ SliceR w 13 qv (v.pieces.map Piece.cells) := by
  obtain ⟨a, b, c, e, h1, h2, h3⟩ := h.ex
  unfold VehV at e
  simp only [Value.agg.injEq, Array.mk.injEq, List.cons.injEq, and_true, true_and] at e
  obtain ⟨rfl, rfl, rfl⟩ := e
  exact ⟨h1, h2, h3⟩
/-- these are these bands -/
structure BdsR (w : World) (x : Value) (l : List Band) : Prop where
  len : (l.length : Int) ≤ 9223372036854775807
  sl : SliceR w 6 x (l.map Band.cells)
theorem BdsR.ext {w w' : World} {x : Value} {l : List Band} (h : BdsR w x l) (he : Ext w w') : BdsR w' x l := ⟨h.len, h.sl.ext he⟩
theorem BdsR.good {w0 w : World} {H : Heap} {x : Value} {l : List Band} (h : BdsR w0 x l) (hg : Vc.Good w0 [] H w) : BdsR w x l := h.ext hg.toExt
/-- a path -/
structure PtsR (w : World) (x : Value) (l : List Pt) : Prop where
  len : (l.length : Int) ≤ 9223372036854775807
  sl : SliceR w 6 x (l.map Pt.cells)
theorem PtsR.ext {w w' : World} {x : Value} {l : List Pt} (h : PtsR w x l) (he : Ext w w') : PtsR w' x l := ⟨h.len, h.sl.ext he⟩
theorem PtsR.good {w0 w : World} {H : Heap} {x : Value} {l : List Pt} (h : PtsR w0 x l) (hg : Vc.Good w0 [] H w) : PtsR w x l := h.ext hg.toExt

/-! ### checks, as the program finds them -/
section
variable {v : Veh}
theorem checkV_name (h : nameOk v.name = false) : checkV v = (1, 0, 6) := if_pos h
theorem checkV_grav (h : nameOk v.name = true) (h2 : beyond v.gravity 0 200 = true) : checkV v = (1, 0, 7) := by
  unfold checkV; rw [if_neg (by rw [h]; decide), if_pos h2]
theorem checkV_long (h : nameOk v.name = true) (h2 : beyond v.gravity 0 200 = false) (h3 : 20 < v.air.length) : checkV v = (2, 0, 3) := by
  unfold checkV; rw [if_neg (by rw [h]; decide), if_neg (by rw [h2]; decide), if_pos h3]
/-- the head is as stated -/
structure HeadV (v : Veh) : Prop where
  name : nameOk v.name = true
  grav : beyond v.gravity 0 200 = false
  air : v.air.length ≤ 20
theorem checkV_1 (h : HeadV v) : checkV v = match firstErr (errAir v) 0 v.air.length with
    | some (i, e) => (2, i, e)
    | none => if oP v.phases.length 1 12 = true then (3, 0, 3) else match firstErr (errPh v) 0 v.phases.length with
      | some (i, e) => (3, i, e)
      | none => if v.pieces.length > 6 then (4, 0, 3) else match firstErr (errPc v) 0 v.pieces.length with
        | some (i, e) => (4, i, e)
        | none => (0, 0, 0) := by
  unfold checkV; rw [if_neg (by rw [h.name]; decide), if_neg (by rw [h.grav]; decide), if_neg (by have := h.air; omega)]; try rfl
theorem checkV_air {k : Nat} {e : Int} (h : HeadV v) (hk : k < v.air.length) (hb : ∀ j, j < k → errAir v j = 0) (he : errAir v k = e) (hn : e ≠ 0) : checkV v = (2, (k : Int), e) := by
  rw [checkV_1 h, firstErr_hit (k := k) (by omega) (by rw [he]; exact hn) hb, he]
theorem checkV_phs (h : HeadV v) (ha : ∀ j, j < v.air.length → errAir v j = 0) (h2 : oP v.phases.length 1 12 = true) : checkV v = (3, 0, 3) := by
  rw [checkV_1 h, firstErr_none ha]; exact if_pos h2
theorem checkV_ph {k : Nat} (h : HeadV v) (ha : ∀ j, j < v.air.length → errAir v j = 0) (h2 : oP v.phases.length 1 12 = false) (hk : k < v.phases.length) (hb : ∀ j, j < k → errPh v j = 0) (he : errPh v k = 7) : checkV v = (3, (k : Int), 7) := by
  rw [checkV_1 h, firstErr_none ha]
  show (if oP v.phases.length 1 12 = true then _ else _) = _
  rw [if_neg (by rw [h2]; decide), firstErr_hit (k := k) (by omega) (by rw [he]; decide) hb, he]
theorem checkV_pcs (h : HeadV v) (ha : ∀ j, j < v.air.length → errAir v j = 0) (h2 : oP v.phases.length 1 12 = false) (hp : ∀ j, j < v.phases.length → errPh v j = 0) (h3 : 6 < v.pieces.length) : checkV v = (4, 0, 3) := by
  rw [checkV_1 h, firstErr_none ha]
  show (if oP v.phases.length 1 12 = true then _ else _) = _
  rw [if_neg (by rw [h2]; decide), firstErr_none hp]; exact if_pos h3
theorem checkV_pc {k : Nat} {e : Int} (h : HeadV v) (ha : ∀ j, j < v.air.length → errAir v j = 0) (h2 : oP v.phases.length 1 12 = false) (hp : ∀ j, j < v.phases.length → errPh v j = 0) (h3 : v.pieces.length ≤ 6) (hk : k < v.pieces.length) (hb : ∀ j, j < k → errPc v j = 0) (he : errPc v k = e) (hn : e ≠ 0) : checkV v = (4, (k : Int), e) := by
  rw [checkV_1 h, firstErr_none ha]
  show (if oP v.phases.length 1 12 = true then _ else _) = _
  rw [if_neg (by rw [h2]; decide), firstErr_none hp]
  show (if v.pieces.length > 6 then _ else _) = _
  rw [if_neg (by omega), firstErr_hit (k := k) (by omega) (by rw [he]; exact hn) hb, he]
theorem checkV_ok (h : HeadV v) (ha : ∀ j, j < v.air.length → errAir v j = 0) (h2 : oP v.phases.length 1 12 = false) (hp : ∀ j, j < v.phases.length → errPh v j = 0) (h3 : v.pieces.length ≤ 6) (hq : ∀ j, j < v.pieces.length → errPc v j = 0) : checkV v = (0, 0, 0) := by
  rw [checkV_1 h, firstErr_none ha]
  show (if oP v.phases.length 1 12 = true then _ else _) = _
  rw [if_neg (by rw [h2]; decide), firstErr_none hp]
  show (if v.pieces.length > 6 then _ else _) = _
  rw [if_neg (by omega), firstErr_none hq]
theorem dupPc_take {i : Nat} (h : i ≤ v.pieces.length) : ((v.pieces.take i).any fun y => decide (y.name = (v.pc i).name)) = dupPc v i :=
  anyIdx_take (fun y : Piece => decide (y.name = (v.pc i).name)) pcZ v.pieces i h
section
variable {k e : Int} (h : HeadV v) (h0 : 0 ≤ k)
include h h0
theorem ck_air (hk : k < v.air.length) (hb : ∀ j : Nat, (j : Int) < k → errAir v j = 0) (he : errAir v k.toNat = e) (hn : e ≠ 0) : checkV v = (2, k, e) := by
  rw [checkV_air (k := k.toNat) (e := e) h (by omega) (fun j hj => hb j (by omega)) he hn, Int.toNat_of_nonneg h0]
theorem ck_ph (ha : ∀ j, j < v.air.length → errAir v j = 0) (h2 : oP v.phases.length 1 12 = false) (hk : k < v.phases.length) (hb : ∀ j : Nat, (j : Int) < k → errPh v j = 0) (he : errPh v k.toNat = 7) : checkV v = (3, k, 7) := by
  rw [checkV_ph (k := k.toNat) h ha h2 (by omega) (fun j hj => hb j (by omega)) he, Int.toNat_of_nonneg h0]
theorem ck_pc (ha : ∀ j, j < v.air.length → errAir v j = 0) (h2 : oP v.phases.length 1 12 = false) (hp : ∀ j, j < v.phases.length → errPh v j = 0) (h3 : v.pieces.length ≤ 6) (hk : k < v.pieces.length) (hb : ∀ j : Nat, (j : Int) < k → errPc v j = 0) (he : errPc v k.toNat = e) (hn : e ≠ 0) : checkV v = (4, k, e) := by
  rw [checkV_pc (k := k.toNat) (e := e) h ha h2 hp h3 (by omega) (fun j hj => hb j (by omega)) he hn, Int.toNat_of_nonneg h0]
end
theorem errPc_6 {i : Nat} (h : nameOk (v.pc i).name = false) : errPc v i = 6 := if_pos h
theorem errPc_5 {i : Nat} (h : nameOk (v.pc i).name = true) (h2 : dupPc v i = true) : errPc v i = 5 := by
  unfold errPc; rw [if_neg (by rw [h]; decide), if_pos h2]
theorem errPc_7 {i : Nat} (h : nameOk (v.pc i).name = true) (h2 : dupPc v i = false) (h3 : pcBad (v.pc i) = true) : errPc v i = 7 := by
  unfold errPc; rw [if_neg (by rw [h]; decide), if_neg (by rw [h2]; decide), if_pos h3]
theorem errPc_0 {i : Nat} (h : nameOk (v.pc i).name = true) (h2 : dupPc v i = false) (h3 : pcBad (v.pc i) = false) : errPc v i = 0 := by
  unfold errPc; rw [if_neg (by rw [h]; decide), if_neg (by rw [h2]; decide), if_neg (by rw [h3]; decide)]
theorem errPh_7 {i : Nat} (h : phBad (v.ph i) = true) : errPh v i = 7 := if_pos h
theorem errPh_0 {i : Nat} (h : phBad (v.ph i) = false) : errPh v i = 0 := if_neg (by rw [h]; decide)
end
theorem asked_1 {v : Veh} {d : Dir} {l : List Band} (h : (checkV v).2.2 ≠ 0) : askedF v d l = (checkV v).2.2 := if_pos h
theorem asked_2 {v : Veh} {d : Dir} {l : List Band} (h : (checkV v).2.2 = 0) (h2 : dirE d ≠ 0) : askedF v d l = dirE d := by
  unfold askedF; rw [if_neg (by omega), if_pos h2]
theorem asked_3 {v : Veh} {d : Dir} {l : List Band} (h : (checkV v).2.2 = 0) (h2 : dirE d = 0) : askedF v d l = (checkB l).2 := by
  unfold askedF; rw [if_neg (by omega), if_neg (by omega)]
theorem asked_0 {v : Veh} {d : Dir} {l : List Band} (h : askedF v d l = 0) : (checkV v).2.2 = 0 ∧ dirE d = 0 ∧ (checkB l).2 = 0 := by
  unfold askedF at h
  split at h
  · contradiction
  split at h
  · contradiction
  exact ⟨by omega, by omega, h⟩
/-! ### bands -/
section
variable {l : List Band} {k e : Int}
theorem cb_hit (h : oP l.length 1 20 = false) (h0 : 0 ≤ k) (hk : k < l.length) (hb : ∀ j : Nat, (j : Int) < k → errBd l j = 0) (he : errBd l k.toNat = e) (hn : e ≠ 0) : checkB l = (k, e) := by
  unfold checkB
  rw [if_neg (by rw [h]; decide), firstErr_hit (k := k.toNat) (by omega) (by rw [he]; exact hn) (fun j hj => hb j (by omega)), he]
  show (((k.toNat : Nat) : Int), e) = _
  rw [Int.toNat_of_nonneg h0]
theorem cb_ok (h : oP l.length 1 20 = false) (hb : ∀ j : Nat, j < l.length → errBd l j = 0) : checkB l = (0, 0) := by
  unfold checkB; rw [if_neg (by rw [h]; decide), firstErr_none hb]
/-- the error of a band that has to begin at a height -/
def bandE (b : Band) (frm : Int) : Int := if b.frm ≠ frm then 2 else if oP b.to (frm + 1) 100000000 = true ∨ stormB b = true then 7 else 0
theorem errBd_is (i : Nat) : errBd l i = bandE (bdAt l i) (begB l i) := rfl
theorem begB_succ (h0 : 0 ≤ k) : begB l (k + 1).toNat = (bdAt l k.toNat).to := by
  have e1 : (k + 1).toNat = k.toNat + 1 := by omega
  rw [e1]; unfold begB; rw [if_neg (by omega), Nat.add_sub_cancel]
end
end Go.Fl

/- Layer 2: what loops of the program find (plain). -/
set_option linter.all false
namespace Go.Fl
open Go.Vc Go.Tk

theorem floor_is {a b : Int} (hb : 0 < b) : (if a < a.tdiv b * b then a.tdiv b - 1 else a.tdiv b) = a / b := by
  have key : ∀ q : Int, q * b ≤ a → a < (q + 1) * b → a / b = q := fun q h1 h2 => by
    apply Int.le_antisymm
    · exact Int.lt_add_one_iff.1 ((Int.ediv_lt_iff_lt_mul hb).2 h2)
    exact (Int.le_ediv_iff_mul_le hb).2 h1
  rcases Int.le_total 0 a with h | h
  · rw [Int.tdiv_eq_ediv_of_nonneg h]
    have h1 := Int.ediv_mul_le a (show b ≠ 0 by omega)
    rw [if_neg (by omega)]
  have e : a.tdiv b = -((-a) / b) := by
    rw [← Int.tdiv_eq_ediv_of_nonneg (show 0 ≤ -a by omega), Int.neg_tdiv, Int.neg_neg]
  rw [e]
  have h1 := Int.ediv_mul_le (-a) (show b ≠ 0 by omega)
  have h2 := Int.lt_ediv_add_one_mul_self (-a) hb
  generalize (-a) / b = q at *
  have h3 : -q * b = -(q * b) := Int.neg_mul _ _
  have h4 : (q + 1) * b = q * b + b := by rw [Int.add_mul, Int.one_mul]
  have h5 : (-q - 1) * b = -(q * b) - b := by rw [Int.sub_mul, Int.one_mul, h3]
  have h6 : (-q + 1) * b = -(q * b) + b := by rw [Int.add_mul, Int.one_mul, h3]
  split
  · exact (key _ (by omega) (by rw [Int.sub_add_cancel]; omega)).symm
  exact (key _ (by omega) (by omega)).symm
theorem floor_bnd {a b : Int} (hb : 0 < b) : (0 ≤ a → 0 ≤ a.tdiv b * b ∧ a.tdiv b * b ≤ a ∧ 0 ≤ a.tdiv b ∧ a.tdiv b ≤ a) ∧ (a ≤ 0 → a ≤ a.tdiv b * b ∧ a.tdiv b * b ≤ 0 ∧ a ≤ a.tdiv b ∧ a.tdiv b ≤ 0) := by
  have key : ∀ n : Int, 0 ≤ n → 0 ≤ n / b * b ∧ n / b * b ≤ n ∧ 0 ≤ n / b ∧ n / b ≤ n := fun n hn =>
    ⟨Int.mul_nonneg (Int.ediv_nonneg hn (by omega)) (by omega), Int.ediv_mul_le n (by omega), Int.ediv_nonneg hn (by omega), Int.ediv_le_self b hn⟩
  refine ⟨fun h => ?_, fun h => ?_⟩
  · rw [Int.tdiv_eq_ediv_of_nonneg h]; exact key a h
  have e : a.tdiv b = -((-a) / b) := by
    rw [← Int.tdiv_eq_ediv_of_nonneg (show 0 ≤ -a by omega), Int.neg_tdiv, Int.neg_neg]
  have k := key (-a) (by omega)
  rw [e, Int.neg_mul]
  omega
section
variable {v : Veh}
/-- the last phase, as the program finds it, without thrust -/
def lastQ (v : Veh) : Phase := ⟨(v.phases.getD ((v.phases.length : Int) - 1).toNat phZ).ticks, spZ, (v.phases.getD ((v.phases.length : Int) - 1).toNat phZ).mass, (v.phases.getD ((v.phases.length : Int) - 1).toNat phZ).drag, axZ⟩
theorem lastQ_eq (v : Veh) : lastQ v = lastPh v := by
  unfold lastQ lastPh Veh.ph
  rw [show ((v.phases.length : Int) - 1).toNat = v.phases.length - 1 by omega]
theorem drop_ph {k : Nat} (h : k < v.phases.length) : v.phases.drop k = v.ph k :: v.phases.drop (k + 1) := by
  unfold Veh.ph; rw [List.getD_eq_getElem?_getD, List.getElem?_eq_getElem h]; exact List.drop_eq_getElem_cons h
theorem now_hit {k : Nat} {t t0 : Int} (hk : k < v.phases.length) (h : phaseN v.phases t0 = phaseN (v.phases.drop k) t) (ht : t < (v.ph k).ticks) : nowT v t0 = v.ph k := by
  unfold nowT; rw [h, drop_ph hk]; unfold phaseN; rw [if_pos ht]; rfl
theorem now_step {k : Nat} {t t0 : Int} (hk : k < v.phases.length) (h : phaseN v.phases t0 = phaseN (v.phases.drop k) t) (ht : ¬ t < (v.ph k).ticks) : phaseN v.phases t0 = phaseN (v.phases.drop (k + 1)) (t - (v.ph k).ticks) := by
  rw [h, drop_ph hk]; show (if t < (v.ph k).ticks then _ else _) = _; rw [if_neg ht]
theorem now_end {k : Nat} {t t0 : Int} (hk : v.phases.length ≤ k) (h : phaseN v.phases t0 = phaseN (v.phases.drop k) t) : nowT v t0 = lastPh v := by
  unfold nowT; rw [h, List.drop_eq_nil_of_le hk]; rfl
end
/-- what has been found of the parts ahead -/
def SomeI (z : Span) (frm : List Int) (of : List Ax) (k : Nat) (a : Ax) (found : Bool) : Prop := (found = true ∧ someN z frm of k = some a) ∨ (found = false ∧ a = axZ ∧ someN z frm of k = none)
section
variable {z : Span} {frm : List Int} {of : List Ax} {k : Nat} {a : Ax} {f : Bool}
theorem SomeI.zero : SomeI z frm of 0 axZ false := .inr ⟨rfl, rfl, rfl⟩
theorem SomeI.skip (h : SomeI z frm of k a f) (hs : skipI z frm of.length k = true) : SomeI z frm of (k + 1) a f := by
  unfold SomeI someN; rw [if_pos hs]; exact h
theorem SomeI.more (h : SomeI z frm of k a true) (hs : skipI z frm of.length k = false) : SomeI z frm of (k + 1) (hullA a (of.getD k axZ)) true := by
  rcases h with ⟨_, h⟩ | ⟨h, _⟩
  · refine .inl ⟨rfl, ?_⟩
    unfold someN; rw [if_neg (by rw [hs]; decide), h]; rfl
  cases h
theorem SomeI.first (h : SomeI z frm of k a false) (hs : skipI z frm of.length k = false) : SomeI z frm of (k + 1) (of.getD k axZ) true := by
  rcases h with ⟨h, _⟩ | ⟨_, _, h⟩
  · cases h
  refine .inl ⟨rfl, ?_⟩
  unfold someN; rw [if_neg (by rw [hs]; decide), h]; rfl
theorem SomeI.end (h : SomeI z frm of of.length a f) : a = someT z frm of := by
  unfold someT
  rcases h with ⟨_, h⟩ | ⟨_, rfl, h⟩ <;> rw [h] <;> rfl
theorem skip_lo {i n : Nat} (hi : 0 < i) (h : z.hi < frm.getD i 0) : skipI z frm n i = true := by
  unfold skipI; rw [decide_eq_true ⟨hi, h⟩]; rfl
theorem skip_hi {i n : Nat} (hi : i + 1 < n) (h : frm.getD (i + 1) 0 - 1 < z.lo) : skipI z frm n i = true := by
  unfold skipI; rw [decide_eq_true (p := i + 1 < n ∧ _) ⟨hi, h⟩, Bool.or_true]
theorem skip_no {i n : Nat} (h : ¬ (0 < i ∧ z.hi < frm.getD i 0)) (h2 : ¬ (i + 1 < n ∧ frm.getD (i + 1) 0 - 1 < z.lo)) : skipI z frm n i = false := by
  unfold skipI; rw [decide_eq_false h, decide_eq_false h2]; rfl
end
/-- no state up to here is too far -/
def NoFar (f : Nat → St) (n : Nat) : Prop := ∀ j, j < n → farS (f j) = false
theorem anyFar_true {f : Nat → St} {n k : Nat} (hk : k ≤ n) (h : farS (f k) = true) : anyFar f n = true := by
  unfold anyFar; rw [List.any_eq_true]; exact ⟨k, List.mem_range.2 (by omega), h⟩
theorem anyFar_false {f : Nat → St} {n : Nat} (h : NoFar f (n + 1)) : anyFar f n = false := by
  unfold anyFar; rw [List.any_eq_false]; intro k hk; rw [h k (List.mem_range.1 hk)]; decide
theorem div_size {a b : Int} (hb : 0 < b) : (0 ≤ a → 0 ≤ a / b ∧ a / b ≤ a) ∧ (a ≤ 0 → a ≤ a / b ∧ a / b ≤ 0) := by
  refine ⟨fun h => ⟨Int.ediv_nonneg h (by omega), Int.ediv_le_self b h⟩, fun h => ⟨?_, ?_⟩⟩
  · rw [Int.le_ediv_iff_mul_le hb]
    have := Int.mul_le_mul_of_nonpos_left h (show 1 ≤ b by omega)
    omega
  have := Int.ediv_le_ediv hb h
  rwa [Int.zero_ediv] at this
def spC (s : Span) : List Value := [.int .i64 s.lo, .int .i64 s.hi]
def axC (a : Ax) : List Value := axV a
def axL (l : List Ax) : List Value := (l.map axC).flatten
theorem axL_len (l : List Ax) : ∀ e ∈ l.map axC, e.length = 6 := by intro e he; obtain ⟨x, _, rfl⟩ := List.mem_map.1 he; rfl
theorem getD_map {α β : Type} (f : α → β) (d : α) (e : β) (l : List α) {i : Nat} (h : i < l.length) : (l.map f).getD i e = f (l.getD i d) := by
  simp [List.getD_eq_getElem?_getD, List.getElem?_map, List.getElem?_eq_getElem h]
theorem getD_far {α : Type} (d : α) (l : List α) {i : Nat} (h : l.length ≤ i) : l.getD i d = d := by
  rw [List.getD_eq_getElem?_getD, List.getElem?_eq_none h]; rfl
theorem ar_nonneg {v : Veh} (hV : GoodV v) : ∀ i, i < v.air.length → 0 ≤ (v.ar i).frm ∧ (v.ar i).frm ≤ 2000000000 := by
  intro i
  induction i with
  | zero => intro h; have := ar_zero (hV.air 0 h); have h1 := this.1.1 rfl; omega
  | succ i ih => intro h; have := ar_zero (hV.air (i + 1) h); have h1 := this.1.2 (by omega); have h2 := ih (by omega); rw [Nat.add_sub_cancel] at h1; omega
theorem arFrm_bnd {v : Veh} (hV : GoodV v) (i : Nat) : 0 ≤ (arFrm v).getD i 0 ∧ (arFrm v).getD i 0 ≤ 1000000000000 := by
  unfold arFrm
  by_cases h : i < v.air.length
  · rw [getD_map AirE.frm airZ 0 v.air h]; have := ar_nonneg hV i h; unfold Veh.ar at this; omega
  rw [getD_far 0 _ (by rw [List.length_map]; omega)]; omega
/-- the first k parts of the air -/
def arFN (v : Veh) (k : Nat) : List Int := (v.air.take k).map AirE.frm
def arON (v : Veh) (k : Nat) : List Ax := (v.air.take k).map fun a => ⟨at1 a.dens, spZ, spZ⟩
theorem take_succ_getD {α : Type} (d : α) (l : List α) {k : Nat} (h : k < l.length) : l.take (k + 1) = l.take k ++ [l.getD k d] := by
  rw [List.take_succ, List.getElem?_eq_getElem h, List.getD_eq_getElem?_getD, List.getElem?_eq_getElem h]; rfl
theorem arFN_s {v : Veh} {k : Nat} (h : k < v.air.length) : iiL (arFN v (k + 1)) = iiL (arFN v k) ++ [.int .i64 (v.air.getD k airZ).frm] := by
  unfold arFN iiL; rw [take_succ_getD airZ v.air h]; simp
theorem arON_s {v : Veh} {k : Nat} (h : k < v.air.length) : axL (arON v (k + 1)) = axL (arON v k) ++ axC ⟨at1 (v.air.getD k airZ).dens, spZ, spZ⟩ := by
  unfold arON axL; rw [take_succ_getD airZ v.air h]; simp
theorem arFN_all (v : Veh) : arFN v v.air.length = arFrm v := by unfold arFN arFrm; rw [List.take_length]
theorem arON_all (v : Veh) : arON v v.air.length = arOf v := by unfold arON arOf; rw [List.take_length]
/-- what has been made of the first k bands -/
def bdFN (l : List Band) (k : Nat) : List Int := if k = l.length then bdFrm l else (l.take k).map Band.frm
def bdON (l : List Band) (k : Nat) : List Ax := if k = l.length then bdOf l else (l.take k).map fun b => ⟨b.x, b.y, spZ⟩
section
variable {l : List Band} {k : Nat}
theorem bdFN_0 (l : List Band) : bdFN l 0 = [] := by
  unfold bdFN bdFrm; split
  · rw [if_pos (by omega)]
  rfl
theorem bdON_0 (l : List Band) : bdON l 0 = [] := by
  unfold bdON bdOf; split
  · rw [if_pos (by omega)]
  rfl
theorem bdFN_at (h : k < l.length) : bdFN l k = (l.take k).map Band.frm := if_neg (by omega)
theorem bdON_at (h : k < l.length) : bdON l k = (l.take k).map fun b => ⟨b.x, b.y, spZ⟩ := if_neg (by omega)
theorem bdFN_len (h : k < l.length) : (bdFN l k).length = k := by rw [bdFN_at h, List.length_map, List.length_take]; omega
theorem bdON_len (h : k < l.length) : (bdON l k).length = k := by rw [bdON_at h, List.length_map, List.length_take]; omega
theorem bdFN_s (h : k + 1 < l.length) : bdFN l (k + 1) = bdFN l k ++ [(l.getD k bdZ).frm] := by
  rw [bdFN_at h, bdFN_at (by omega), take_succ_getD bdZ l (by omega), List.map_append]; rfl
theorem bdON_s (h : k + 1 < l.length) : bdON l (k + 1) = bdON l k ++ [⟨(l.getD k bdZ).x, (l.getD k bdZ).y, spZ⟩] := by
  rw [bdON_at h, bdON_at (by omega), take_succ_getD bdZ l (by omega), List.map_append]; rfl
theorem bdFN_e (h : k + 1 = l.length) : bdFN l (k + 1) = (bdFN l k ++ [(l.getD k bdZ).frm]) ++ [(l.getD k bdZ).to] := by
  rw [bdFN_at (k := k) (by omega), bdFN, if_pos h, bdFrm, if_neg (by omega)]
  have e1 : l.take (k + 1) = l := by rw [h, List.take_length]
  have e2 : l.map Band.frm = (l.take k).map Band.frm ++ [(l.getD k bdZ).frm] := by
    conv => lhs; rw [← e1, take_succ_getD bdZ l (by omega), List.map_append]
    rfl
  rw [e2, show l.length - 1 = k by omega]; rfl
theorem bdON_e (h : k + 1 = l.length) : bdON l (k + 1) = (bdON l k ++ [⟨(l.getD k bdZ).x, (l.getD k bdZ).y, spZ⟩]) ++ [axZ] := by
  rw [bdON_at (k := k) (by omega), bdON, if_pos h, bdOf, if_neg (by omega)]
  have e1 : l.take (k + 1) = l := by rw [h, List.take_length]
  have e2 : (l.map fun b => (⟨b.x, b.y, spZ⟩ : Ax)) = (l.take k).map (fun b => (⟨b.x, b.y, spZ⟩ : Ax)) ++ [⟨(l.getD k bdZ).x, (l.getD k bdZ).y, spZ⟩] := by
    conv => lhs; rw [← e1, take_succ_getD bdZ l (by omega), List.map_append]
    rfl
  rw [e2]
theorem bdFN_all (l : List Band) : bdFN l l.length = bdFrm l := if_pos rfl
theorem bdON_all (l : List Band) : bdON l l.length = bdOf l := if_pos rfl
theorem iiL_app (a b : List Int) : iiL (a ++ b) = iiL a ++ iiL b := List.map_append
theorem axL_app (a b : List Ax) : axL (a ++ b) = axL a ++ axL b := by unfold axL; rw [List.map_append, List.flatten_append]
theorem bd_nonneg (hB : GoodB l) : ∀ i, i < l.length → 0 ≤ (bdAt l i).frm ∧ (bdAt l i).frm < (bdAt l i).to ∧ (bdAt l i).to ≤ 100000000 := by
  intro i
  induction i with
  | zero => intro h; have := bd_zero (hB.bd 0 h); have e : begB l 0 = 0 := rfl; rw [e] at this; omega
  | succ i ih => intro h; have := bd_zero (hB.bd (i + 1) h); have e : begB l (i + 1) = (bdAt l i).to := rfl; rw [e] at this; have h2 := ih (by omega); omega
theorem bdFrm_len (l : List Band) : (bdFrm l).length = (bdOf l).length := by
  unfold bdFrm bdOf; split <;> simp
theorem bdFrm_bnd (hB : GoodB l) (i : Nat) : 0 ≤ (bdFrm l).getD i 0 ∧ (bdFrm l).getD i 0 ≤ 1000000000000 := by
  by_cases h : i < l.length
  · rw [(bdFrm_at hB h).1]; have := bd_nonneg hB i h; omega
  by_cases h2 : i = l.length ∧ 0 < l.length
  · have := (bdFrm_at hB (i := l.length - 1) (by omega)).2
    rw [show l.length - 1 + 1 = i by omega] at this
    rw [this]; have := bd_nonneg hB (l.length - 1) (by omega); omega
  rw [getD_far 0 _ (by unfold bdFrm; split <;> simp <;> omega)]; omega
end
section
variable {l : List Band} {v : Veh} {z : Span}
end
def forceE (v : Veh) (d : Dir) (l : List Band) (tick : Int) (s : St) : Int := if askedF v d l ≠ 0 then askedF v d l else if oP tick 0 3000 = true ∨ farS s = true then 7 else 0
def forceP (v : Veh) (d : Dir) (l : List Band) (tick : Int) (s : St) : Ax := if forceE v d l tick s ≠ 0 then axZ else forceT v d l (nowT v tick) s
section
variable {v : Veh} {d : Dir} {l : List Band} {tick : Int} {s : St}
theorem forceE_1 (h : askedF v d l ≠ 0) : forceE v d l tick s = askedF v d l := if_pos h
theorem forceE_2 (h : askedF v d l = 0) (h2 : oP tick 0 3000 = true ∨ farS s = true) : forceE v d l tick s = 7 := by unfold forceE; rw [if_neg (by omega), if_pos h2]
theorem forceE_3 (h : askedF v d l = 0) (h2 : oP tick 0 3000 = false) (h3 : farS s = false) : forceE v d l tick s = 0 := by unfold forceE; rw [if_neg (by omega), if_neg (by rw [h2, h3]; rintro (k | k) <;> cases k)]
theorem forceP_e (h : forceE v d l tick s ≠ 0) : forceP v d l tick s = axZ := if_pos h
theorem forceP_0 (h : forceE v d l tick s = 0) : forceP v d l tick s = forceT v d l (nowT v tick) s := if_neg (by omega)
end
/-- what the iterator hands over -/
def statesV (f : Nat → St) (n : Nat) : List (List Value) := (List.range n).map fun (j : Nat) => [.int .i64 (j : Int), .agg (St.cells (f j)).toArray]
theorem statesV_len (f : Nat → St) (n : Nat) : (statesV f n).length = n := by unfold statesV; rw [List.length_map, List.length_range]
theorem statesV_s (f : Nat → St) (n : Nat) : statesV f (n + 1) = statesV f n ++ [[.int .i64 (n : Int), .agg (St.cells (f n)).toArray]] := by unfold statesV; rw [List.range_succ, List.map_append]; rfl
/-- a flight in memory: the vehicle, the direction, the bands -/
def flC (v : Veh) (av pv qv : Value) (d : Dir) (bv : Value) : List Value := [.string v.name, .int .i64 v.gravity.lo, .int .i64 v.gravity.hi, av, pv, qv, .int .i64 d.x, .int .i64 d.x, .int .i64 d.y, .int .i64 d.y, .int .i64 d.z, .int .i64 d.z, bv]
/-- the least, and the greatest, of the first k + 1 numbers -/
def minN (l : List Int) : Nat → Int
  | 0 => l.getD 0 0
  | k + 1 => min (minN l k) (l.getD (k + 1) 0)
def maxN (l : List Int) : Nat → Int
  | 0 => l.getD 0 0
  | k + 1 => max (maxN l k) (l.getD (k + 1) 0)
end Go.Fl

/- What the first states depend on; Top (plain). -/
set_option linter.all false
namespace Go.Fl
open Go.Vc Go.Tk

theorem good_checkV {v : Veh} (h : GoodV v) : (checkV v).2.2 = 0 := by
  rw [checkV_ok ⟨h.name, h.grav, h.air20⟩ h.air h.ph12 h.ph h.pc6 h.pc]
theorem good_checkB {l : List Band} (h : GoodB l) : (checkB l).2 = 0 := by rw [cb_ok h.len h.bd]
theorem good_asked {v : Veh} {d : Dir} {l : List Band} (h : GoodV v) (hd : dirE d = 0) (hB : GoodB l) : askedF v d l = 0 := by
  rw [asked_3 (good_checkV h) hd]; exact good_checkB hB

/-! ### Top -/
theorem rowS_len (f : Nat → St) (n : Nat) : (rowS f n).length = n + 1 := by unfold rowS; rw [List.length_map, List.length_range]
theorem rowS_getD (f : Nat → St) {n i : Nat} (h : i ≤ n) : (rowS f n).getD i stZ = f i := by
  unfold rowS; rw [List.getD_eq_getElem?_getD, List.getElem?_map, List.getElem?_range (by omega)]; rfl
theorem anyFar_iff {f : Nat → St} {n : Nat} : anyFar f n = false ↔ ∀ j, j ≤ n → farS (f j) = false := by
  constructor
  · intro h j hj
    unfold anyFar at h; rw [List.any_eq_false] at h
    simpa using h j (List.mem_range.2 (by omega))
  intro h; exact anyFar_false (fun j hj => h j (by omega))

section
variable {v : Veh} {d : Dir} {l : List Band} {n : Int}
theorem fly_mk (ha : askedF v d l = 0) (hn : 0 ≤ n ∧ n ≤ 3000) (hf : ∀ j, j ≤ n.toNat → farS (stT v d l j) = false) : flyE v d l n = 0 := by
  unfold flyE
  rw [if_neg (by omega), if_neg (by rw [oP_false.2 hn]; decide), if_neg (by rw [anyFar_iff.2 hf]; decide)]
theorem flyL_ok (h : flyE v d l n = 0) : flyL v d l n = rowS (stT v d l) n.toNat := by unfold flyL; rw [if_neg (by omega)]
theorem flyL_bad (h : flyE v d l n ≠ 0) : flyL v d l n = [] := if_pos h
theorem fly_asked (h : askedF v d l ≠ 0) : flyE v d l n = askedF v d l := if_pos h
theorem fly_range (h : askedF v d l = 0) (h2 : oP n 0 3000 = true) : flyE v d l n = 7 := by unfold flyE; rw [if_neg (by omega), if_pos h2]
theorem fly_far (h : askedF v d l = 0) (h2 : oP n 0 3000 = false) {j : Nat} (hj : j ≤ n.toNat) (h3 : farS (stT v d l j) = true) : flyE v d l n = 3 := by
  unfold flyE; rw [if_neg (by omega), if_neg (by rw [h2]; decide), if_pos (anyFar_true hj h3)]
end

/-! ### phases -/
end Go.Fl

/- Impacts taken apart (plain). -/
set_option linter.all false
namespace Go.Fl
open Go.Vc Go.Tk

def ofI (v : Veh) (d : Dir) (l : List Band) (i : Nat) : Nat → St := if i < v.pieces.length then pcT v d l (v.pc i) else stT v d l
def frmI (v : Veh) (i : Nat) : Int := if i < v.pieces.length then (v.pc i).at_ else 0
def flrI (v : Veh) (i : Nat) : Int := if i < v.pieces.length then (v.pc i).floor else 0

section
variable {v : Veh} {d : Dir} {l : List Band}
theorem imps_ok (h : impsE v d l = 0) : askedF v d l = 0 ∧ ∀ i, i ≤ v.pieces.length → (impT v d l i).2 = 0 := by
  unfold impsE at h
  split at h
  · contradiction
  refine ⟨by omega, ?_⟩
  have key : ∀ n, impsN v d l n = 0 → ∀ i, i < n → (impT v d l i).2 = 0 := by
    intro n
    induction n with
    | zero => intro _ i hi; omega
    | succ n ih =>
      intro h i hi
      unfold impsN at h
      split at h
      · contradiction
      by_cases e : i = n
      · rw [e]; exact h
      exact ih (by omega) i (by omega)
  exact fun i hi => key _ h i (by omega)
theorem imp_is (hV : GoodV v) {i : Nat} (h : (impT v d l i).2 = 0) :
    ∃ a b, ImpIs (ofI v d l i) (frmI v i) (flrI v i) i (impT v d l i).1 a b ∧ 0 ≤ frmI v i ∧ frmI v i + b ≤ 3000 ∧ (i < v.pieces.length → anyFar (stT v d l) (v.pc i).at_.toNat = false) := by
  have pre : ∀ (f : Nat → St) (frm floor : Int), ImpPre f frm floor i 0 ⟨i, spZ, spZ, spZ⟩ := fun f frm floor => ⟨rfl, .inl ⟨rfl, fun j h1 h2 => by omega⟩⟩
  unfold impT at h ⊢
  unfold ofI frmI flrI
  by_cases hi : i < v.pieces.length
  · have hpc := (pc_zero (hV.pc i hi)).at_
    simp only [if_pos hi] at h ⊢
    by_cases hf : anyFar (stT v d l) (v.pc i).at_.toNat = true
    · rw [if_pos hf] at h; cases h
    rw [if_neg hf] at h ⊢
    obtain ⟨a, b, h1, h2⟩ := impN_is (by omega) _ 0 _ _ (pre _ _ _) (fun j hj => by omega) (fun j _ hj => by omega) (Prod.ext rfl h)
    exact ⟨a, b, h1, by omega, by omega, fun _ => by simpa using hf⟩
  simp only [if_neg hi] at h ⊢
  obtain ⟨a, b, h1, h2⟩ := impN_is (Int.le_refl 0) _ 0 _ _ (pre _ _ _) (fun j hj => by omega) (fun j _ hj => by omega) (Prod.ext rfl h)
  exact ⟨a, b, h1, by omega, by omega, fun h => absurd h hi⟩

theorem impsL_ok (h : impsE v d l = 0) : impsL v d l = (List.range (v.pieces.length + 1)).map fun i => (impT v d l i).1 := by unfold impsL; rw [if_neg (by omega)]
theorem impsL_bad (h : impsE v d l ≠ 0) : impsL v d l = [] := if_pos h
theorem impsL_at (h : impsE v d l = 0) {i : Nat} (hi : i ≤ v.pieces.length) : (impsL v d l).getD i imZ = (impT v d l i).1 := by
  rw [impsL_ok h, List.getD_eq_getElem?_getD, List.getElem?_map, List.getElem?_range (by omega)]; rfl
theorem impsL_len (h : impsE v d l = 0) : (impsL v d l).length = v.pieces.length + 1 := by rw [impsL_ok h, List.length_map, List.length_range]

theorem piece_ok {i n : Int} (h : pieceE v d l i n = 0) : askedF v d l = 0 ∧ (0 ≤ i ∧ i ≤ v.pieces.length - 1) ∧ (0 ≤ n ∧ n ≤ 3000 - (v.pc i.toNat).at_) ∧ (∀ j, j ≤ (v.pc i.toNat).at_.toNat → farS (stT v d l j) = false) ∧ ∀ j, j ≤ n.toNat → farS (pcT v d l (v.pc i.toNat) j) = false := by
  unfold pieceE at h
  split at h
  · contradiction
  split at h
  · cases h
  rename_i h1 h2
  split at h
  · cases h
  rename_i h3
  split at h
  · cases h
  rename_i h4
  rw [not_or] at h4
  exact ⟨by omega, oP_false.1 (by simpa using h2), oP_false.1 (by simpa using h3), anyFar_iff.1 (by simpa using h4.1), anyFar_iff.1 (by simpa using h4.2)⟩
theorem piece_mk {i n : Int} (ha : askedF v d l = 0) (hi : 0 ≤ i ∧ i ≤ v.pieces.length - 1) (hn : 0 ≤ n ∧ n ≤ 3000 - (v.pc i.toNat).at_) (hf : ∀ j, j ≤ (v.pc i.toNat).at_.toNat → farS (stT v d l j) = false) (hg : ∀ j, j ≤ n.toNat → farS (pcT v d l (v.pc i.toNat) j) = false) : pieceE v d l i n = 0 := by
  unfold pieceE
  rw [if_neg (by omega), if_neg (by rw [oP_false.2 hi]; decide), if_neg (by rw [oP_false.2 hn]; decide), if_neg (by rw [anyFar_iff.2 hf, anyFar_iff.2 hg]; decide)]
theorem pieceL_ok {i n : Int} (h : pieceE v d l i n = 0) : pieceL v d l i n = rowS (pcT v d l (v.pc i.toNat)) n.toNat := by unfold pieceL; rw [if_neg (by omega)]
theorem pieceL_bad {i n : Int} (h : pieceE v d l i n ≠ 0) : pieceL v d l i n = [] := if_pos h
theorem piece_asked {i n : Int} (h : askedF v d l ≠ 0) : pieceE v d l i n = askedF v d l := if_pos h
theorem piece_none {i n : Int} (h : askedF v d l = 0) (h2 : oP i 0 (v.pieces.length - 1) = true) : pieceE v d l i n = 4 := by unfold pieceE; rw [if_neg (by omega), if_pos h2]
theorem piece_range {i n : Int} (h : askedF v d l = 0) (h2 : oP i 0 (v.pieces.length - 1) = false) (h3 : oP n 0 (3000 - (v.pc i.toNat).at_) = true) : pieceE v d l i n = 7 := by
  unfold pieceE; rw [if_neg (by omega), if_neg (by rw [h2]; decide), if_pos h3]
theorem piece_far1 {i n : Int} (h : askedF v d l = 0) (h2 : oP i 0 (v.pieces.length - 1) = false) (h3 : oP n 0 (3000 - (v.pc i.toNat).at_) = false) {j : Nat} (hj : j ≤ (v.pc i.toNat).at_.toNat) (h4 : farS (stT v d l j) = true) : pieceE v d l i n = 3 := by
  unfold pieceE; rw [if_neg (by omega), if_neg (by rw [h2]; decide), if_neg (by rw [h3]; decide), if_pos (.inl (anyFar_true hj h4))]
theorem piece_far2 {i n : Int} (h : askedF v d l = 0) (h2 : oP i 0 (v.pieces.length - 1) = false) (h3 : oP n 0 (3000 - (v.pc i.toNat).at_) = false) {j : Nat} (hj : j ≤ n.toNat) (h4 : farS (pcT v d l (v.pc i.toNat) j) = true) : pieceE v d l i n = 3 := by
  unfold pieceE; rw [if_neg (by omega), if_neg (by rw [h2]; decide), if_neg (by rw [h3]; decide), if_pos (.inr (anyFar_true hj h4))]

/-! ### an impact, as its states tell it -/
end

end Go.Fl

/- Flights turned by a quarter (plain). -/
set_option linter.all false
namespace Go.Fl
open Go.Vc Go.Tk

section
variable {v : Veh} {d : Dir} {l : List Band}
/-! ### what is valid stays valid -/
end
end Go.Fl

/- The reference's squares, quotients and impacts (plain). -/
set_option linter.all false
namespace Go.Fl
open Go.Vc Go.Tk

/-! ### impacts -/
def refN (frm floor : Int) (o : Imp × Bool) (t : Nat) (s : St) : Imp × Bool :=
  if t = 0 ∨ (floor < s.p.z.lo ∧ o.2 = false) then o
  else (⟨o.1.piece, if o.2 = true then hullS o.1.x s.p.x else s.p.x, if o.2 = true then hullS o.1.y s.p.y else s.p.y, ⟨if o.2 = true then o.1.at_.lo else frm + t, 0⟩⟩, true)
def RelI (x : Imp) (o : Imp × Bool) : Prop := x.piece = o.1.piece ∧ o.1.at_.hi = 0 ∧ ((o.2 = false ∧ x.at_.lo = 0 ∧ o.1.at_.lo = 0) ∨ (o.2 = true ∧ 0 < x.at_.lo ∧ o.1.x = x.x ∧ o.1.y = x.y ∧ o.1.at_.lo = x.at_.lo))
section
variable {frm floor : Int} {x : Imp} {o : Imp × Bool} {t : Nat} {s : St}
theorem ref_skip (h : RelI x o) (hc : t = 0 ∨ (floor < s.p.z.lo ∧ o.2 = false)) : watchT frm floor x t s = (x, false) ∧ refN frm floor o t s = o := by
  refine ⟨?_, if_pos hc⟩
  unfold watchT
  refine if_pos ?_
  rcases hc with hc | ⟨h1, h2⟩
  · exact .inl hc
  rcases h.2.2 with ⟨_, h3, _⟩ | ⟨h3, _⟩
  · exact .inr ⟨h3, h1⟩
  rw [h2] at h3; cases h3
theorem ref_go (h0 : 0 ≤ frm) (h : RelI x o) (hc : ¬(t = 0 ∨ (floor < s.p.z.lo ∧ o.2 = false))) :
    RelI (watchT frm floor x t s).1 (refN frm floor o t s) ∧ (watchT frm floor x t s).2 = decide (s.p.z.hi ≤ floor) ∧ (refN frm floor o t s).2 = true ∧
      (watchT frm floor x t s).1 = ⟨o.1.piece, (refN frm floor o t s).1.x, (refN frm floor o t s).1.y, ⟨(refN frm floor o t s).1.at_.lo, frm + t⟩⟩ := by
  obtain ⟨hp, hh, h⟩ := h
  unfold watchT refN
  rw [if_neg hc]
  rcases h with ⟨h1, h2, h3⟩ | ⟨h1, h2, h3, h4, h5⟩
  · have hn : ¬(t = 0 ∨ x.at_.lo = 0 ∧ floor < s.p.z.lo) := fun k => hc (k.elim .inl fun k => .inr ⟨k.2, h1⟩)
    rw [if_neg hn, if_neg (by omega), h1]
    refine ⟨⟨hp, rfl, .inr ⟨rfl, ?_, rfl, rfl, rfl⟩⟩, rfl, rfl, ?_⟩
    · show 0 < frm + (t : Int)
      omega
    dsimp only; rw [hp]; rfl
  have hn : ¬(t = 0 ∨ x.at_.lo = 0 ∧ floor < s.p.z.lo) := fun k => hc (k.elim .inl fun k => by omega)
  rw [if_neg hn, if_pos h2, h1]
  simp only [if_true]
  rw [h3, h4, h5, hullS_comm x.x, hullS_comm x.y]
  refine ⟨⟨hp, rfl, .inr ⟨rfl, h2, rfl, rfl, rfl⟩⟩, trivial, trivial, ?_⟩
  rw [hp]
/-- where the reference stands ahead of tick t -/
def AtI (f : Nat → St) (frm floor pc : Int) (n t : Nat) (o : Imp × Bool) : Prop :=
  (∃ x, RelI x o ∧ o.1.piece = pc ∧ t ≤ n ∧ impN f frm floor n 0 ⟨pc, spZ, spZ, spZ⟩ = impN f frm floor (n - t) t x) ∨ (t = n + 1 ∧ impN f frm floor n 0 ⟨pc, spZ, spZ, spZ⟩ = (imZ, 9))
variable {f : Nat → St} {pc : Int} {n : Nat}
theorem AtI.zero : AtI f frm floor pc n 0 (⟨pc, spZ, spZ, spZ⟩, false) := .inl ⟨⟨pc, spZ, spZ, spZ⟩, ⟨rfl, rfl, .inl ⟨rfl, rfl, rfl⟩⟩, rfl, Nat.zero_le _, rfl⟩
theorem impN_far {k : Nat} (h : farS (f t) = true) : impN f frm floor k t x = (imZ, 3) := by
  cases k <;> (unfold impN; rw [if_pos h])
theorem impN_hit {k : Nat} (h : farS (f t) = false) (hw : (watchT frm floor x t (f t)).2 = true) : impN f frm floor k t x = ((watchT frm floor x t (f t)).1, 0) := by
  cases k <;> (unfold impN; rw [if_neg (by rw [h]; decide), if_pos hw])
theorem AtI.pass (h : AtI f frm floor pc n t o) (ht : t ≤ n) (hf : farS (f t) = false) {x' : Imp} {o' : Imp × Bool} (hw : ∀ x, RelI x o → (watchT frm floor x t (f t)).2 = false ∧ RelI (watchT frm floor x t (f t)).1 o') (hp : o'.1.piece = o.1.piece) : AtI f frm floor pc n (t + 1) o' := by
  rcases h with ⟨x, h1, h2, h3, h4⟩ | ⟨h1, _⟩
  · obtain ⟨w1, w2⟩ := hw x h1
    by_cases e : t = n
    · subst e
      refine .inr ⟨rfl, h4.trans ?_⟩
      rw [Nat.sub_self]; unfold impN; rw [if_neg (by rw [hf]; decide), if_neg (by rw [w1]; decide)]
    refine .inl ⟨_, w2, hp.trans h2, by omega, h4.trans ?_⟩
    rw [show n - t = (n - (t + 1)) + 1 by omega, impN, if_neg (by rw [hf]; decide), if_neg (by rw [w1]; decide)]
  omega
theorem AtI.skip (h : AtI f frm floor pc n t o) (ht : t ≤ n) (hf : farS (f t) = false) (hc : t = 0 ∨ (floor < (f t).p.z.lo ∧ o.2 = false)) : AtI f frm floor pc n (t + 1) o :=
  h.pass (x' := imZ) ht hf (fun x hx => by rw [(ref_skip (frm := frm) hx hc).1]; exact ⟨rfl, hx⟩) rfl
theorem AtI.more (h0 : 0 ≤ frm) (h : AtI f frm floor pc n t o) (ht : t ≤ n) (hf : farS (f t) = false) (hc : ¬(t = 0 ∨ (floor < (f t).p.z.lo ∧ o.2 = false))) (hz : ¬ (f t).p.z.hi ≤ floor) : AtI f frm floor pc n (t + 1) (refN frm floor o t (f t)) :=
  h.pass (x' := imZ) ht hf (fun x hx => by
    obtain ⟨h1, h2, _, _⟩ := ref_go h0 hx hc
    exact ⟨by rw [h2]; exact decide_eq_false hz, h1⟩) (by unfold refN; rw [if_neg hc])
theorem AtI.far (h : AtI f frm floor pc n t o) (ht : t ≤ n) (hf : farS (f t) = true) : impN f frm floor n 0 ⟨pc, spZ, spZ, spZ⟩ = (imZ, 3) := by
  rcases h with ⟨x, h1, h2, h3, h4⟩ | ⟨h1, _⟩
  · rw [h4, impN_far hf]
  omega
theorem AtI.end (h : AtI f frm floor pc n (n + 1) o) : impN f frm floor n 0 ⟨pc, spZ, spZ, spZ⟩ = (imZ, 9) := by
  rcases h with ⟨x, h1, h2, h3, h4⟩ | ⟨_, h⟩
  · omega
  exact h
end

section
variable {v : Veh} {d : Dir} {l : List Band}
theorem imps_err {i : Nat} (hb : ∀ j, j < i → (impT v d l j).2 = 0) (hi : i ≤ v.pieces.length) (he : (impT v d l i).2 ≠ 0) (ha : askedF v d l = 0) : impsE v d l = (impT v d l i).2 := by
  have h0 : ∀ k, k ≤ i → impsN v d l k = 0 := by
    intro k
    induction k with
    | zero => intro _; rfl
    | succ k ih => intro hk; unfold impsN; rw [ih (by omega), if_neg (by decide)]; exact hb k (by omega)
  have h1 : ∀ k, impsN v d l (i + 1 + k) = (impT v d l i).2 := by
    intro k
    induction k with
    | zero => rw [Nat.add_zero, impsN, h0 i (Nat.le_refl _), if_neg (by decide)]
    | succ k ih => rw [← Nat.add_assoc, impsN, if_pos (by rw [ih]; exact he)]; exact ih
  unfold impsE
  rw [if_neg (by omega), show v.pieces.length + 1 = i + 1 + (v.pieces.length - i) by omega]; exact h1 _
theorem imps_all (hb : ∀ j, j ≤ v.pieces.length → (impT v d l j).2 = 0) (ha : askedF v d l = 0) : impsE v d l = 0 := by
  have h0 : ∀ k, k ≤ v.pieces.length + 1 → impsN v d l k = 0 := by
    intro k
    induction k with
    | zero => intro _; rfl
    | succ k ih => intro hk; unfold impsN; rw [ih (by omega), if_neg (by decide)]; exact hb k (by omega)
  unfold impsE
  rw [if_neg (by omega)]; exact h0 _ (Nat.le_refl _)
theorem imps_asked (h : askedF v d l ≠ 0) : impsE v d l = askedF v d l := if_pos h
def impL (v : Veh) (d : Dir) (l : List Band) (n : Nat) : List Imp := (List.range n).map fun i => (impT v d l i).1
theorem impL_s (n : Nat) : impL v d l (n + 1) = impL v d l n ++ [(impT v d l n).1] := by unfold impL; rw [List.range_succ, List.map_append]; rfl
theorem impsL_all (h : impsE v d l = 0) : impsL v d l = impL v d l (v.pieces.length + 1) := impsL_ok h
theorem impT_veh {i : Nat} (h : ¬ i < v.pieces.length) : impT v d l i = impN (stT v d l) 0 0 3000 0 ⟨i, spZ, spZ, spZ⟩ := by unfold impT; rw [if_neg h]
theorem impT_pc {i : Nat} (h : i < v.pieces.length) (hf : anyFar (stT v d l) (v.pc i).at_.toNat = false) : impT v d l i = impN (pcT v d l (v.pc i)) (v.pc i).at_ (v.pc i).floor (3000 - (v.pc i).at_).toNat 0 ⟨i, spZ, spZ, spZ⟩ := by
  unfold impT; rw [if_pos h, if_neg (by rw [hf]; decide)]
theorem impT_pcf {i : Nat} (h : i < v.pieces.length) {j : Nat} (hj : j ≤ (v.pc i).at_.toNat) (hf : farS (stT v d l j) = true) : impT v d l i = (imZ, 3) := by
  unfold impT; rw [if_pos h, if_pos (anyFar_true hj hf)]
end
end Go.Fl

/- Flights without air (plain). -/
set_option linter.all false
namespace Go.Fl
open Go.Vc Go.Tk

def upD : Dir := ⟨0, 0, 10000⟩
def exB : List Band := [⟨0, 100000, ⟨300, 300⟩, ⟨0, 0⟩⟩]
section
variable {nm : ByteArray} {g : Int} {ps : List (Int × Int)} {l : List Band}
end
end Go.Fl
