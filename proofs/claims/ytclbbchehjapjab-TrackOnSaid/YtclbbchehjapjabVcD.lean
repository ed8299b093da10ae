/- What operations do that read memory, or write it; calls; a function's body. -/
import Derived.Test.YtclbbchehjapjabVcC
set_option linter.all false
namespace Go.Vc

section
variable {X : Cx} {ρ : PEnv} {ds : List Deferred} {H : Heap} {o : Oper}

/-! ### reading -/

theorem r_load {x : Operand} {t ty b off : Nat} {cs : Array Value} {fr : Nat × Nat} {v : Value} (ha : tyAgg X.P t = some false) (ho : o.op = .load t x) (hx : ρ.ev x = some (.pointer (some ⟨b, off, none⟩)))
    (hm : (b, Obj.cells cs ty fr) ∈ H) (hv : cs.toList[off]? = some v) : RdA X ρ H o v :=
  ⟨fun c h => (by rw [ho] at h; cases h), fun e w he hg => by
    have hc : w.cell? ⟨b, off, none⟩ = some v := by rw [own_cell (hg.own _ hm)]; exact hv
    simp [execOp, ho, he _ _ hx, Instr.loadAt, Instr.sureAddr, run_loadVar ha hc]⟩

theorem r_loadA {x : Operand} {t ty b off n : Nat} {cs : Array Value} {fr : Nat × Nat} {vs : List Value} (ha : tyAgg X.P t = some true) (hs : tySize X.P t = some n) (ho : o.op = .load t x) (hx : ρ.ev x = some (.pointer (some ⟨b, off, none⟩)))
    (hm : (b, Obj.cells cs ty fr) ∈ H) (hv : sliceL cs.toList off n = some vs) : RdA X ρ H o (.agg vs.toArray) :=
  ⟨fun c h => (by rw [ho] at h; cases h), fun e w he hg => by
    obtain ⟨h1, h2⟩ := sliceL_spec hv
    have hc : cellsAt w ⟨b, off, none⟩ vs := by
      intro j v hj
      refine own_cellsAt (hg.own _ hm) off j v ?_
      rw [h1, List.getElem?_take] at hj
      split at hj
      · exact hj
      · cases hj
    simp [execOp, ho, he _ _ hx, Instr.loadAt, Instr.sureAddr, run_loadVar_agg ha hs h2 hc]⟩

theorem r_loadB {x : Operand} {t : Nat} {a : Addr} {v : Value} (ha : tyAgg X.P t = some false) (ho : o.op = .load t x) (hx : ρ.ev x = some (.pointer (some a)))
    (hc : X.w0.cell? a = some v) (hM : a.block ∉ X.M) : RdA X ρ H o v :=
  ⟨fun c h => (by rw [ho] at h; cases h), fun e w he hg => by
    simp [execOp, ho, he _ _ hx, Instr.loadAt, Instr.sureAddr, run_loadVar ha (hg.cell hc hM)]⟩

theorem r_loadBA {x : Operand} {t n : Nat} {a : Addr} {vs : List Value} (ha : tyAgg X.P t = some true) (hs : tySize X.P t = some n) (ho : o.op = .load t x) (hx : ρ.ev x = some (.pointer (some a)))
    (hc : cellsAt X.w0 a vs) (hn : vs.length = n) (hM : a.block ∉ X.M) : RdA X ρ H o (.agg vs.toArray) :=
  ⟨fun c h => (by rw [ho] at h; cases h), fun e w he hg => by
    simp [execOp, ho, he _ _ hx, Instr.loadAt, Instr.sureAddr, run_loadVar_agg ha hs hn (hg.cells hc hM)]⟩

/-! ### writing -/

theorem wr_value {o : Oper} {R : Value → Heap → Prop} (hnd : ∀ c, o.op ≠ .defer c)
    (h : ∀ e w, Evs ρ e → Good X.w0 X.M H w → ∃ v w' H', ((execOp e o).run X.P w = .ok (.value v) w' ∨ (v = undef ∧ (execOp e o).run X.P w = .ok .skip w')) ∧ Good X.w0 X.M H' w' ∧ R v H') : WrA X ρ H o R :=
  ⟨hnd, fun a w he hg => by
    obtain ⟨v, w', H', hr, hg', hR⟩ := h a.eval w he hg
    rcases hr with hr | ⟨rfl, hr⟩
    · rw [hr]; exact ⟨v, H', rfl, hg', hR⟩
    · rw [hr]; exact ⟨undef, H', rfl, hg', hR⟩⟩

theorem w_alloc {t : TypeId} {z : Value} (hz : tyZero X.P t = some z) (ho : o.op = .alloc t) :
    WrA X ρ H o fun v H' => ∃ b, X.w0.heap.size ≤ b ∧ v = .pointer (some ⟨b, 0, none⟩) ∧ H' = (b, .cells z.cells t) :: H :=
  wr_value (fun c h => (by rw [ho] at h; cases h)) fun e w he hg => by
    refine ⟨_, _, _, .inl ?_, hg.alloc (.cells z.cells t), w.heap.size, hg.size, rfl, rfl⟩
    simp [execOp, ho, Instr.alloc, run_zeroValue' hz, newVar, newRow]

theorem w_box {t : TypeId} {x : Operand} {v : Value} (ho : o.op = .box t x) (hx : ρ.ev x = some v) :
    WrA X ρ H o fun u H' => ∃ b, X.w0.heap.size ≤ b ∧ u = .pointer (some ⟨b, 0, none⟩) ∧ H' = (b, .cells v.cells t) :: H :=
  wr_value (fun c h => (by rw [ho] at h; cases h)) fun e w he hg => by
    refine ⟨_, _, _, .inl ?_, hg.alloc (.cells v.cells t), w.heap.size, hg.size, rfl, rfl⟩
    simp [execOp, ho, Instr.box, he _ _ hx, newVar, newRow]

/-- the cells with some of them turned -/
def setL : List Value → Nat → List Value → List Value
  | cs, _, [] => cs
  | cs, off, v :: vs => setL (cs.set off v) (off + 1) vs

theorem run_storeCells {P : Program} {b : Nat} {t : TypeId} : ∀ (vs : List Value) (w : World) (cs : List Value) (k i : Nat), w.heap[b]? = some (.cells cs.toArray t (0, 0)) → k + i + vs.length ≤ cs.length → (∀ v ∈ vs, v.oneCell' = true) →
    ∃ w', (storeCells ⟨b, k, none⟩ vs i).run P w = .ok () w' ∧ w'.heap = w.heap.setIfInBounds b (.cells (setL cs (k + i) vs).toArray t (0, 0)) ∧ SameIO w w' := by
  intro vs
  induction vs with
  | nil =>
    intro w cs k i hb _ _
    refine ⟨w, rfl, ?_, rfl, rfl⟩
    simp only [setL]
    apply Array.ext
    · simp
    · intro j hj _
      rw [Array.getElem_setIfInBounds]
      split
      · rename_i h; subst h
        have := (Array.getElem?_eq_some_iff.1 hb).2
        exact this
      · rfl
  | cons v vs ih =>
    intro w cs k i hb hlen hone
    simp only [List.length_cons] at hlen
    have hcell : w.cell? ⟨b, k + i, none⟩ = some (cs[k + i]'(by omega)) := by rw [own_cell hb]; simp
    have hfr : w.frozen? ⟨b, k + i, none⟩ = false := by simp [World.frozen?, hb]
    have hst : (store ((⟨b, k, none⟩ : Addr).add i) v).run P w = .ok () (w.setCell ⟨b, k + i, none⟩ v) := by
      rw [add_none, run_store P w _ v .plain (hone v (.head _)), hcell]
      simp [hfr]
    have hheap : (w.setCell ⟨b, k + i, none⟩ v).heap = w.heap.setIfInBounds b (.cells (cs.set (k + i) v).toArray t (0, 0)) := by
      simp only [World.setCell]
      apply Array.ext
      · simp
      · intro j hj _
        have hjb : j < w.heap.size := by simpa using hj
        rw [Array.getElem_modify, Array.getElem_setIfInBounds]
        split
        · rename_i h
          subst h
          have := (Array.getElem?_eq_some_iff.1 hb).2
          simp [this]
        · rfl
    have hb' : (w.setCell ⟨b, k + i, none⟩ v).heap[b]? = some (.cells (cs.set (k + i) v).toArray t (0, 0)) := by
      rw [hheap]; simp [lt_of_some hb]
    obtain ⟨w', hr, hh, hio⟩ := ih (w.setCell ⟨b, k + i, none⟩ v) (cs.set (k + i) v) k (i + 1) hb' (by simp; omega) (fun u hu => hone u (.tail _ hu))
    refine ⟨w', ?_, ?_, SameIO.trans (b := w.setCell ⟨b, k + i, none⟩ v) ⟨rfl, rfl⟩ hio⟩
    · simp only [storeCells, Sem.run_bind, hst, Result.andThen_ok, hr]
    · rw [hh, hheap, Array.setIfInBounds_setIfInBounds]; simp only [setL]; rw [Nat.add_assoc]

theorem run_storeVar {P : Program} {b : Nat} {t ty : TypeId} {v : Value} {w : World} {cs : Array Value} {off n : Nat} (hs : tySize P t = some n) (hb : w.heap[b]? = some (.cells cs ty (0, 0))) (hn : v.cells.toList.length = n)
    (hl : off + n ≤ cs.toList.length) (hone : ∀ u ∈ v.cells.toList, u.oneCell' = true) :
    ∃ w', (storeVar t ⟨b, off, none⟩ v).run P w = .ok () w' ∧ w'.heap = w.heap.setIfInBounds b (.cells (setL cs.toList off v.cells.toList).toArray ty (0, 0)) ∧ SameIO w w' := by
  obtain ⟨w', hr, hh, hio⟩ := run_storeCells (P := P) (t := ty) v.cells.toList w cs.toList off 0 (by simpa using hb) (by omega) hone
  refine ⟨w', ?_, by simpa using hh, hio⟩
  have : v.cells.size = n := by simpa using hn
  simp [storeVar, run_sizeOf' hs, this, hr]

def oneL : List Value → Bool
  | [] => true
  | v :: l => v.oneCell' && oneL l

theorem oneL_spec {l : List Value} (h : oneL l = true) : ∀ v ∈ l, v.oneCell' = true := by
  induction l with
  | nil => intro v hv; cases hv
  | cons u l ih =>
    simp only [oneL, Bool.and_eq_true] at h
    intro v hv
    rcases List.mem_cons.1 hv with rfl | hv
    · exact h.1
    · exact ih h.2 v hv

theorem w_store {x y : Operand} {t ty b off n : Nat} {cs : Array Value} {v : Value} {cs' : List Value} {H' : Heap} (hs : tySize X.P t = some n) (ho : o.op = .store t x y) (hx : ρ.ev x = some (.pointer (some ⟨b, off, none⟩)))
    (hy : ρ.ev y = some v) (hn : v.cells.toList.length = n) (hone : oneL v.cells.toList = true) (hset : SetAt H b (.cells cs ty) (.cells cs'.toArray ty) H') (hl : off + n ≤ cs.toList.length) (hcs : setL cs.toList off v.cells.toList = cs') :
    WrA X ρ H o fun u H'' => u = undef ∧ H'' = H' :=
  wr_value (fun c h => (by rw [ho] at h; cases h)) fun e w he hg => by
    subst hcs
    obtain ⟨w', hr, hh, hio⟩ := run_storeVar (P := X.P) (t := t) (off := off) (v := v) hs (hg.own _ hset.mem) hn hl (oneL_spec hone)
    refine ⟨undef, w', H', .inr ⟨rfl, ?_⟩, hg.set hset hh hio, rfl, rfl⟩
    simp [execOp, ho, he _ _ hx, he _ _ hy, Instr.storeAt, Instr.sureAddr, hr]

theorem w_map {t : TypeId} (ho : o.op = .makeMap t none) : WrA X ρ H o fun v H' => ∃ b, X.w0.heap.size ≤ b ∧ v = .map (some b) ∧ H' = (b, .map #[] 0) :: H :=
  wr_value (fun c h => (by rw [ho] at h; cases h)) fun e w he hg => by
    refine ⟨_, _, _, .inl ?_, hg.alloc (.map #[] 0), w.heap.size, hg.size, rfl, rfl⟩
    simp [execOp, ho, Instr.makeMap]

/-! ### struct and slice literals -/

def splice (cs : List Value) (off : Nat) (vs : List Value) : List Value := cs.take off ++ vs ++ cs.drop (off + vs.length)

def fillL (pl : List (Nat × Nat)) : List Value → List (Nat × Value) → Option (List Value)
  | cs, [] => some cs
  | cs, (i, v) :: r => match pl[i]? with
    | none => none
    | some (off, size) => bif Nat.beq v.cells.toList.length size && Nat.ble (off + size) cs.length then fillL pl (splice cs off v.cells.toList) r else none

theorem fold_splice : ∀ (vs : List Value) (cs : List Value) (off k : Nat), off + k + vs.length ≤ cs.length →
    ((vs.zipIdx k).foldl (fun (cs : Array Value) (p : Value × Nat) => cs.setIfInBounds (off + p.2) p.1) cs.toArray) = (splice cs (off + k) vs).toArray := by
  intro vs
  induction vs with
  | nil => intro cs off k _; simp [splice]
  | cons v vs ih =>
    intro cs off k h
    simp only [List.length_cons] at h
    simp only [List.zipIdx_cons, List.foldl_cons, List.setIfInBounds_toArray]
    rw [ih (cs.set (off + k) v) off (k + 1) (by simp; omega)]
    congr 1
    simp only [splice]
    apply List.ext_getElem?
    intro j
    simp only [List.getElem?_append, List.length_append, List.length_take, List.length_set, List.length_cons, List.getElem?_take, List.getElem?_drop, List.getElem?_set]
    by_cases h1 : j < off + k
    · have a1 : j < min (off + (k + 1)) cs.length := by omega
      have a2 : j < min (off + (k + 1)) cs.length + vs.length := by omega
      have a3 : j < min (off + k) cs.length := by omega
      have a4 : j < min (off + k) cs.length + (vs.length + 1) := by omega
      have a5 : j < off + (k + 1) := by omega
      have a6 : ¬ (off + k = j) := by omega
      simp [a1, a2, a3, a4, a5, a6, h1]
    · by_cases h2 : j = off + k
      · subst h2
        have a1 : off + k < min (off + (k + 1)) cs.length := by omega
        have a2 : off + k < min (off + (k + 1)) cs.length + vs.length := by omega
        have a3 : ¬ (off + k < min (off + k) cs.length) := by omega
        have a4 : off + k < min (off + k) cs.length + (vs.length + 1) := by omega
        have a5 : off + k < off + (k + 1) := by omega
        have a6 : off + k < cs.length := by omega
        have a7 : off + k - min (off + k) cs.length = 0 := by omega
        simp [a1, a2, a3, a4, a5, a6, a7]
      · by_cases h3 : j < off + k + 1 + vs.length
        · have a1 : ¬ (j < min (off + (k + 1)) cs.length) := by omega
          have a2 : j < min (off + (k + 1)) cs.length + vs.length := by omega
          have a3 : ¬ (j < min (off + k) cs.length) := by omega
          have a4 : j < min (off + k) cs.length + (vs.length + 1) := by omega
          have a5 : j - min (off + k) cs.length = (j - min (off + (k + 1)) cs.length) + 1 := by omega
          simp [a1, a2, a3, a4, a5]
        · have a2 : ¬ (j < min (off + (k + 1)) cs.length + vs.length) := by omega
          have a4 : ¬ (j < min (off + k) cs.length + (vs.length + 1)) := by omega
          have a5 : off + (k + 1) + vs.length + (j - (min (off + (k + 1)) cs.length + vs.length)) = off + k + (vs.length + 1) + (j - (min (off + k) cs.length + (vs.length + 1))) := by omega
          have a6 : ¬ (off + k = off + k + (vs.length + 1) + (j - (min (off + k) cs.length + (vs.length + 1)))) := by omega
          simp only [a2, a4, if_false, a5]
          rw [if_neg a6]

theorem fillL_fill {pl : List (Nat × Nat)} {place : Nat → Option (Nat × Nat)} (hp : ∀ i x, pl[i]? = some x → place i = some x) : ∀ (ps : List (Nat × Value)) (cs r : List Value), fillL pl cs ps = some r → Instr.fill place cs.toArray ps = some r.toArray := by
  intro ps
  induction ps with
  | nil => intro cs r h; simp only [fillL, Option.some.injEq] at h; subst h; rfl
  | cons p ps ih =>
    intro cs r h
    obtain ⟨i, v⟩ := p
    simp only [fillL] at h
    cases hi : pl[i]? with
    | none => simp [hi] at h
    | some q =>
      obtain ⟨off, size⟩ := q
      simp only [hi] at h
      cases hb : (Nat.beq v.cells.toList.length size && Nat.ble (off + size) cs.length) with
      | false => rw [hb] at h; cases h
      | true =>
        rw [hb, cond_true] at h
        rw [Bool.and_eq_true] at hb
        have h1 : v.cells.size = size := by have := Nat.eq_of_beq_eq_true hb.1; simpa using this
        have h2 := Nat.le_of_ble_eq_true hb.2
        simp only [Instr.fill, hp i _ hi]
        have hc : ¬ ((v.cells.size ≠ size) ∨ (off + v.cells.size > cs.toArray.size)) := by simp [h1]; omega
        have hc' : (decide (v.cells.size ≠ size) || decide (off + v.cells.size > cs.toArray.size)) = false := by simp [h1]; omega
        have hf := fold_splice v.cells.toList cs off 0 (by simp [h1]; omega)
        rw [Nat.add_zero] at hf
        have := ih _ _ h
        simp only [← Array.foldl_toList, Array.toList_zipIdx] at *
        rw [show (v.cells.toList.zipIdx).foldl (fun (cs : Array Value) (x : Value × Nat) => cs.setIfInBounds (off + x.2) x.1) cs.toArray = (splice cs off v.cells.toList).toArray from hf]
        simp only [h1, ne_eq, not_true_eq_false, decide_false, Bool.false_or, decide_eq_true_eq]
        rw [if_neg (by simp; omega)]
        exact this


theorem run_mapM_pure {α β : Type} {P : Program} {f : α → Sem β} {g : α → Option β} : ∀ (l : List α) (r : List β), l.mapM g = some r → (∀ x y, g x = some y → ∀ w, (f x).run P w = .ok y w) → ∀ w, (l.mapM f).run P w = .ok r w := by
  intro l
  induction l with
  | nil => intro r h _ w; simp at h; subst h; simp
  | cons x l ih =>
    intro r h hf w
    simp only [List.mapM_cons] at h ⊢
    cases hx : g x with
    | none => simp [hx] at h
    | some y =>
      cases hl : l.mapM g with
      | none => simp [hx, hl] at h
      | some ys =>
        simp [hx, hl] at h
        subst h
        simp [hf x y hx w, ih ys hl hf w]

theorem run_places {P : Program} {t : TypeId} {fs : Array Field} {pl : List (Nat × Nat)} (hu : P.underlying t = some (.struct fs)) (hp : placesOf P t = some pl) (w : World) :
    (fs.mapM fun f => do pure (f.offset, ← sizeOf f.type) : Sem (Array (Nat × Nat))).run P w = .ok pl.toArray w := by
  simp only [placesOf, hu] at hp
  rw [Array.mapM_eq_mapM_toList]
  have := run_mapM_pure (P := P) (f := fun f : Field => (do pure (f.offset, ← sizeOf f.type) : Sem (Nat × Nat))) fs.toList pl hp (fun f y hy w => by
    cases hs : tySize P f.type with
    | none => simp [hs] at hy
    | some n => simp [hs] at hy; subst hy; simp [run_sizeOf' hs]) w
  rw [Sem.run_map, this]
  rfl

theorem evP_map {e : Operand → Value} (he : Evs ρ e) : ∀ {l : List (Nat × Operand)} {vs : List Value}, evL ρ (l.map (·.2)) = some vs → (l.map fun p => (p.1, e p.2)) = (l.map (·.1)).zip vs := by
  intro l
  induction l with
  | nil => intro vs h; simp
  | cons x l ih =>
    intro vs h
    simp only [List.map_cons, evL] at h
    cases hx : ρ.ev x.2 with
    | none => simp [hx] at h
    | some v =>
      cases hl : evL ρ (l.map (·.2)) with
      | none => simp [hx, hl] at h
      | some us =>
        simp only [hx, hl, Option.some.injEq] at h
        subst h
        simp [he _ _ hx, ih hl]

theorem map_parts {e : Operand → Value} (ps : Array (Nat × Operand)) : (ps.map fun (i, x) => (i, e x)).toList = ps.toList.map fun p => (p.1, e p.2) := by simp

theorem p_build {t : TypeId} {ps : Array (Nat × Operand)} {pl : List (Nat × Nat)} {z : Value} {vs r : List Value} (hp : placesOf X.P t = some pl) (hz : tyZero X.P t = some z) (ho : o.op = .build t ps)
    (hv : evL ρ (ps.toList.map (·.2)) = some vs) (hf : fillL pl z.cells.toList ((ps.toList.map (·.1)).zip vs) = some r) : RdP X ρ o (.agg r.toArray) := by
  refine ⟨fun c h => (by rw [ho] at h; cases h), fun e w he => ?_⟩
  cases hu : X.P.underlying t with
  | none => simp [placesOf, hu] at hp
  | some d =>
    cases d with
    | struct fs =>
      have h1 := run_places hu hp w
      have h2 := fillL_fill (place := (pl.toArray[·]?)) (fun i x h => by simpa using h) _ _ _ hf
      rw [← evP_map he hv, ← map_parts] at h2
      simp only [Array.toArray_toList] at h2
      simp only [execOp, ho, Instr.build, Sem.run_bind, run_zeroValue' hz, Result.andThen_ok, run_underlying' hu, h1, h2]
      simp
    | _ => simp [placesOf, hu] at hp

/-- places of an array's elements -/
def arrPl (n size : Nat) : List (Nat × Nat) := (List.range n).map fun i => (i * size, size)

theorem p_buildA {t n size : Nat} {ps : Array (Nat × Operand)} {z : Value} {vs r : List Value} (hs : arrOf X.P t = some (n, size)) (hz : tyZero X.P t = some z) (ho : o.op = .build t ps)
    (hv : evL ρ (ps.toList.map (·.2)) = some vs) (hf : fillL (arrPl n size) z.cells.toList ((ps.toList.map (·.1)).zip vs) = some r) : RdP X ρ o (.agg r.toArray) := by
  refine ⟨fun c h => (by rw [ho] at h; cases h), fun e w he => ?_⟩
  unfold arrOf at hs
  cases hu : X.P.underlying t with
  | none => simp [hu] at hs
  | some d =>
    cases d with
    | array m el =>
      simp only [hu] at hs
      cases hsz : tySize X.P el with
      | none => simp [hsz] at hs
      | some s0 =>
        simp only [hsz, Option.map_some, Option.some.injEq, Prod.mk.injEq] at hs
        obtain ⟨rfl, rfl⟩ := hs
        have h2 := fillL_fill (place := fun i => some (i * s0, s0)) (fun i x h => by
          simp only [arrPl, List.getElem?_map] at h
          cases hr : (List.range m)[i]? with
          | none => simp [hr] at h
          | some j =>
            rw [hr] at h
            have : j = i := by rw [List.getElem?_range (by have := List.getElem?_eq_some_iff.1 hr; simpa using this.1)] at hr; exact (Option.some.inj hr).symm
            subst this; simpa using h) _ _ _ hf
        rw [← evP_map he hv, ← map_parts] at h2
        simp only [Array.toArray_toList] at h2
        simp only [execOp, ho, Instr.build, Sem.run_bind, run_zeroValue' hz, Result.andThen_ok, run_underlying' hu, run_sizeOf' hsz, h2]
        simp
    | _ => simp [hu] at hs

/-- the zero cells of n elements -/
def zeros (z : List Value) : Nat → List Value
  | 0 => []
  | n + 1 => z ++ zeros z n

theorem zeros_length (z : List Value) (n : Nat) : (zeros z n).length = n * z.length := by
  induction n with
  | zero => simp [zeros]
  | succ n ih => simp [zeros, ih, Nat.add_mul, Nat.add_comm]

theorem zeros_get (z : List Value) (hz : 0 < z.length) : ∀ (n i : Nat), i < n * z.length → (zeros z n)[i]? = z[i % z.length]? := by
  intro n
  induction n with
  | zero => intro i h; omega
  | succ n ih =>
    intro i h
    simp only [zeros, List.getElem?_append]
    split
    · rename_i h1; rw [Nat.mod_eq_of_lt h1]
    · rename_i h1
      have h' : i < n * z.length + z.length := by rw [Nat.succ_mul] at h; exact h
      rw [ih (i - z.length) (by omega)]
      congr 1
      exact (Nat.mod_eq_sub_mod (by omega)).symm

theorem zeros_eq (z : Array Value) (n size : Nat) (hz : z.size = size) (h0 : 0 < size) : ((Array.range (n * size)).map (z[· % z.size]!)) = (zeros z.toList n).toArray := by
  apply Array.toList_inj.1
  apply List.ext_getElem?
  intro i
  simp only [Array.toList_map, Array.toList_range, List.getElem?_map]
  by_cases hi : i < n * size
  · rw [List.getElem?_range hi, zeros_get z.toList (by simp; omega) n i (by simp [hz]; omega)]
    have hlt : i % size < z.size := by rw [hz]; exact Nat.mod_lt _ h0
    simp only [Option.map_some, Array.length_toList, hz]
    rw [getElem!_pos z (i % size) hlt]
    simp [hlt]
  · rw [List.getElem?_eq_none (by simp; omega), List.getElem?_eq_none (by simp [zeros_length, hz]; omega)]
    rfl

theorem w_slice {t n size el : Nat} {ps : Array (Nat × Operand)} {z : Value} {vs r : List Value} (hu : X.P.underlying t = some (.slice el)) (hs : tySize X.P el = some size) (hz : tyZero X.P el = some z) (hzs : z.cells.size = size) (h0 : 0 < size) (ho : o.op = .buildSlice t n ps)
    (hn : n * size ≤ 2 ^ 24) (hv : evL ρ (ps.toList.map (·.2)) = some vs) (hf : fillL (arrPl n size) (zeros z.cells.toList n) ((ps.toList.map (·.1)).zip vs) = some r) :
    WrA X ρ H o fun v H' => ∃ b, X.w0.heap.size ≤ b ∧ v = .slice (some ⟨b, 0, none⟩) n n ∧ H' = (b, .cells r.toArray el) :: H :=
  wr_value (fun c h => (by rw [ho] at h; cases h)) fun e w he hg => by
    have h2 := fillL_fill (place := fun i => some (i * size, size)) (fun i x h => by
      simp only [arrPl, List.getElem?_map] at h
      cases hr : (List.range n)[i]? with
      | none => simp [hr] at h
      | some j =>
        rw [hr] at h
        have : j = i := by rw [List.getElem?_range (by have := List.getElem?_eq_some_iff.1 hr; simpa using this.1)] at hr; exact (Option.some.inj hr).symm
        subst this; simpa using h) _ _ _ hf
    rw [← evP_map he hv, ← map_parts] at h2
    simp only [Array.toArray_toList] at h2
    refine ⟨_, _, _, .inl ?_, hg.alloc (.cells r.toArray el), w.heap.size, hg.size, rfl, rfl⟩
    have hbig : ¬ (n * size > 2 ^ 24) := by omega
    simp only [execOp, ho, Instr.buildSlice, Sem.run_bind, run_underlying' hu, Result.andThen_ok, run_sizeOf' hs, hbig, if_false]
    by_cases hz0 : n * size = 0
    · have hn0 : n = 0 := by rcases Nat.mul_eq_zero.1 hz0 with h | h <;> omega
      subst hn0
      have hx : ∀ f : Nat → Value, (Array.range (0 * size)).map f = (zeros z.cells.toList 0).toArray := fun f => by simp [zeros]
      rw [if_pos hz0]
      simp only [Sem.run_pure, Result.andThen_ok, hx, h2]
      simp [newRow]
    · rw [if_neg hz0]
      simp only [Sem.run_bind, run_zeroValue' hz, Result.andThen_ok, Sem.run_pure, zeros_eq z.cells n size hzs h0, h2]
      simp [newRow]

end

end Go.Vc
