import Derived.Test.YtmieklaakjabaaaGreatGAbs5
set_option linter.unusedSimpArgs false
set_option linter.unusedVariables false
namespace Go.Abs
open Go Go.RowKit
variable {P : Program} {X : Ctx} {A A' : Nat → Prop} {σ : Nat → Loc} {S : Kx → Prop} {st : St} {a : Act} {w w' : World}
/-- Cells in a row hold the elements. -/
def RowRep (w : World) (S : Kx → Prop) (sz len : Nat) (els : List (List PV)) (c : Array Value) : Prop :=
  c.size = len * sz ∧ els.length = len ∧ (∀ v ∈ c, v.oneCell' = true) ∧ ∀ (i : Nat) el, els[i]? = some el → el.length = sz ∧ ∀ (j : Nat) y, el[j]? = some y → ∃ v, c[i * sz + j]? = some v ∧ RepP w S y v
theorem RowRep.mono {S' : Kx → Prop} {sz len : Nat} {els : List (List PV)} {c : Array Value} (h : RowRep w S sz len els c) (hS : ∀ k, S k → S' k) : RowRep w S' sz len els c :=
  ⟨h.1, h.2.1, h.2.2.1, fun i el hi => ⟨(h.2.2.2 i el hi).1, fun j y hj => let ⟨v, q1, q2⟩ := (h.2.2.2 i el hi).2 j y hj; ⟨v, q1, q2.mono (fun _ _ => rfl) hS⟩⟩⟩
theorem RowRep.set {sz len : Nat} {els : List (List PV)} {c : Array Value} (h : RowRep w S sz len els c) (i : Nat) (hi : i < len) (xs : List PV) (vs : List Value) (hl : xs.length = sz) (hl' : vs.length = sz)
    (hr : ∀ (m : Nat) x v, xs[m]? = some x → vs[m]? = some v → RepP w S x v) (h1 : ∀ v ∈ vs, v.oneCell' = true) : RowRep w S sz len (els.set i xs) (spl c (i * sz) vs) := by
  obtain ⟨g2, g4, g3, g5⟩ := h
  have hfit : i * sz + vs.length ≤ c.size := by
    have : (i + 1) * sz ≤ len * sz := Nat.mul_le_mul_right _ hi
    rw [Nat.add_mul, Nat.one_mul] at this
    omega
  refine ⟨by rw [spl_size]; exact g2, by rw [List.length_set]; exact g4, ?_, ?_⟩
  · intro v hv
    obtain ⟨m, hm⟩ := Array.mem_iff_getElem?.1 hv
    rw [spl_get _ _ _ _ hfit] at hm
    split at hm
    · exact h1 v (List.mem_of_getElem? hm)
    · exact g3 v (Array.mem_of_getElem? hm)
  · intro i' el' he'
    rw [List.getElem?_set] at he'
    by_cases e : i = i'
    · subst e
      rw [if_pos rfl, if_pos (by omega)] at he'
      cases he'
      refine ⟨hl, fun j x hx => ?_⟩
      have hj : j < sz := hl ▸ (List.getElem?_eq_some_iff.1 hx).1
      rw [spl_get _ _ _ _ hfit, if_pos (by omega), show i * sz + j - i * sz = j by omega]
      obtain ⟨v, hv⟩ : ∃ v, vs[j]? = some v := ⟨_, List.getElem?_eq_getElem (by omega)⟩
      exact ⟨v, hv, hr j x v hx hv⟩
    · rw [if_neg e] at he'
      refine ⟨(g5 i' el' he').1, fun j x hx => ?_⟩
      obtain ⟨v, q1, q2⟩ := (g5 i' el' he').2 j x hx
      have hj : j < sz := (g5 i' el' he').1 ▸ (List.getElem?_eq_some_iff.1 hx).1
      refine ⟨v, ?_, q2⟩
      rw [spl_get _ _ _ _ hfit, if_neg ?_]
      · exact q1
      · rintro ⟨ha, hb⟩
        rcases Nat.lt_or_gt_of_ne e with hlt' | hlt'
        · have : (i + 1) * sz ≤ i' * sz := Nat.mul_le_mul_right _ hlt'
          rw [Nat.add_mul, Nat.one_mul] at this
          omega
        · have : (i' + 1) * sz ≤ i * sz := Nat.mul_le_mul_right _ hlt'
          rw [Nat.add_mul, Nat.one_mul] at this
          omega
theorem foldl_spl : ∀ (vs : List Value) (c : Array Value) (off k : Nat), (vs.zipIdx k).foldl (fun cs (p : Value × Nat) => cs.setIfInBounds (off + p.2) p.1) c = spl c (off + k) vs
  | [], _, _, _ => rfl
  | v :: vs, c, off, k => by
    rw [List.zipIdx_cons, List.foldl_cons, foldl_spl vs _ off (k + 1)]
    rfl
theorem array_foldl_spl (v : Array Value) (c : Array Value) (off : Nat) : v.zipIdx.foldl (fun cs (p : Value × Nat) => cs.setIfInBounds (off + p.2) p.1) c = spl c off v.toList := by
  have := foldl_spl v.toList c off 0
  rw [Nat.add_zero] at this
  rw [← this, ← Array.foldl_toList]
  simp
/-- The parts of a literal slice. -/
def bparts (st : St) (sz : Nat) : List (List PV) → List (Nat × Operand) → Option (List (List PV) × List (Nat × Option Blk) × Prop)
  | els, [] => some (els, [], True)
  | els, (i, x) :: rest => match ev st x with
    | none => none
    | some v => match purify st v.cells with
      | none => none
      | some (xs, ks, p) => match bparts { st with bl := ks ++ st.bl } sz (els.set i xs) rest with
        | none => none
        | some (els', ks', q) => some (els', ks' ++ ks, (p ∧ v.fit ∧ v.cells.all okCell = true ∧ xs.length = sz ∧ i < els.length) ∧ q)
theorem bparts_sound : ∀ (parts : List (Nat × Operand)) {st : St} {S : Kx → Prop} (_ : RelOf X A σ S st a w) {sz len : Nat} {els : List (List PV)} {c : Array Value} (_ : RowRep w S sz len els c)
    {els' : List (List PV)} {ks : List (Nat × Option Blk)} {p : Prop} (_ : bparts st sz els parts = some (els', ks, p)) (_ : p),
    ∃ S' c', (∀ k, S k → S' k) ∧ RelOf X A σ S' { st with bl := ks ++ st.bl } a w ∧ RowRep w S' sz len els' c' ∧ Instr.fill (fun i => some (i * sz, sz)) c (parts.map fun q => (q.1, a.eval q.2)) = some c'
  | [], st, S, h, sz, len, els, c, hr, els', ks, p, hb, _ => by
    simp only [bparts, Option.some.injEq, Prod.mk.injEq] at hb
    obtain ⟨rfl, rfl, _⟩ := hb
    exact ⟨S, c, fun _ q => q, h, hr, rfl⟩
  | (i, x) :: rest, st, S, h, sz, len, els, c, hr, els', ks, p, hb, hp => by
    simp only [bparts] at hb
    split at hb
    · cases hb
    · rename_i v hv
      split at hb
      · cases hb
      · rename_i xs ks1 q1 hpu
        split at hb
        · cases hb
        · rename_i els2 ks2 q2 hrec
          simp only [Option.some.injEq, Prod.mk.injEq] at hb
          obtain ⟨rfl, rfl, rfl⟩ := hb
          obtain ⟨⟨hq1, hf, hok, hxl, hi⟩, hq2⟩ := hp
          obtain ⟨hu, huA⟩ := ev_sound h hv
          obtain ⟨g1, g2, g3⟩ := hu.cells hf hok
          obtain ⟨S1, hS1, h1, hlen, hx⟩ := purify_sound v.cells h g1 g2 huA.cells hpu hq1
          have hsz : (a.eval x).cells.toList.length = sz := by omega
          have hi' : i < len := hr.2.1 ▸ hi
          have hr1 := (hr.mono hS1).set i hi' xs _ hxl hsz hx g3
          obtain ⟨S2, c2, hS2, h2, hr2, hf2⟩ := bparts_sound rest h1 hr1 hrec hq2
          refine ⟨S2, c2, fun k q => hS2 k (hS1 k q), by rw [List.append_assoc]; exact h2, hr2, ?_⟩
          have hfit : i * sz + sz ≤ c.size := by
            have : (i + 1) * sz ≤ len * sz := Nat.mul_le_mul_right _ hi'
            rw [Nat.add_mul, Nat.one_mul] at this
            have := hr.1
            omega
          have hsz' : (a.eval x).cells.size = sz := by simpa using hsz
          simp only [List.map_cons, Instr.fill, hsz', ne_eq, not_true_eq_false, decide_false, Bool.false_or, decide_eq_true_eq]
          rw [if_neg (by omega), array_foldl_spl]
          exact hf2
def abuildSlice (P : Program) (st : St) (x : Nat) (t : TypeId) (len : Nat) (parts : Array (Nat × Operand)) : Option E :=
  match P.underlying t with
  | some (.slice el) => match zeroOf P el with
    | some zs => match bparts st zs.size (List.replicate len (zeroEl zs)) parts.toList with
      | some (els, ks, p) => some ⟨p ∧ len * zs.size ≤ 16777216 ∧ P.cellsOf el = zs.size ∧ zs.size ≠ 0 ∧ zs.all (·.oneCell') = true, .one (.hs x 0 len), (x, some (.arr zs.size els)) :: ks⟩
      | none => none
    | none => none
  | _ => none
theorem zeros_row (zs : Array Value) (len : Nat) (h5 : zs.all (·.oneCell') = true) (h4 : zs.size ≠ 0) : RowRep w S zs.size len (List.replicate len (zeroEl zs)) ((Array.range (len * zs.size)).map (zs[· % zs.size]!)) := by
  refine ⟨by simp, by simp, zeros_all zs _ h5 h4, ?_⟩
  intro i el' hi
  obtain ⟨hil, rfl⟩ : i < len ∧ zeroEl zs = el' := by
    rw [List.getElem?_replicate] at hi
    split at hi
    · rename_i q; exact ⟨q, Option.some.inj hi⟩
    · cases hi
  refine ⟨by simp [zeroEl], fun j y hj => ?_⟩
  simp only [zeroEl, List.getElem?_map, Array.getElem?_toList] at hj
  cases hv : zs[j]? with
  | none => simp [hv] at hj
  | some v =>
    simp only [hv, Option.map_some, Option.some.injEq] at hj
    subst hj
    exact ⟨v, by rw [zeros_get zs len i j hil (Array.getElem?_eq_some_iff.1 hv).1]; exact hv, .lit v⟩
theorem abuildSlice_sound (h : RelOf X A σ S st a w) {x : Nat} (hx : ¬ A x) {t : TypeId} {len : Nat} {parts : Array (Nat × Operand)} {e : E} (he : abuildSlice P st x t len parts = some e) (hp : e.pre) :
    Does P X (fun b => A b ∨ b = x) st e a w (do pure (.value (← Instr.buildSlice t len (parts.map fun (i, y) => (i, a.eval y))))) := by
  unfold abuildSlice at he
  split at he
  · rename_i el hu
    split at he
    · rename_i zs hz
      split at he
      · rename_i els ks p hb
        cases he
        obtain ⟨hq, h2, h3, h4, h5⟩ := hp
        obtain ⟨zv, hzc, hzr⟩ := run_zeroValue' hz
        obtain ⟨S', c', hSS, h', hrow, hfill⟩ := bparts_sound parts.toList h (zeros_row zs len h5 h4) hb hq
        obtain ⟨r1, r2, r3, r4⟩ := hrow
        obtain ⟨σ', g1, g2⟩ := new_arr h' x hx el els zs.size len (0, 0) c' (by intro o _; simp) r1 (by omega) r4 r3
        refine ⟨.value (.slice (some ⟨w.heap.size, 0, none⟩) len len), _, _, σ', S', ?_, .inl rfl, g1, .one (r2 ▸ g2), .one (.inr rfl)⟩
        have hs := run_sizeOf' (P := P) (info_of_cells h3 h4) w
        have hf : Instr.fill (fun i => some (i * zs.size, zs.size)) ((Array.range (len * zs.size)).map (zs[· % zs.size]!)) (parts.map fun (i, y) => (i, a.eval y)).toList = some c' := by
          rw [Array.toList_map]
          exact hfill
        have e1 : ¬ (16777216 < len * zs.size) := by omega
        subst hzc
        by_cases hn : len * zv.cells.size = 0
        · rw [hn, show Array.range 0 = #[] from rfl] at hf
          simp only [Array.map_empty, Array.toList_map] at hf
          simp only [Instr.buildSlice, Sem.run_bind, run_underlying hu, Result.andThen_ok, hs, hn]
          simp [hf, newRow, show Array.range 0 = #[] from rfl]
        · simp only [Instr.buildSlice, Sem.run_bind, run_underlying hu, Result.andThen_ok, hs]
          simp only [gt_iff_lt, Nat.reducePow, e1, if_false, hn, Sem.run_bind, hzr, Result.andThen_ok, Sem.run_pure, hf, newRow]
          rfl
      · cases he
    · cases he
  · cases he
/-! ### build -/
def CellsRep (w : World) (S : Kx → Prop) (σ : Nat → Loc) (cs : List AC) (c : Array Value) : Prop :=
  cs.length = c.size ∧ ∀ (i : Nat) x v, cs[i]? = some x → c[i]? = some v → RepC w S σ x v
theorem CellsRep.splice {cs : List AC} {c : Array Value} (h : CellsRep w S σ cs c) (off : Nat) (xs : List AC) (vs : List Value) (hl : xs.length = vs.length) (hfit : off + xs.length ≤ cs.length)
    (hr : ∀ (m : Nat) x v, xs[m]? = some x → vs[m]? = some v → RepC w S σ x v) : CellsRep w S σ (splice cs off xs) (spl c off vs) := by
  refine ⟨by rw [splice_length _ _ _ hfit, spl_size]; exact h.1, ?_⟩
  intro i x v h1 h2
  rw [splice_get _ _ _ hfit] at h1
  rw [spl_get _ _ _ _ (by have := h.1; omega)] at h2
  by_cases hin : off ≤ i ∧ i < off + xs.length
  · rw [if_pos hin] at h1
    rw [if_pos (by omega)] at h2
    exact hr _ x v h1 h2
  · rw [if_neg hin] at h1
    rw [if_neg (by omega)] at h2
    exact h.2 i x v h1 h2
/-- The parts of a struct literal. -/
def sparts (P : Program) (st : St) (fs : List (Nat × TypeId)) : List AC → List (Nat × Operand) → Option (List AC × Prop)
  | cs, [] => some (cs, True)
  | cs, (i, x) :: rest => match ev st x, fs[i]? with
    | some v, some (off, t) => match sparts P st fs (splice cs off v.cells) rest with
      | none => none
      | some (cs', q) => some (cs', (v.fit ∧ v.cells.all okCell = true ∧ v.cells.length = P.cellsOf t ∧ off + v.cells.length ≤ cs.length) ∧ q)
    | _, _ => none
theorem sparts_sound (h : RelOf X A σ S st a w) (fs : List (Nat × TypeId)) : ∀ (parts : List (Nat × Operand)) {cs : List AC} {c : Array Value} (_ : CellsRep w S σ cs c) (_ : ∀ x ∈ cs, x.inA A)
    {cs' : List AC} {p : Prop} (_ : sparts P st fs cs parts = some (cs', p)) (_ : p),
    ∃ c', CellsRep w S σ cs' c' ∧ (∀ x ∈ cs', x.inA A) ∧ Instr.fill (fun i => (fs[i]?).map fun q => (q.1, P.cellsOf q.2)) c (parts.map fun q => (q.1, a.eval q.2)) = some c'
  | [], cs, c, hr, hA, cs', p, hb, _ => by
    simp only [sparts, Option.some.injEq, Prod.mk.injEq] at hb
    obtain ⟨rfl, _⟩ := hb
    exact ⟨c, hr, hA, rfl⟩
  | (i, x) :: rest, cs, c, hr, hA, cs', p, hb, hp => by
    simp only [sparts] at hb
    split at hb
    · rename_i v off t hv hf
      split at hb
      · cases hb
      · rename_i cs2 q2 hrec
        simp only [Option.some.injEq, Prod.mk.injEq] at hb
        obtain ⟨rfl, rfl⟩ := hb
        obtain ⟨⟨hft, hok, hxl, hi⟩, hq2⟩ := hp
        obtain ⟨hu, huA⟩ := ev_sound h hv
        obtain ⟨g1, g2, g3⟩ := hu.cells hft hok
        have hA1 : ∀ x ∈ splice cs off v.cells, x.inA A := by
          intro y hy
          simp only [splice, List.mem_append] at hy
          rcases hy with (hy | hy) | hy
          · exact hA y (List.mem_of_mem_take hy)
          · exact huA.cells y hy
          · exact hA y (List.mem_of_mem_drop hy)
        obtain ⟨c2, hr2, hA2, hf2⟩ := sparts_sound h fs rest (hr.splice off v.cells _ g1 hi g2) hA1 hrec hq2
        refine ⟨c2, hr2, hA2, ?_⟩
        have hsz' : (a.eval x).cells.size = P.cellsOf t := by have : (a.eval x).cells.toList.length = P.cellsOf t := by omega
                                                              simpa using this
        have hcs := hr.1
        simp only [List.map_cons, Instr.fill, hf, Option.map_some, hsz', ne_eq, not_true_eq_false, decide_false, Bool.false_or, decide_eq_true_eq]
        rw [if_neg (by omega), array_foldl_spl]
        exact hf2
    · cases hb
def fieldsOf (P : Program) (t : TypeId) : Option (List (Nat × TypeId)) :=
  match P.underlying t with
  | some (.struct fs) => some (fs.toList.map fun f => (f.offset, f.type))
  | some (.array n e) => match P.cellsOf e == 0 with
    | true => none
    | false => some ((List.range n).map fun i => (i * P.cellsOf e, e))
  | _ => none
theorem fill_mono {f g : Nat → Option (Nat × Nat)} (h : ∀ i p, f i = some p → g i = some p) : ∀ (l : List (Nat × Value)) (c d : Array Value), Instr.fill f c l = some d → Instr.fill g c l = some d
  | [], c, d, e => e
  | (i, v) :: rest, c, d, e => by
    unfold Instr.fill at e ⊢
    cases hi : f i with
    | none => rw [hi] at e; cases e
    | some p =>
      rw [hi] at e
      rw [h i p hi]
      obtain ⟨off, size⟩ := p
      simp only at e ⊢
      split at e
      · cases e
      · rename_i hc; rw [if_neg hc]; exact fill_mono h rest _ d e
def abuild (P : Program) (st : St) (t : TypeId) (parts : Array (Nat × Operand)) : Option E :=
  match fieldsOf P t, zeroOf P t with
  | some fs, some zs => match sparts P st fs (zs.toList.map litC) parts.toList with
    | some (cs, p) => some ⟨p ∧ fs.all (fun f => P.cellsOf f.2 != 0) = true, .agg cs, []⟩
    | none => none
  | _, _ => none
theorem run_mapM {α β : Type} (f : α → Sem β) (g : α → β) : ∀ (l : List α) (_ : ∀ x ∈ l, (f x).run P w = .ok (g x) w), (l.mapM f).run P w = .ok (l.map g) w
  | [], _ => by simp
  | x :: l, h => by
    rw [List.mapM_cons, Sem.run_bind, h x (by simp), Result.andThen_ok, Sem.run_bind, run_mapM f g l (fun y hy => h y (by simp [hy]))]
    simp
theorem abuild_sound (h : RelOf X A σ S st a w) {t : TypeId} {parts : Array (Nat × Operand)} {e : E} (he : abuild P st t parts = some e) (hp : e.pre) :
    Does P X A st e a w (do pure (.value (← Instr.build t (parts.map fun (i, y) => (i, a.eval y))))) := by
  unfold abuild at he
  split at he
  · rename_i fs zs hfs hz
    split at he
    · rename_i cs p hb
      cases he
      obtain ⟨hq, hall⟩ := hp
      obtain ⟨zv, hzc, hzr⟩ := run_zeroValue' hz
      obtain ⟨c', hr, hA, hf⟩ := sparts_sound (P := P) h fs parts.toList (cs := zs.toList.map litC) (c := zs) ⟨by simp, zero_rep zs⟩ (by intro y hy; obtain ⟨v, _, rfl⟩ := List.mem_map.1 hy; trivial) hb hq
      unfold fieldsOf at hfs
      split at hfs
      · rename_i fields hu
        cases hfs
        refine ⟨.value (.agg c'), _, w, σ, S, ?_, .inl rfl, h, .agg _ _ hr.1 hr.2, .agg hA⟩
        have hm : (fields.mapM (fun f => do pure (f.offset, ← sizeOf f.type) : Go.Field → Sem (Nat × Nat))).run P w = .ok (fields.map fun f => (f.offset, P.cellsOf f.type)) w := by
          have h1 := run_mapM (P := P) (w := w) (fun f => do pure (f.offset, ← sizeOf f.type) : Go.Field → Sem (Nat × Nat)) (fun f => (f.offset, P.cellsOf f.type)) fields.toList ?_
          · rw [Array.mapM_eq_mapM_toList]
            simp only [map_eq_pure_bind, Sem.run_bind, h1, Result.andThen_ok, Sem.run_pure]
            congr 1
            apply Array.ext'
            simp
          · intro f hfm
            have : P.cellsOf f.type ≠ 0 := by
              have := List.all_eq_true.1 hall (f.offset, f.type) (List.mem_map.2 ⟨f, hfm, rfl⟩)
              simpa using this
            rw [Sem.run_bind, run_sizeOf' (info_of_cells rfl this), Result.andThen_ok]
            rfl
        subst hzc
        have hf' : Instr.fill (fun i => (fields.map fun f => (f.offset, P.cellsOf f.type))[i]?) zv.cells (parts.map fun (i, y) => (i, a.eval y)).toList = some c' := by
          rw [Array.toList_map, ← hf]
          congr 1
          funext i
          simp
          cases fields[i]? <;> rfl
        simp only [Instr.build, Sem.run_bind, run_underlying hu, hzr, Result.andThen_ok, hm, hf', Sem.run_pure]
      · rename_i n el hu
        split at hfs
        · cases hfs
        rename_i hne0
        cases hfs
        refine ⟨.value (.agg c'), _, w, σ, S, ?_, .inl rfl, h, .agg _ _ hr.1 hr.2, .agg hA⟩
        subst hzc
        have hne : P.cellsOf el ≠ 0 := by simpa using hne0
        have hz := run_sizeOf' (P := P) (info_of_cells rfl hne) w
        have hf' : Instr.fill (fun i => some (i * P.cellsOf el, P.cellsOf el)) zv.cells (parts.map fun (i, y) => (i, a.eval y)).toList = some c' := by
          rw [Array.toList_map]
          refine fill_mono ?_ _ _ _ hf
          intro i p hi
          simp only [List.getElem?_map] at hi
          cases hri : (List.range n)[i]? with
          | none => rw [hri] at hi; cases hi
          | some j =>
            rw [hri] at hi
            have : j = i := by
              have := (List.getElem?_eq_some_iff.1 hri).2
              simpa using this.symm
            subst this
            simpa using hi
        simp only [Instr.build, Sem.run_bind, run_underlying hu, hzr, Result.andThen_ok, hz, hf', Sem.run_pure]
      · cases hfs
    · cases he
  · cases he
end Go.Abs
