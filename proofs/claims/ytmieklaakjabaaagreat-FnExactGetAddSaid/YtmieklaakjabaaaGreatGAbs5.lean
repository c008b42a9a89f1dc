import Derived.Test.YtmieklaakjabaaaGreatGAbs4
import Derived.Laws.StructEq
import Derived.Laws.BytesString
import Derived.Deep.Onto
set_option linter.unusedSimpArgs false
set_option linter.unusedVariables false
namespace Go.Abs
open Go Go.RowKit
variable {P : Program} {X : Ctx} {A A' : Nat → Prop} {σ : Nat → Loc} {S : Kx → Prop} {st : St} {a : Act} {w w' : World}
/-! ### values -/
def amove (st : St) (y : Operand) : Option E := (ev st y).map fun v => ⟨True, v, []⟩
theorem amove_sound (h : RelOf X A σ S st a w) {y : Operand} {e : E} (he : amove st y = some e) : Does P X A st e a w (pure (.value (a.eval y))) := by
  unfold amove at he
  cases hy : ev st y with
  | none => simp [hy] at he
  | some v =>
    simp only [hy, Option.map_some, Option.some.injEq] at he
    subst he
    exact ⟨_, _, w, σ, S, rfl, .inl rfl, h, (ev_sound h hy).1, (ev_sound h hy).2⟩
def apick (st : St) (c y z : Operand) : Option E :=
  match ev st c with
  | some (.one (.p (.lit (.bool b)))) => match b with
    | true => amove st y
    | false => amove st z
  | _ => none
theorem apick_sound (h : RelOf X A σ S st a w) {c y z : Operand} {e : E} (he : apick st c y z = some e) :
    Does P X A st e a w (do pure (.value (if ← asBool (a.eval c) then a.eval y else a.eval z))) := by
  unfold apick at he
  split at he
  · rename_i b hc
    rw [lit_inv (ev_sound h hc).1 rfl]
    cases b with
    | true =>
      obtain ⟨n, v, w', σ', S', h1, h2⟩ := amove_sound (P := P) h he
      exact ⟨n, v, w', σ', S', by simpa [asBool] using h1, h2⟩
    | false =>
      obtain ⟨n, v, w', σ', S', h1, h2⟩ := amove_sound (P := P) h he
      exact ⟨n, v, w', σ', S', by simpa [asBool] using h1, h2⟩
  · cases he
def anil (st : St) (y : Operand) : Option E :=
  match ev st y with
  | some (.one (.hp b i j)) => some ⟨True, .one (.hp b i j), []⟩
  | some (.one (.fp el j)) => some ⟨True, .one (.fp el j), []⟩
  | _ => none
theorem anil_sound (h : RelOf X A σ S st a w) {o : Oper} {y : Operand} (ho : o.op = .nilCheck y) {e : E} (he : anil st y = some e) : Does P X A st e a w (execOp a.eval o) := by
  unfold anil at he
  split at he
  · rename_i b i j hy
    cases he
    obtain ⟨hv, hA⟩ := ev_sound h hy
    refine ⟨.value (a.eval y), _, w, σ, S, ?_, .inl rfl, h, hv, hA⟩
    generalize hz : a.eval y = z at hv ⊢
    cases hv with
    | one hv => cases hv; simp [execOp, ho, hz]
  · rename_i el j hy
    cases he
    obtain ⟨hv, hA⟩ := ev_sound h hy
    refine ⟨.value (a.eval y), _, w, σ, S, ?_, .inl rfl, h, hv, hA⟩
    generalize hz : a.eval y = z at hv ⊢
    cases hv with
    | one hv => cases hv; simp [execOp, ho, hz]
  · cases he
def aextract (st : St) (y : Operand) (i : Nat) : Option E :=
  match ev st y with
  | some (.tup vs) => (vs[i]?).map fun v => ⟨True, v, []⟩
  | _ => none
theorem aextract_sound (h : RelOf X A σ S st a w) {y : Operand} {i : Nat} {e : E} (he : aextract st y i = some e) : Does P X A st e a w (do pure (.value (← Instr.extract (a.eval y) i))) := by
  unfold aextract at he
  split at he
  · rename_i vs hy
    cases hi : vs[i]? with
    | none => simp [hi] at he
    | some v =>
      simp only [hi, Option.map_some, Option.some.injEq] at he
      subst he
      obtain ⟨hv, hA⟩ := ev_sound h hy
      generalize a.eval y = z at hv ⊢
      cases hv with
      | tup _ us hl hh =>
        cases hA with
        | tup hA =>
          have hlt : i < us.size := hl ▸ (List.getElem?_eq_some_iff.1 hi).1
          refine ⟨.value us[i], _, w, σ, S, ?_, .inl rfl, h, hh i v _ hi (Array.getElem?_eq_getElem hlt), hA v (List.mem_of_getElem? hi)⟩
          simp [Instr.extract, Array.getElem?_eq_getElem hlt]
  · cases he
/-- Cells that are literals. -/
def litsOf : List AC → Option (List Value)
  | [] => some []
  | .p (.lit v) :: cs => (litsOf cs).map (v :: ·)
  | _ :: _ => none
theorem litsOf_sound : ∀ {cs : List AC} {vs us : List Value}, litsOf cs = some vs → cs.length = us.length → (∀ (i : Nat) c u, cs[i]? = some c → us[i]? = some u → RepC w S σ c u) → us = vs
  | [], vs, us, h, hl, _ => by
    cases h
    cases us with
    | nil => rfl
    | cons => cases hl
  | c :: cs, vs, us, h, hl, hr => by
    cases us with
    | nil => cases hl
    | cons u us =>
      cases c with
      | p x =>
        cases x with
        | lit v =>
          simp only [litsOf] at h
          cases hq : litsOf cs with
          | none => simp [hq] at h
          | some ws =>
            simp only [hq, Option.map_some, Option.some.injEq] at h
            subst h
            have h1 := litsOf_sound hq (by simpa using hl) (fun i c' u' e1 e2 => hr (i + 1) c' u' e1 e2)
            have h2 := hr 0 _ u rfl rfl
            cases h2 with
            | p h2 => cases h2; rw [h1]
        | sl => cases h
        | own => cases h
      | _ => cases h
/-- Two rows of plain cells, field by field. -/
def eqF (P : Program) (f : Field) (us vs : List Value) : Option Bool := match f.name == "_" with
  | true => none
  | false => match us[f.offset]?, vs[f.offset]?, P.underlying f.type with
    | some (.int k a), some (.int k' b), some (.int _) => if k = k' then some (a == b) else none
    | some (.bool a), some (.bool b), some .bool => some (a == b)
    | some (.string a), some (.string b), some .string => some (a.toList == b.toList)
    | _, _, _ => none
def eqFs (P : Program) : List Field → List Value → List Value → Option Bool
  | [], _, _ => some true
  | f :: fs, us, vs => match P.cellsOf f.type == 1 && !isRowT P f.type with
    | false => none
    | true => match eqF P f us vs, eqFs P fs us vs with
      | some r, some s => some (r && s)
      | _, _ => none
def aggEq (P : Program) (t : TypeId) (us vs : List Value) : Option Bool := match P.underlying t with
  | some (.struct fs) => eqFs P fs.toList us vs
  | _ => none
theorem part1 {P : Program} {w : World} {t : TypeId} {d : TypeDesc} (hu : P.underlying t = some d) (h1 : P.cellsOf t = 1) (h2 : isRowT P t = false) {us : List Value} {o : Nat} {u : Value} (hi : us[o]? = some u) :
    (part t us.toArray o).run P w = .ok u w := by
  have hlen : (us.map litC).length = us.toArray.size := by simp
  have ho : o < us.length := (List.getElem?_eq_some_iff.1 hi).1
  obtain ⟨v, h3, h4⟩ := run_part (w := w) (S := fun _ => False) (σ := fun _ => ⟨0, 0, 0⟩) hu (by rw [h1]; simp) (cs := us.map litC) (vs := us.toArray) hlen (fun i c v q1 q2 => by
    rw [List.getElem?_map] at q1
    rw [List.getElem?_toArray] at q2
    rw [q2] at q1
    simp only [Option.map_some, Option.some.injEq] at q1
    subst q1
    exact .p (.lit _)) o (by rw [h2]; simp; omega)
  have hp : partOf (isRowT P t) (P.cellsOf t) (us.map litC) o = lit u := by
    rw [h2]
    simp only [partOf]
    simp [hi]
  rw [hp] at h4
  rw [h3, lit_inv h4 rfl]
theorem eqF_run {P : Program} {w : World} {f : Field} {us vs : List Value} {r : Bool} {d : Nat} (hc : P.cellsOf f.type = 1) (hr : isRowT P f.type = false) (h : eqF P f us vs = some r) :
    f.name ≠ "_" ∧ ∃ a b, (part f.type us.toArray f.offset).run P w = .ok a w ∧ (part f.type vs.toArray f.offset).run P w = .ok b w ∧ (Op.equalIn (d + 1) f.type a b).run P w = .ok r w := by
  unfold eqF at h
  split at h
  · cases h
  · rename_i hn
    refine ⟨by simpa using hn, ?_⟩
    split at h
    · rename_i k a k' b k2 h1 h2 h3
      split at h
      · rename_i hk
        cases h
        subst hk
        exact ⟨_, _, part1 h3 hc hr h1, part1 h3 hc hr h2, run_equalIn_int w d _ _ _ _ _ h3⟩
      · cases h
    · rename_i a b h1 h2 h3
      cases h
      exact ⟨_, _, part1 h3 hc hr h1, part1 h3 hc hr h2, run_equalIn_bool' w d _ _ _ h3⟩
    · rename_i a b h1 h2 h3
      cases h
      exact ⟨_, _, part1 h3 hc hr h1, part1 h3 hc hr h2, run_equalIn_string w d _ _ _ h3⟩
    · cases h
theorem eqFs_run {P : Program} {w : World} {us vs : List Value} {d : Nat} : ∀ {fs : List Field} {r : Bool}, eqFs P fs us vs = some r → (Op.eqFields (d + 1) us.toArray vs.toArray fs).run P w = .ok r w
  | [], r, h => by cases h; simp [Op.eqFields]
  | f :: fs, r, h => by
    simp only [eqFs] at h
    split at h
    · cases h
    · rename_i hq
      simp only [Bool.and_eq_true, beq_iff_eq, Bool.not_eq_true'] at hq
      split at h
      · rename_i r1 s1 h1 h2
        cases h
        obtain ⟨hn, a, b, g1, g2, g3⟩ := eqF_run (w := w) (d := d) hq.1 hq.2 h1
        have ih := eqFs_run (w := w) (d := d) h2
        rw [Op.eqFields]
        simp only [if_pos hn, Sem.run_bind, g1, g2, g3, Result.andThen_ok]
        cases r1
        · simp
        · simpa using ih
      · cases h
theorem aggEq_run {P : Program} {w : World} {t : TypeId} {us vs : List Value} {r : Bool} (h : aggEq P t us vs = some r) (hq : P.stoodInHeld t = false) :
    (Op.equalIn 10000 t (.agg us.toArray) (.agg vs.toArray)).run P w = .ok r w := by
  unfold aggEq at h
  split at h
  · rename_i fs hu
    have hf : P.fieldsOf t = fs := by simp [Program.fieldsOf, hu]
    rw [run_equalIn_struct (P := P) w 9999 t _ _ (by rw [hf]; exact hu) hq, hf]
    exact eqFs_run h
  · cases h
def abin (P : Program) (st : St) (op : BinOp) (t : TypeId) (y z : Operand) : Option E :=
  match ev st y, ev st z with
  | some (.one (.p (.lit u))), some (.one (.p (.lit v))) => (pureRun P (do eqGuard op t y z u v; binOp op t u v)).map fun r => ⟨True, lit r, []⟩
  | some (.agg us), some (.agg vs) => match litsOf us, litsOf vs with
    | some us, some vs => match aggEq P t us vs with
      | some r => match op with
        | .eql => some ⟨P.stoodInHeld t = false ∧ P.eqGuardType P.depth t = false, lit (.bool r), []⟩
        | .neq => some ⟨P.stoodInHeld t = false ∧ P.eqGuardType P.depth t = false, lit (.bool (!r)), []⟩
        | _ => none
      | none => none
    | _, _ => none
  | _, _ => none
theorem abin_sound (h : RelOf X A σ S st a w) {op : BinOp} {t : TypeId} {y z : Operand} {e : E} (he : abin P st op t y z = some e) (hp : e.pre) :
    Does P X A st e a w (do pure (.value (← (do eqGuard op t y z (a.eval y) (a.eval z); binOp op t (a.eval y) (a.eval z) : Sem Value)))) := by
  unfold abin at he
  split at he
  · rename_i u v hy hz
    rw [lit_inv (ev_sound h hy).1 rfl, lit_inv (ev_sound h hz).1 rfl]
    cases hr : pureRun P (do eqGuard op t y z u v; binOp op t u v) with
    | none => simp [hr] at he
    | some r =>
      simp only [hr, Option.map_some, Option.some.injEq] at he
      subst he
      exact Does.value h (pureRun_run _ _ hr w) (.one (.p (.lit _))) (.one trivial)
  · rename_i us vs hy hz
    split at he
    · rename_i us' vs' hu' hv'
      obtain ⟨h1, _⟩ := ev_sound h hy
      obtain ⟨h2, _⟩ := ev_sound h hz
      have e1 : a.eval y = .agg us'.toArray := by
        generalize a.eval y = q at h1 ⊢
        cases h1 with
        | agg _ ws hl hh => rw [← litsOf_sound hu' (us := ws.toList) (by simpa using hl) (fun i c u q1 q2 => hh i c u q1 (by simpa using q2))]
      have e2 : a.eval z = .agg vs'.toArray := by
        generalize a.eval z = q at h2 ⊢
        cases h2 with
        | agg _ ws hl hh => rw [← litsOf_sound hv' (us := ws.toList) (by simpa using hl) (fun i c u q1 q2 => hh i c u q1 (by simpa using q2))]
      rw [e1, e2]
      split at he
      · rename_i r hr
        have g2 := fun q => aggEq_run (w := w) hr q
        split at he
        · cases he
          obtain ⟨q1, g1⟩ := hp
          have g2 := g2 q1
          refine Does.value h ?_ (.one (.p (.lit _))) (.one trivial)
          rw [Sem.run_bind, run_eqGuard_agg w _ _ _ _ _ _ g1]
          simp only [Result.andThen_ok]
          rw [run_eql_struct, g2]
          rfl
        · cases he
          obtain ⟨q1, g1⟩ := hp
          have g2 := g2 q1
          refine Does.value h ?_ (.one (.p (.lit _))) (.one trivial)
          rw [Sem.run_bind, run_eqGuard_agg w _ _ _ _ _ _ g1]
          simp only [Result.andThen_ok]
          rw [run_neq_struct, g2]
          rfl
        · cases he
      · cases he
    · cases he
  · cases he
def aun (P : Program) (st : St) (op : UnOp) (y : Operand) : Option E :=
  match ev st y with
  | some (.one (.p (.lit u))) => (pureRun P (Op.unary op u)).map fun r => ⟨True, lit r, []⟩
  | _ => none
theorem aun_sound (h : RelOf X A σ S st a w) {op : UnOp} {y : Operand} {e : E} (he : aun P st op y = some e) : Does P X A st e a w (do pure (.value (← Op.unary op (a.eval y)))) := by
  unfold aun at he
  split at he
  · rename_i u hy
    rw [lit_inv (ev_sound h hy).1 rfl]
    cases hr : pureRun P (Op.unary op u) with
    | none => simp [hr] at he
    | some r =>
      simp only [hr, Option.map_some, Option.some.injEq] at he
      subst he
      exact Does.value h (pureRun_run _ _ hr w) (.one (.p (.lit _))) (.one trivial)
  · cases he
/-! ### new blocks -/
def zeroOf (P : Program) (t : TypeId) : Option (Array Value) := ((P.info? t).bind (·.zero)).map (·.cells)
def one1 (x : Nat) : Nat → Prop := fun b => x ≤ b ∧ b < x + 8
/-- A new block of one element. -/
theorem new_box (h : RelOf X A σ S st a w) (x : Nat) (hx : ¬ A x) (ty : TypeId) (cs : List AC) (c : Array Value) (hl : cs.length = c.size) (hA : ∀ y ∈ cs, y.inA A)
    (hr : ∀ (i : Nat) y v, cs[i]? = some y → c[i]? = some v → RepC w S σ y v) (h1 : ∀ v ∈ c, v.oneCell' = true) :
    ∃ σ', RelOf X (fun b => A b ∨ b = x) σ' S { st with bl := (x, some (.box cs)) :: st.bl } a (w.alloc (.cells c ty)) ∧ RepC (w.alloc (.cells c ty)) S σ' (.hp x 0 0) (.pointer (some ⟨w.heap.size, 0, none⟩)) := by
  have hσ : ∀ b, A b → upd σ x ⟨w.heap.size, c.size, 1⟩ b = σ b := fun b hb => upd_ne fun e => hx (e ▸ hb)
  have hold : ∀ k, S k → (w.alloc (.cells c ty)).heap[k.b]? = w.heap[k.b]? := fun k hk => Below.heap_alloc w _ _ (h.inS k hk)
  refine ⟨_, h.alloc x hx c ty (0, 0) ⟨w.heap.size, c.size, 1⟩ rfl (.box cs) hA ?_, ?_⟩
  · refine ⟨c, ty, (0, 0), ?_, ?_, ?_, h1, ?_, ?_, ?_⟩
    · rw [upd_self]; exact Array.getElem?_push_size
    · intro o _; simp
    · rw [upd_self]; simp
    · rw [upd_self]
    · rw [upd_self]; exact hl
    · intro j y hj
      have hlt : j < c.size := hl ▸ (List.getElem?_eq_some_iff.1 hj).1
      exact ⟨c[j], Array.getElem?_eq_getElem hlt, (hr j y _ hj (Array.getElem?_eq_getElem hlt)).mono (hA y (List.mem_of_getElem? hj)) hold (fun _ q => q) hσ⟩
  · have := RepC.hp (w := w.alloc (.cells c ty)) (S := S) (σ := upd σ x ⟨w.heap.size, c.size, 1⟩) x 0 0
    rw [upd_self] at this
    simpa using this
theorem zero_rep (c : Array Value) : ∀ (i : Nat) y v, (c.toList.map litC)[i]? = some y → c[i]? = some v → RepC w S σ y v := by
  intro i y v h1 h2
  rw [List.getElem?_map, Array.getElem?_toList, h2] at h1
  cases h1
  exact .p (.lit v)
def aalloc0 (P : Program) (x : Nat) (t : TypeId) : Option E :=
  (zeroOf P t).map fun c => ⟨c.all (·.oneCell') = true, .one (.hp x 0 0), [(x, some (.box (c.toList.map litC)))]⟩
theorem run_zeroValue' {t : TypeId} {c : Array Value} (h : zeroOf P t = some c) : ∃ z, z.cells = c ∧ ∀ w, (zeroValue t).run P w = .ok z w := by
  unfold zeroOf at h
  cases hi : P.info? t with
  | none => simp [hi] at h
  | some i =>
    cases hz : i.zero with
    | none => simp [hi, hz] at h
    | some z => simp [hi, hz] at h; exact ⟨z, h, fun w => by simp [zeroValue, typeInfo, hi, hz]⟩
theorem aalloc0_sound (h : RelOf X A σ S st a w) {x : Nat} (hx : ¬ A x) {t : TypeId} {e : E} (he : aalloc0 P x t = some e) (hp : e.pre) :
    Does P X (fun b => A b ∨ b = x) st e a w (do pure (.value (← Instr.alloc t true (.tuple #[])))) := by
  unfold aalloc0 at he
  cases hz : zeroOf P t with
  | none => simp [hz] at he
  | some c =>
    simp only [hz, Option.map_some, Option.some.injEq] at he
    subst he
    obtain ⟨z, hzc, hzr⟩ := run_zeroValue' hz
    obtain ⟨σ', h1, h2⟩ := new_box h x hx t (c.toList.map litC) c (by simp) (by intro y hy; obtain ⟨v, _, rfl⟩ := List.mem_map.1 hy; trivial) (zero_rep c) (fun v hv => Array.all_eq_true_iff_forall_mem.1 hp v hv)
    refine ⟨.value (.pointer (some ⟨w.heap.size, 0, none⟩)), _, w.alloc (.cells c t), σ', S, ?_, .inl rfl, h1, .one h2, .one (.inr rfl)⟩
    subst hzc
    simp [Instr.alloc, Sem.run_bind, hzr, newVar, newRow]
def abox (st : St) (x : Nat) (y : Operand) : Option E :=
  (ev st y).map fun v => ⟨v.fit ∧ v.cells.all okCell = true, .one (.hp x 0 0), [(x, some (.box v.cells))]⟩
theorem abox_sound (h : RelOf X A σ S st a w) {x : Nat} (hx : ¬ A x) {t : TypeId} {y : Operand} {e : E} (he : abox st x y = some e) (hp : e.pre) :
    Does P X (fun b => A b ∨ b = x) st e a w (do pure (.value (← Instr.box t (a.eval y)))) := by
  unfold abox at he
  cases hy : ev st y with
  | none => simp [hy] at he
  | some v =>
    simp only [hy, Option.map_some, Option.some.injEq] at he
    subst he
    obtain ⟨hv, hA⟩ := ev_sound h hy
    obtain ⟨g1, g2, g3⟩ := hv.cells hp.1 hp.2
    obtain ⟨σ', h1, h2⟩ := new_box h x hx t v.cells (a.eval y).cells (by simpa using g1) hA.cells (fun i c u q1 q2 => g2 i c u q1 (by simpa using q2)) (fun u hu => g3 u (by simpa using hu))
    refine ⟨.value (.pointer (some ⟨w.heap.size, 0, none⟩)), _, w.alloc (.cells (a.eval y).cells t), σ', S, ?_, .inl rfl, h1, .one h2, .one (.inr rfl)⟩
    simp [Instr.box, Sem.run_bind, newVar, newRow]
/-- A new row of elements. -/
theorem new_arr (h : RelOf X A σ S st a w) (x : Nat) (hx : ¬ A x) (ty : TypeId) (els : List (List PV)) (sz cap : Nat) (fr : Nat × Nat) (c : Array Value) (hfr : ∀ o, (o < c.size ∨ (o = c.size ∧ sz ≠ 1)) → (fr.1 ≤ o && o < fr.2) = false) (hsz : c.size = cap * sz) (hcap : els.length ≤ cap)
    (hr : ∀ (i : Nat) el, els[i]? = some el → el.length = sz ∧ ∀ (j : Nat) y, el[j]? = some y → ∃ v, c[i * sz + j]? = some v ∧ RepP w S y v) (h1 : ∀ v ∈ c, v.oneCell' = true) :
    ∃ σ', RelOf X (fun b => A b ∨ b = x) σ' S { st with bl := (x, some (.arr sz els)) :: st.bl } a (w.alloc (.cells c ty fr)) ∧ RepC (w.alloc (.cells c ty fr)) S σ' (.hs x 0 els.length) (.slice (some ⟨w.heap.size, 0, none⟩) els.length cap) := by
  have hold : ∀ k, S k → (w.alloc (.cells c ty fr)).heap[k.b]? = w.heap[k.b]? := fun k hk => Below.heap_alloc w _ _ (h.inS k hk)
  refine ⟨_, h.alloc x hx c ty fr ⟨w.heap.size, sz, cap⟩ rfl (.arr sz els) trivial ?_, ?_⟩
  · refine ⟨c, ty, fr, ?_, by rw [upd_self]; exact hfr, ?_, h1, ?_, ?_, ?_⟩
    · rw [upd_self]; exact Array.getElem?_push_size
    · rw [upd_self]; exact hsz
    · rw [upd_self]
    · rw [upd_self]; exact hcap
    · intro i el hi
      rw [upd_self]
      exact ⟨(hr i el hi).1, fun j y hj => let ⟨v, q1, q2⟩ := (hr i el hi).2 j y hj; ⟨v, q1, q2.mono hold (fun _ q => q)⟩⟩
  · have := RepC.hs (w := w.alloc (.cells c ty fr)) (S := S) (σ := upd σ x ⟨w.heap.size, sz, cap⟩) x 0 els.length cap (by rw [upd_self]; simp) hcap
    rw [upd_self] at this
    simpa using this
def aallocA (P : Program) (x : Nat) (t : TypeId) : Option E :=
  (zeroOf P t).map fun c => ⟨c.all (·.oneCell') = true, .one (.hp x 0 0), [(x, some (.arr 1 (c.toList.map fun v => [.lit v])))]⟩
theorem aallocA_sound (h : RelOf X A σ S st a w) {x : Nat} (hx : ¬ A x) {t : TypeId} {e : E} (he : aallocA P x t = some e) (hp : e.pre) :
    Does P X (fun b => A b ∨ b = x) st e a w (do pure (.value (← Instr.alloc t true (.tuple #[])))) := by
  unfold aallocA at he
  cases hz : zeroOf P t with
  | none => simp [hz] at he
  | some c =>
    simp only [hz, Option.map_some, Option.some.injEq] at he
    subst he
    obtain ⟨z, hzc, hzr⟩ := run_zeroValue' hz
    have hlen : (c.toList.map fun v => [PV.lit v]).length = c.size := by simp
    have hin : (Blk.arr 1 (c.toList.map fun v => [PV.lit v])).inA A := trivial
    have hb : BlkRep (w.alloc (.cells c t)) S (upd σ x ⟨w.heap.size, 1, c.size⟩) x (.arr 1 (c.toList.map fun v => [.lit v])) := by
      refine ⟨c, t, (0, 0), ?_, ?_, ?_, fun v hv => Array.all_eq_true_iff_forall_mem.1 hp v hv, ?_, ?_, ?_⟩
      · rw [upd_self]; exact Array.getElem?_push_size
      · intro o _; simp
      · rw [upd_self]; simp
      · rw [upd_self]
      · rw [upd_self, hlen]; exact Nat.le_refl _
      · intro i el hi
        rw [upd_self]
        rw [List.getElem?_map] at hi
        cases hc : c.toList[i]? with
        | none => rw [hc] at hi; cases hi
        | some v =>
          rw [hc] at hi
          simp only [Option.map_some, Option.some.injEq] at hi
          subst hi
          refine ⟨rfl, fun j y hj => ?_⟩
          cases j with
          | succ j => simp at hj
          | zero =>
            simp only [List.getElem?_cons_zero, Option.some.injEq] at hj
            subst hj
            exact ⟨v, by show c[i * 1 + 0]? = _; rw [Nat.mul_one, Nat.add_zero]; simpa using hc, .lit v⟩
    have h1 := h.alloc x hx c t (0, 0) ⟨w.heap.size, 1, c.size⟩ rfl (.arr 1 (c.toList.map fun v => [.lit v])) hin hb
    refine ⟨.value (.pointer (some ⟨w.heap.size, 0, none⟩)), _, w.alloc (.cells c t), _, S, ?_, .inl rfl, h1, .one ?_, .one (.inr rfl)⟩
    · subst hzc
      simp [Instr.alloc, Sem.run_bind, hzr, newVar, newRow]
    · have := RepC.hp (w := w.alloc (.cells c t)) (S := S) (σ := upd σ x ⟨w.heap.size, 1, c.size⟩) x 0 0
      rw [upd_self] at this
      simpa using this
def aalloc (P : Program) (x : Nat) (t : TypeId) : Option E := match isArr P t with
  | true => aallocA P x t
  | false => aalloc0 P x t
theorem aalloc_sound (h : RelOf X A σ S st a w) {x : Nat} (hx : ¬ A x) {t : TypeId} {e : E} (he : aalloc P x t = some e) (hp : e.pre) :
    Does P X (fun b => A b ∨ b = x) st e a w (do pure (.value (← Instr.alloc t true (.tuple #[])))) := by
  unfold aalloc at he
  split at he
  · exact aallocA_sound h hx he hp
  · exact aalloc0_sound h hx he hp
/-! ### make -/
def zeroEl (c : Array Value) : List PV := c.toList.map .lit
theorem zeros_get (z : Array Value) (n i j : Nat) (hi : i < n) (hj : j < z.size) : (((Array.range (n * z.size)).map (z[· % z.size]!))[i * z.size + j]?) = z[j]? := by
  have hlt : i * z.size + j < n * z.size := by
    have : (i + 1) * z.size ≤ n * z.size := Nat.mul_le_mul_right _ hi
    rw [Nat.add_mul, Nat.one_mul] at this
    omega
  rw [Array.getElem?_map, Array.getElem?_range, if_pos hlt, Option.map_some, Nat.mul_comm i, Nat.mul_add_mod, Nat.mod_eq_of_lt hj, getElem!_pos z j hj, Array.getElem?_eq_getElem hj]
theorem zeros_all (z : Array Value) (n : Nat) (h : z.all (·.oneCell') = true) (hz : z.size ≠ 0) : ∀ v ∈ ((Array.range n).map (z[· % z.size]!)), v.oneCell' = true := by
  intro v hv
  obtain ⟨k, _, rfl⟩ := Array.mem_map.1 hv
  have hlt : k % z.size < z.size := Nat.mod_lt _ (by omega)
  rw [getElem!_pos z _ hlt]
  exact Array.all_eq_true_iff_forall_mem.1 h _ (Array.getElem_mem hlt)
def amake (P : Program) (st : St) (x : Nat) (t : TypeId) (y z : Operand) : Option E :=
  match ev st y, ev st z, P.underlying t with
  | some (.one (.p (.lit (.int .i64 l)))), some (.one (.p (.lit (.int .i64 c)))), some (.slice el) => (zeroOf P el).map fun zs =>
      ⟨0 ≤ l ∧ l ≤ c ∧ c * (P.bytesOf el + 1) < 281474976710656 ∧ P.cellsOf el = zs.size ∧ zs.size ≠ 0 ∧ zs.all (·.oneCell') = true, .one (.hs x 0 l.toNat), [(x, some (.arr zs.size (List.replicate l.toNat (zeroEl zs))))]⟩
  | _, _, _ => none
theorem wrap_id (n : Int) (h0 : 0 ≤ n) (h1 : n < 281474976710656) : IntKind.i64.wrap n = n := by
  simp only [IntKind.wrap, IntKind.bits, IntKind.signed]
  simp
  omega
theorem amake_sound (h : RelOf X A σ S st a w) {x : Nat} (hx : ¬ A x) {t : TypeId} {y z : Operand} {e : E} (he : amake P st x t y z = some e) (hp : e.pre) :
    Does P X (fun b => A b ∨ b = x) st e a w (do pure (.value (← Instr.makeSlice t (a.eval y) (a.eval z)))) := by
  unfold amake at he
  split at he
  · rename_i l c el hy hz hu
    rw [lit_inv (ev_sound h hy).1 rfl, lit_inv (ev_sound h hz).1 rfl]
    cases hzz : zeroOf P el with
    | none => simp [hzz] at he
    | some zs =>
      simp only [hzz, Option.map_some, Option.some.injEq] at he
      subst he
      obtain ⟨h0, h1, h2, h3, h4, h5⟩ := hp
      obtain ⟨zv, hzc, hzr⟩ := run_zeroValue' hzz
      have hnn : (0 : Int) ≤ c * (P.bytesOf el : Int) := Int.mul_nonneg (by omega) (by omega)
      have hcb : c * (P.bytesOf el + 1) = c * (P.bytesOf el : Int) + c := by rw [Int.mul_add, Int.mul_one]
      have hc48 : c < 281474976710656 := by omega
      have hb48 : c * (P.bytesOf el : Int) < 281474976710656 := by omega
      have hlen : (List.replicate l.toNat (zeroEl zs)).length = l.toNat := by simp
      have hrow : ∀ (i : Nat) el', (List.replicate l.toNat (zeroEl zs))[i]? = some el' → el'.length = zs.size ∧ ∀ (j : Nat) y, el'[j]? = some y → ∃ v, ((Array.range (c.toNat * zs.size)).map (zs[· % zs.size]!))[i * zs.size + j]? = some v ∧ RepP w S y v := by
        intro i el' hi
        obtain ⟨hil, rfl⟩ : i < l.toNat ∧ zeroEl zs = el' := by
          rw [List.getElem?_replicate] at hi
          split at hi
          · rename_i q; exact ⟨q, Option.some.inj hi⟩
          · cases hi
        refine ⟨by simp [zeroEl], fun j y hj => ?_⟩
        simp only [zeroEl, List.getElem?_map, Array.getElem?_toList] at hj
        cases hv : zs[j]? with
        | none => simp [hv] at hj
        | some v =>
          simp only [hv, Option.map_some, Option.some.injEq] at hj
          subst hj
          exact ⟨v, by rw [zeros_get zs c.toNat i j (by omega) (Array.getElem?_eq_some_iff.1 hv).1]; exact hv, .lit v⟩
      obtain ⟨σ', g1, g2⟩ := new_arr h x hx el (List.replicate l.toNat (zeroEl zs)) zs.size c.toNat (0, 0) ((Array.range (c.toNat * zs.size)).map (zs[· % zs.size]!)) (by intro o _; simp) (by simp) (by rw [hlen]; omega) hrow (zeros_all zs _ h5 h4)
      rw [hlen] at g2
      refine ⟨.value (.slice (some ⟨w.heap.size, 0, none⟩) l.toNat c.toNat), _, _, σ', S, ?_, .inl rfl, g1, .one g2, .one (.inr rfl)⟩
      obtain ⟨i, hi, hib⟩ : ∃ i, P.info? el = some i ∧ i.bytes = P.bytesOf el := by
        unfold zeroOf at hzz
        cases hi : P.info? el with
        | none => simp [hi] at hzz
        | some i => exact ⟨i, rfl, by simp [Program.bytesOf, hi]⟩
      have hs := run_sizeOf' (P := P) (info_of_cells h3 h4) w
      have hwl : IntKind.i64.wrap l = l := wrap_id l h0 (by omega)
      have hwc : IntKind.i64.wrap c = c := wrap_id c (by omega) hc48
      have e1 : ¬ c < 0 := by omega
      have hcl : l.toNat ≤ c.toNat := by omega
      have e2 : ¬ (281474976710656 < (P.bytesOf el : Int) * c) := by rw [Int.mul_comm]; omega
      have e3 : ¬ l < 0 := by omega
      have e4 : ¬ c < l := by omega
      have hroom : ∀ n w', (askRoom n).run P w' = .ok () w' := by intro n w'; unfold askRoom; split <;> rfl
      have hti : (typeInfo el).run P w = .ok i w := by simp [typeInfo, hi]
      rw [← hib] at e2
      by_cases hn : c.toNat * zs.size = 0
      · have hc0 : c.toNat = 0 := by rcases Nat.mul_eq_zero.1 hn with q | q; exact q; omega
        simp [Instr.makeSlice, asInt, asIntOf, run_underlying hu, hti, hwl, hwc, e1, e2, e3, e4, hroom, hs, hc0, newRow, show Array.range 0 = #[] from rfl]
      · simp [Instr.makeSlice, asInt, asIntOf, run_underlying hu, hti, hwl, hwc, e1, e2, e3, e4, hroom, hs, hn, hzr, hzc, newRow, hcl]
  · cases he
end Go.Abs
