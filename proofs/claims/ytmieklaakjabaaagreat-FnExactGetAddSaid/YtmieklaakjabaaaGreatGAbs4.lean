import Derived.Test.YtmieklaakjabaaaGreatGAbs3
set_option linter.unusedSimpArgs false
set_option linter.unusedVariables false
namespace Go.Abs
open Go Go.RowKit
variable {P : Program} {X : Ctx} {A A' : Nat → Prop} {σ : Nat → Loc} {S : Kx → Prop} {st : St} {a : Act} {w w' : World}
/-! ### addresses -/
def offOf (P : Program) (s : TypeId) (f : Nat) : Option (Nat × TypeId) :=
  match P.underlying s with
  | some (.struct fs) => (fs[f]?).map fun x => (x.offset, x.type)
  | _ => none
def shiftC : AC → Nat → Option AC
  | .hp b i j, n => some (.hp b i (j + n))
  | .fp el j, n => some (.fp el (j + n))
  | _, _ => none
def afieldAddr (P : Program) (st : St) (s : TypeId) (y : Operand) (f : Nat) : Option E :=
  match ev st y, offOf P s f with
  | some (.one c), some (o, t) => (shiftC c o).map fun d => ⟨P.cellsOf t ≠ 0, .one d, []⟩
  | _, _ => none
theorem shiftC_sound {c d : AC} {v : Value} (hc : RepC w S σ c v) {n : Nat} (h : shiftC c n = some d) :
    ∃ k o, v = .pointer (some ⟨k, o, none⟩) ∧ RepC w S σ d (.pointer (some ⟨k, o + n, none⟩)) := by
  cases hc with
  | hp b i j => cases h; exact ⟨_, _, rfl, by rw [Nat.add_assoc]; exact .hp b i (j + n)⟩
  | fp el j k o hk hh => cases h; exact ⟨_, _, rfl, by rw [Nat.add_assoc]; exact .fp el (j + n) k o hk hh⟩
  | _ => cases h
theorem shiftC_inA {c d : AC} {n : Nat} (h : shiftC c n = some d) (hc : c.inA A) : d.inA A := by cases c <;> cases h <;> exact hc
theorem Addr.add_plain (k o n : Nat) : (⟨k, o, none⟩ : Addr).add n = ⟨k, o + n, none⟩ := Addr.add_mid k o n
theorem afieldAddr_sound (h : RelOf X A σ S st a w) {s : TypeId} {y : Operand} {f : Nat} {e : E} (he : afieldAddr P st s y f = some e) (hp : e.pre) : Does P X A st e a w (do pure (.value (← Instr.fieldAt s (a.eval y) f))) := by
  unfold afieldAddr at he
  split at he
  · rename_i c o t hc ho
    cases hd : shiftC c o with
    | none => simp [hd] at he
    | some d =>
      simp only [hd, Option.map_some, Option.some.injEq] at he
      subst he
      obtain ⟨hv, hA⟩ := ev_sound h hc
      generalize a.eval y = vy at hv ⊢
      cases hv with
      | one hv =>
        cases hA with
        | one hA =>
          obtain ⟨k, q, rfl, hrep⟩ := shiftC_sound hv hd
          unfold offOf at ho
          split at ho
          · rename_i fs hu
            cases hf : fs[f]? with
            | none => simp [hf] at ho
            | some fl =>
              simp only [hf, Option.map_some, Option.some.injEq, Prod.mk.injEq] at ho
              obtain ⟨rfl, rfl⟩ := ho
              have hz := run_sizeOf' (P := P) (info_of_cells rfl hp) w
              refine ⟨.value _, _, w, σ, S, ?_, .inl rfl, h, .one hrep, .one (shiftC_inA hd hA)⟩
              simp only [Instr.fieldAt, Sem.run_bind, run_underlying hu, Result.andThen_ok, hf, Instr.sureAddr, Sem.run_pure, fieldPlace, hz, if_neg hp, Addr.add_plain]
          · cases ho
  · cases he
def afield (P : Program) (st : St) (s : TypeId) (y : Operand) (f : Nat) : Option E :=
  match ev st y, offOf P s f with
  | some (.agg cs), some (o, t) => match P.underlying t with
    | some _ => some ⟨P.cellsOf t ≠ 0 ∧ o + (if isRowT P t then P.cellsOf t else 1) ≤ cs.length, partOf (isRowT P t) (P.cellsOf t) cs o, []⟩
    | none => none
  | _, _ => none
theorem run_part {t : TypeId} {d : TypeDesc} (hu : P.underlying t = some d) (hn : P.cellsOf t ≠ 0) {cs : List AC} {vs : Array Value} (hl : cs.length = vs.size)
    (hc : ∀ (i : Nat) c v, cs[i]? = some c → vs[i]? = some v → RepC w S σ c v) (o : Nat) (ho : o + (if isRowT P t then P.cellsOf t else 1) ≤ cs.length) :
    ∃ v, (part t vs o).run P w = .ok v w ∧ RepV w S σ (partOf (isRowT P t) (P.cellsOf t) cs o) v := by
  have hz := run_sizeOf' (P := P) (info_of_cells rfl hn) w
  cases hr : isRowT P t with
  | true =>
    rw [if_pos hr] at ho
    refine ⟨.agg (vs.extract o (o + P.cellsOf t)), ?_, ?_⟩
    · simp only [part, Sem.run_bind, run_isAgg' hu, hr, Result.andThen_ok, if_true, hz, Sem.run_pure]
    · simp only [partOf, if_true]
      refine .agg _ _ (by simp; omega) ?_
      intro i c v e1 e2
      rw [List.getElem?_take] at e1
      split at e1
      · rw [List.getElem?_drop] at e1
        rw [Array.getElem?_extract] at e2
        split at e2
        · exact hc _ c v e1 e2
        · cases e2
      · cases e1
  | false =>
    rw [if_neg (by simp [hr])] at ho
    have hlt : o < vs.size := by omega
    refine ⟨vs[o], ?_, ?_⟩
    · simp [part, Sem.run_bind, run_isAgg' hu, hr, hlt]
    · simp only [partOf]
      rw [if_neg (by simp), List.getD_eq_getElem?_getD, List.getElem?_eq_getElem (show o < cs.length by omega)]
      exact .one (hc o _ _ (List.getElem?_eq_getElem (show o < cs.length by omega)) (Array.getElem?_eq_getElem hlt))
theorem afield_sound (h : RelOf X A σ S st a w) {s : TypeId} {y : Operand} {f : Nat} {e : E} (he : afield P st s y f = some e) (hp : e.pre) : Does P X A st e a w (do pure (.value (← Instr.field s (a.eval y) f))) := by
  unfold afield at he
  split at he
  · rename_i cs o t hc ho
    split at he
    · rename_i d hut
      cases he
      obtain ⟨hv, hA⟩ := ev_sound h hc
      generalize a.eval y = vy at hv ⊢
      cases hv with
      | agg _ vs hl hh =>
        cases hA with
        | agg hA =>
          unfold offOf at ho
          split at ho
          · rename_i fs hu
            cases hf : fs[f]? with
            | none => simp [hf] at ho
            | some fl =>
              simp only [hf, Option.map_some, Option.some.injEq, Prod.mk.injEq] at ho
              obtain ⟨rfl, rfl⟩ := ho
              obtain ⟨v, hr, hrep⟩ := run_part hut hp.1 hl hh fl.offset hp.2
              refine ⟨.value v, v, w, σ, S, ?_, .inl rfl, h, hrep, partOf_inA hA⟩
              simp only [Instr.field, Sem.run_bind, run_underlying hu, Result.andThen_ok, hf, asAgg, Sem.run_pure, hr]
          · cases ho
    · cases he
  · cases he
/-- The address of an element. -/
def aindexAddr0 (P : Program) (st : St) (t : TypeId) (y ix : Operand) : Option E :=
  match ev st y, ev st ix, P.underlying t with
  | some (.one c), some (.one (.p (.lit (.int _ i)))), some (.slice _) => match c with
    | .p (.sl els) => some ⟨0 ≤ i ∧ i < els.length ∧ P.cellsOf (match P.underlying t with | some (.slice e) => e | _ => 0) = (els.getD i.toNat []).length ∧ (els.getD i.toNat []) ≠ [], .one (.fp (els.getD i.toNat []) 0), []⟩
    | .hs b lo n => match st.rd b with
      | some (.arr sz els) => some ⟨0 ≤ i ∧ i < n ∧ lo + n ≤ els.length ∧ P.cellsOf (match P.underlying t with | some (.slice e) => e | _ => 0) = sz ∧ sz ≠ 0, .one (.hp b (lo + i.toNat) 0), []⟩
      | _ => none
    | _ => none
  | some (.one c), some (.one (.p (.lit (.int _ i)))), some (.array len elem) => (shiftC c (i.toNat * P.cellsOf elem)).map fun d => ⟨0 ≤ i ∧ i < len ∧ P.cellsOf elem ≠ 0, .one d, []⟩
  | _, _, _ => none
theorem run_indexAt_slice {t e : TypeId} (hu : P.underlying t = some (.slice e)) (k o n cap : Nat) (ik : IntKind) (i : Int) (h0 : 0 ≤ i) (h1 : i < n) (hn : P.cellsOf e ≠ 0) :
    (Instr.indexAt t (.slice (some ⟨k, o, none⟩) n cap) (.int ik i)).run P w = .ok (.pointer (some ⟨k, o + i.toNat * P.cellsOf e, none⟩)) w := by
  have hz := run_sizeOf' (P := P) (info_of_cells rfl hn) w
  simp only [Instr.indexAt, asIntOf, Sem.run_bind, Sem.run_pure, run_underlying hu, Result.andThen_ok, Bool.and_false, if_pos (And.intro h0 h1), hz, Addr.add_plain]
theorem run_indexAt_array {t e : TypeId} {len : Nat} (hu : P.underlying t = some (.array len e)) (k o : Nat) (ik : IntKind) (i : Int) (h0 : 0 ≤ i) (h1 : i < len) (hn : P.cellsOf e ≠ 0) :
    (Instr.indexAt t (.pointer (some ⟨k, o, none⟩)) (.int ik i)).run P w = .ok (.pointer (some ⟨k, o + i.toNat * P.cellsOf e, none⟩)) w := by
  have hz := run_sizeOf' (P := P) (info_of_cells rfl hn) w
  simp only [Instr.indexAt, asIntOf, Instr.sureAddr, Sem.run_bind, Sem.run_pure, run_underlying hu, Result.andThen_ok, if_pos (And.intro h0 h1), hz, Addr.add_plain]
theorem aindexAddr0_sound (h : RelOf X A σ S st a w) {t : TypeId} {y ix : Operand} {e : E} (he : aindexAddr0 P st t y ix = some e) (hp : e.pre) : Does P X A st e a w (do pure (.value (← Instr.indexAt t (a.eval y) (a.eval ix)))) := by
  unfold aindexAddr0 at he
  split at he
  · rename_i c ik i el hy hi hu
    obtain ⟨hv, hA⟩ := ev_sound h hy
    obtain ⟨hiv, _⟩ := ev_sound h hi
    generalize a.eval y = vy at hv ⊢
    generalize a.eval ix = vi at hiv ⊢
    cases hiv with
    | one hiv => cases hiv with
      | p hiv =>
        cases hiv
        cases hA with
        | one hA =>
          cases hv with
          | one hv =>
            simp only [hu] at he
            split at he
            · rename_i els
              cases he
              obtain ⟨h0, h1, h2, h3⟩ := hp
              have hlt : i.toNat < els.length := by omega
              have hel : els[i.toNat]? = some (els.getD i.toNat []) := by rw [List.getD_eq_getElem?_getD, List.getElem?_eq_getElem hlt]; rfl
              cases hv with
              | p hv =>
                cases hv with
                | nil a' cap => simp at hlt
                | sl _ k off sz n cap cf hn hcap hk hsz hc hr =>
                  have hs := hsz _ _ hel
                  have hsz0 : P.cellsOf el = sz := h2.trans hs
                  have hne : P.cellsOf el ≠ 0 := by rw [h2]; intro e; exact h3 (List.length_eq_zero_iff.1 e)
                  refine ⟨.value _, _, w, σ, S, by rw [Sem.run_bind, run_indexAt_slice hu k off n cap ik i h0 (by omega) hne]; rfl, .inl rfl, h, .one ?_, .one trivial⟩
                  have := RepC.fp (w := w) (S := S) (σ := σ) (els.getD i.toNat []) 0 k (off + i.toNat * P.cellsOf el) hk ?_
                  · exact this
                  · intro m x hx
                    rw [hsz0, Nat.add_assoc]
                    exact ⟨_, (hc _ _ m x hel hx).1, hr _ _ m x hel hx⟩
            · rename_i b lo n
              split at he
              · rename_i sz els hr
                cases he
                obtain ⟨h0, h1, h2, h3, h4⟩ := hp
                obtain ⟨c, ty, fr, g1, g0, g2, g3, g6, g4, g5⟩ := h.blks b _ hr
                have hsz0 : P.cellsOf el = (σ b).sz := h3.trans g6.symm
                have hne : P.cellsOf el ≠ 0 := by rw [h3]; exact h4
                cases hv with
                | hs b lo n cap hcap hn =>
                  refine ⟨.value _, _, w, σ, S, by rw [Sem.run_bind, run_indexAt_slice hu _ _ n cap ik i h0 h1 hne]; rfl, .inl rfl, h, .one ?_, .one hA⟩
                  have := RepC.hp (w := w) (S := S) (σ := σ) b (lo + i.toNat) 0
                  rw [hsz0, ← Nat.add_mul]
                  exact this
                | hs0 => simp at h1; omega
              · cases he
            · cases he
  · rename_i c ik i len el hy hi hu
    obtain ⟨hv, hA⟩ := ev_sound h hy
    obtain ⟨hiv, _⟩ := ev_sound h hi
    generalize a.eval y = vy at hv ⊢
    generalize a.eval ix = vi at hiv ⊢
    cases hiv with
    | one hiv => cases hiv with
      | p hiv =>
        cases hiv
        cases hA with
        | one hA =>
          cases hv with
          | one hv =>
            cases hd : shiftC c (i.toNat * P.cellsOf el) with
            | none => simp [hd] at he
            | some d =>
              simp only [hd, Option.map_some, Option.some.injEq] at he
              subst he
              obtain ⟨k, q, rfl, hrep⟩ := shiftC_sound hv hd
              exact ⟨.value _, _, w, σ, S, by rw [Sem.run_bind, run_indexAt_array hu k q ik i hp.1 hp.2.1 hp.2.2]; rfl, .inl rfl, h, .one hrep, .one (shiftC_inA hd hA)⟩
  · cases he
/-- The address of an element of an array of one-cell elements. -/
def aindexAddrA (P : Program) (st : St) (t : TypeId) (y ix : Operand) : Option E :=
  match ev st y, ev st ix, P.underlying t with
  | some (.one c), some (.one (.p (.lit (.int _ i)))), some (.array len elem) => match c with
    | .hp b i0 j0 => match st.rd b with
      | some (.arr sz els) => some ⟨j0 = 0 ∧ sz = 1 ∧ 0 ≤ i ∧ i < len, .one (.hp b (i0 + i.toNat) 0), []⟩
      | _ => none
    | .fp el j => some ⟨0 ≤ i ∧ i < len ∧ j + i.toNat < el.length, .one (.fp [el.getD (j + i.toNat) (.lit undef)] 0), []⟩
    | _ => none
  | _, _, _ => none
theorem aindexAddrA_sound (h : RelOf X A σ S st a w) {t : TypeId} (ht : isArr P t = true) {y ix : Operand} {e : E} (he : aindexAddrA P st t y ix = some e) (hp : e.pre) : Does P X A st e a w (do pure (.value (← Instr.indexAt t (a.eval y) (a.eval ix)))) := by
  unfold aindexAddrA at he
  split at he
  · rename_i c ik i len el hy hi hu
    have hel : P.cellsOf el = 1 := by unfold isArr at ht; rw [hu] at ht; simpa using ht
    obtain ⟨hv, hA⟩ := ev_sound h hy
    obtain ⟨hiv, _⟩ := ev_sound h hi
    generalize a.eval y = vy at hv ⊢
    generalize a.eval ix = vi at hiv ⊢
    cases hiv with
    | one hiv => cases hiv with
      | p hiv =>
        cases hiv
        cases hA with
        | one hA =>
          cases hv with
          | one hv =>
            split at he
            · rename_i b i0 j0
              split at he
              · rename_i sz els hr
                cases he
                obtain ⟨rfl, rfl, h0, h1⟩ := hp
                have hsz : (σ b).sz = 1 := by obtain ⟨c, ty, fr, g1, g0, g2, g3, g6, g4, g5⟩ := h.blks b _ hr; exact g6
                cases hv with
                | hp =>
                  refine ⟨.value _, _, w, σ, S, by rw [Sem.run_bind, run_indexAt_array hu _ _ ik i h0 h1 (by rw [hel]; decide)]; rfl, .inl rfl, h, .one ?_, .one hA⟩
                  have := RepC.hp (w := w) (S := S) (σ := σ) b (i0 + i.toNat) 0
                  rw [hsz] at this ⊢
                  rw [hel]
                  simp only [Nat.mul_one, Nat.add_zero] at this ⊢
                  exact this
              · cases he
            · rename_i fl j
              cases he
              obtain ⟨h0, h1, h2⟩ := hp
              cases hv with
              | fp _ _ k o hk hh =>
                refine ⟨.value _, _, w, σ, S, by rw [Sem.run_bind, run_indexAt_array hu _ _ ik i h0 h1 (by rw [hel]; decide)]; rfl, .inl rfl, h, .one ?_, .one trivial⟩
                have := RepC.fp (w := w) (S := S) (σ := σ) [fl.getD (j + i.toNat) (.lit undef)] 0 k (o + (j + i.toNat)) hk ?_
                · rw [hel, Nat.mul_one]
                  rw [Nat.add_zero, ← Nat.add_assoc] at this
                  exact this
                · intro m x hx
                  cases m with
                  | succ m => simp at hx
                  | zero =>
                    simp only [List.getElem?_cons_zero, Option.some.injEq] at hx
                    subst hx
                    rw [Nat.add_zero]
                    exact hh (j + i.toNat) _ (by rw [List.getD_eq_getElem?_getD, List.getElem?_eq_getElem h2]; rfl)
            · cases he
  · cases he
def aindexAddr (P : Program) (st : St) (t : TypeId) (y ix : Operand) : Option E := match isArr P t with
  | true => aindexAddrA P st t y ix
  | false => aindexAddr0 P st t y ix
theorem aindexAddr_sound (h : RelOf X A σ S st a w) {t : TypeId} {y ix : Operand} {e : E} (he : aindexAddr P st t y ix = some e) (hp : e.pre) : Does P X A st e a w (do pure (.value (← Instr.indexAt t (a.eval y) (a.eval ix)))) := by
  unfold aindexAddr at he
  split at he
  · rename_i ht; exact aindexAddrA_sound h ht he hp
  · exact aindexAddr0_sound h he hp
/-- The byte at a place of a string. -/
def bt (s : ByteArray) (n : Nat) : Int := ((s.data.toList.getD n 0).toNat : Int)
def aindex (P : Program) (st : St) (t : TypeId) (y ix : Operand) : Option E :=
  match ev st y, ev st ix, P.underlying t with
  | some (.one (.p (.lit (.string s)))), some (.one (.p (.lit (.int _ i)))), some .string => some ⟨0 ≤ i ∧ i < s.size, lit (.int .u8 (bt s i.toNat)), []⟩
  | some (.agg cs), some (.one (.p (.lit (.int _ i)))), some (.array len elem) => match P.underlying elem with
    | some _ => some ⟨0 ≤ i ∧ i < len ∧ P.cellsOf elem ≠ 0 ∧ i.toNat * P.cellsOf elem + (if isRowT P elem then P.cellsOf elem else 1) ≤ cs.length, partOf (isRowT P elem) (P.cellsOf elem) cs (i.toNat * P.cellsOf elem), []⟩
    | none => none
  | _, _, _ => none
theorem lit_inv {av : AV} {v u : Value} (h : RepV w S σ av u) (e : av = lit v) : u = v := by
  subst e
  cases h with
  | one h => cases h with
    | p h => cases h; rfl
theorem aindex_sound (h : RelOf X A σ S st a w) {t : TypeId} {y ix : Operand} {e : E} (he : aindex P st t y ix = some e) (hp : e.pre) : Does P X A st e a w (do pure (.value (← Instr.index t (a.eval y) (a.eval ix)))) := by
  unfold aindex at he
  split at he
  · rename_i s ik i hy hi hu
    cases he
    rw [lit_inv (ev_sound h hy).1 rfl, lit_inv (ev_sound h hi).1 rfl]
    obtain ⟨h0, h1⟩ := hp
    have hlt : i.toNat < s.size := by omega
    refine ⟨.value _, _, w, σ, S, ?_, .inl rfl, h, .one (.p (.lit _)), .one trivial⟩
    have hb : s[i.toNat]? = some s[i.toNat] := by simp [hlt]
    have hv : bt s i.toNat = (s[i.toNat].toNat : Int) := by
      unfold bt
      rw [List.getD_eq_getElem?_getD, List.getElem?_eq_getElem (by simpa using hlt)]
      rfl
    simp only [Instr.index, asIntOf, Sem.run_bind, Sem.run_pure, run_underlying hu, Result.andThen_ok, if_pos h0, hb, hv]
  · rename_i cs ik i len el hy hi hu
    split at he
    · rename_i d hut
      cases he
      obtain ⟨hv, hA⟩ := ev_sound h hy
      rw [lit_inv (ev_sound h hi).1 rfl]
      generalize a.eval y = vy at hv ⊢
      cases hv with
      | agg _ vs hl hh =>
        cases hA with
        | agg hA =>
          obtain ⟨h0, h1, h2, h3⟩ := hp
          obtain ⟨v, hr, hrep⟩ := run_part hut h2 hl hh _ h3
          have hz := run_sizeOf' (P := P) (info_of_cells rfl h2) w
          refine ⟨.value v, v, w, σ, S, ?_, .inl rfl, h, hrep, partOf_inA hA⟩
          simp only [Instr.index, asIntOf, Sem.run_bind, Sem.run_pure, run_underlying hu, Result.andThen_ok, if_pos (And.intro h0 h1), hz, hr]
    · cases he
  · cases he
/-! ### slicing -/
def aint (st : St) : Option Operand → Int → Option Int
  | none, d => some d
  | some y, _ => match ev st y with
    | some (.one (.p (.lit (.int _ i)))) => some i
    | _ => none
def aslice (P : Program) (st : St) (t : TypeId) (y : Operand) (lo hi mx : Option Operand) : Option E :=
  match ev st y, P.underlying t, mx with
  | some (.one (.p (.lit (.string s)))), some .string, none => match aint st lo 0, aint st hi s.size with
    | some l, some h => some ⟨0 ≤ l ∧ l ≤ h ∧ h ≤ s.size, lit (.string (s.extract l.toNat h.toNat)), []⟩
    | _, _ => none
  | some (.one (.p (.sl els))), some (.slice el), none => match aint st lo 0, aint st hi els.length with
    | some l, some h => some ⟨0 ≤ l ∧ l ≤ h ∧ h ≤ els.length ∧ P.cellsOf el ≠ 0 ∧ (∀ x ∈ els, x.length = P.cellsOf el), .one (.p (.sl ((els.drop l.toNat).take (h.toNat - l.toNat)))), []⟩
    | _, _ => none
  | some (.one (.hs b k n)), some (.slice el), none => match aint st lo 0, aint st hi n, st.rd b with
    | some l, some h, some (.arr sz els) => some ⟨0 ≤ l ∧ l ≤ h ∧ h ≤ n ∧ k + n ≤ els.length ∧ P.cellsOf el ≠ 0 ∧ P.cellsOf el = sz, .one (.hs b (k + l.toNat) (h.toNat - l.toNat)), []⟩
    | _, _, _ => none
  | _, _, _ => none
theorem aint_sound (h : RelOf X A σ S st a w) {o : Option Operand} {d i : Int} (he : aint st o d = some i) : (o = none ∧ i = d) ∨ ∃ y k, o = some y ∧ a.eval y = .int k i := by
  cases o with
  | none => cases he; exact .inl ⟨rfl, rfl⟩
  | some y =>
    simp only [aint] at he
    split at he
    · rename_i k j hy
      cases he
      exact .inr ⟨y, k, rfl, lit_inv (ev_sound h hy).1 rfl⟩
    · cases he
theorem run_sliceBounds (h : RelOf X A σ S st a w) (isS : Bool) (n cap : Nat) (lo hi : Option Operand) (l u : Int) (hl : aint st lo 0 = some l) (hu : aint st hi n = some u) (h0 : 0 ≤ l) (h1 : l ≤ u) (h2 : u ≤ cap) :
    (Instr.sliceBounds isS n cap (lo.map a.eval) (hi.map a.eval) none).run P w = .ok (l.toNat, u.toNat, cap) w := by
  have hl' := aint_sound h hl
  have hu' := aint_sound h hu
  have h3 : 0 ≤ u := by omega
  have h4 : (l ≤ (u.toNat : Int)) := by omega
  rcases hu' with ⟨rfl, rfl⟩ | ⟨y, k, rfl, hy⟩ <;> rcases hl' with ⟨rfl, rfl⟩ | ⟨y', k', rfl, hy'⟩
  · simp [Instr.sliceBounds]
  · simp only [Int.toNat_natCast] at h4 ⊢
    simp [Instr.sliceBounds, hy', Instr.sliceBound, asIntOf, h0, h4]
  · simp [Instr.sliceBounds, hy, Instr.sliceBound, asIntOf, h3, h2]
  · have h5 : ¬ (max u 0 < l) := by rw [Int.max_eq_left h3]; omega
    simp [Instr.sliceBounds, hy, hy', Instr.sliceBound, asIntOf, h0, h3, h2, h5]
theorem RepP.sub {els : List (List PV)} {k off n cap e : Nat} (h : RepP w S (.sl els) (.slice (some ⟨k, off, none⟩) n cap)) (l u : Nat) (h1 : l ≤ u) (h2 : u ≤ els.length) (hel : ∀ x ∈ els, x.length = e) (cap' : Nat) (hcap : u - l ≤ cap') :
    RepP w S (.sl ((els.drop l).take (u - l))) (.slice (some ⟨k, off + l * e, none⟩) (u - l) cap') := by
  cases h with
  | nil => simp at h2; subst h2; simp at h1; subst h1; exact .nil _ _
  | sl _ _ _ sz _ _ cf hn hc hk hsz hce hr hno =>
    have hg : ∀ i el, ((els.drop l).take (u - l))[i]? = some el → els[l + i]? = some el := by
      intro i el hi
      rw [List.getElem?_take] at hi
      split at hi
      · rwa [List.getElem?_drop] at hi
      · cases hi
    refine .sl _ _ _ sz _ _ (fun i j => cf (l + i) j) (by simp; omega) hcap hk (fun i el hi => hsz _ _ (hg i el hi)) ?_ (fun i el j x hi hj => hr _ _ j x (hg i el hi) hj) (fun i el j x hi hj => hno _ _ j x (hg i el hi) hj)
    intro i el j x hi hj
    have := hce _ _ j x (hg i el hi) hj
    have e1 := hsz _ _ (hg i el hi)
    have e2 := hel el (List.mem_of_getElem? (hg i el hi))
    have : sz = e := by omega
    subst this
    rw [show off + l * sz + (i * sz + j) = off + ((l + i) * sz + j) by rw [Nat.add_mul]; omega]
    assumption
theorem aslice_sound (h : RelOf X A σ S st a w) {t : TypeId} {y : Operand} {lo hi mx : Option Operand} {e : E} (he : aslice P st t y lo hi mx = some e) (hp : e.pre) :
    Does P X A st e a w (do pure (.value (← Instr.sliceAt t (a.eval y) (lo.map a.eval) (hi.map a.eval) (mx.map a.eval)))) := by
  unfold aslice at he
  split at he
  · rename_i s hy hu
    split at he
    · rename_i l u hl hh
      cases he
      rw [lit_inv (ev_sound h hy).1 rfl]
      refine ⟨.value _, _, w, σ, S, ?_, .inl rfl, h, .one (.p (.lit _)), .one trivial⟩
      have hb := run_sliceBounds (P := P) h false s.size s.size lo hi l u hl hh hp.1 hp.2.1 hp.2.2
      simp only [Instr.sliceAt, Instr.slice, Sem.run_bind, run_underlying hu, Result.andThen_ok, Option.map_none, Option.isSome_none, Bool.false_eq_true, if_false, Sem.run_pure, hb]
    · cases he
  · rename_i els el hy hu
    split at he
    · rename_i l u hl hh
      cases he
      obtain ⟨hv, hA⟩ := ev_sound h hy
      obtain ⟨h0, h1, h2, h3, h4⟩ := hp
      generalize a.eval y = vy at hv ⊢
      have hz := run_sizeOf' (P := P) (info_of_cells rfl h3) w
      cases hv with
      | one hv => cases hv with
        | p hv =>
          cases hv with
          | nil a' cap =>
            simp at h2 hh
            have hu0 : u = 0 := by omega
            have hl0 : l = 0 := by omega
            subst hu0; subst hl0
            have hb := run_sliceBounds (P := P) h true 0 cap lo hi 0 0 hl hh (by omega) (by omega) (by omega)
            refine ⟨.value (.slice (if cap = 0 then a' else a'.map (·.add (0 * P.cellsOf el))) 0 cap), _, w, σ, S, ?_, .inl rfl, h, .one (.p (.nil _ _)), .one trivial⟩
            simp only [Instr.sliceAt, Instr.slice, Sem.run_bind, run_underlying hu, Result.andThen_ok, Option.map_none, Sem.run_pure, hb, hz]
            rfl
          | sl _ k off sz n cap cf hn hcap hk hsz hc hr hno =>
            have hall : RepP w S (.sl els) (.slice (some ⟨k, off, none⟩) n cap) := .sl els k off sz n cap cf hn hcap hk hsz hc hr hno
            have hh' : aint st hi (n : Int) = some u := by rw [hn] at hh; exact hh
            have hb := run_sliceBounds (P := P) h true n cap lo hi l u hl hh' h0 h1 (by omega)
            have hun : u.toNat ≤ els.length := by omega
            refine ⟨.value (.slice (if cap = l.toNat then some ⟨k, off, none⟩ else some ⟨k, off + l.toNat * P.cellsOf el, none⟩) (u.toNat - l.toNat) (cap - l.toNat)), _, w, σ, S, ?_, .inl rfl, h, .one (.p ?_), .one trivial⟩
            · simp only [Instr.sliceAt, Instr.slice, Sem.run_bind, run_underlying hu, Result.andThen_ok, Option.map_none, Sem.run_pure, hb, hz, Option.map_some, Addr.add_plain]
            · split
              · rename_i hcl
                have : u.toNat - l.toNat = 0 := by omega
                rw [this, List.take_zero]
                exact .nil _ _
              · exact hall.sub l.toNat u.toNat (by omega) hun h4 _ (by omega)
    · cases he
  · rename_i b k n el hy hu
    split at he
    · rename_i l u sz els hl hh hrd
      cases he
      obtain ⟨hv, hA⟩ := ev_sound h hy
      obtain ⟨h0, h1, h2, h3, h4, h5⟩ := hp
      generalize a.eval y = vy at hv ⊢
      have hz := run_sizeOf' (P := P) (info_of_cells rfl h4) w
      cases hA with
      | one hA =>
      cases hv with
      | one hv => cases hv with
        | hs _ _ _ cap hcap hn =>
          have hb := run_sliceBounds (P := P) h true n cap lo hi l u hl hh h0 h1 (by omega)
          refine ⟨.value (.slice (if cap = l.toNat then some ⟨(σ b).k, k * (σ b).sz, none⟩ else some ⟨(σ b).k, k * (σ b).sz + l.toNat * P.cellsOf el, none⟩) (u.toNat - l.toNat) (cap - l.toNat)), _, w, σ, S, ?_, .inl rfl, h, .one ?_, .one hA⟩
          · simp only [Instr.sliceAt, Instr.slice, Sem.run_bind, run_underlying hu, Result.andThen_ok, Option.map_none, Sem.run_pure, hb, hz, Option.map_some, Addr.add_plain]
          · split
            · rename_i hcl
              have e1 : u.toNat - l.toNat = 0 := by omega
              have e2 : cap - l.toNat = 0 := by omega
              rw [e1, e2]
              exact .hs0 _ _ _
            · rename_i hcl
              have hsz : P.cellsOf el = (σ b).sz := by
                obtain ⟨c, ty, fr, g1, g0, g2, g3, g6, g4, g5⟩ := h.blks b _ hrd
                exact h5.trans g6.symm
              rw [hsz, ← Nat.add_mul]
              exact .hs b _ _ _ (by omega) (by omega)
        | hs0 _ _ a' =>
          have e1 : u = 0 := by omega
          have e2 : l = 0 := by omega
          subst e1; subst e2
          have hb := run_sliceBounds (P := P) h true 0 0 lo hi 0 0 hl hh (by omega) (by omega) (by omega)
          refine ⟨.value (.slice a' 0 0), _, w, σ, S, ?_, .inl rfl, h, .one (.hs0 _ _ _), .one hA⟩
          simp only [Instr.sliceAt, Instr.slice, Sem.run_bind, run_underlying hu, Result.andThen_ok, Option.map_none, Sem.run_pure, hb, hz]
          rfl
    · cases he
  · cases he
end Go.Abs
