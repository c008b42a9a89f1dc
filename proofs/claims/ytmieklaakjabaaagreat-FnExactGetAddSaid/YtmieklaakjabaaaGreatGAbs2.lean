import Derived.Test.YtmieklaakjabaaaGreatGAbs1
set_option linter.unusedSimpArgs false
set_option linter.unusedVariables false
namespace Go.Abs
open Go Go.RowKit
@[reducible] def litC (v : Value) : AC := .p (.lit v)
@[reducible] def lit (v : Value) : AV := .one (.p (.lit v))
def ofConst : Value → AV
  | .agg cs => .agg (cs.toList.map litC)
  | v => lit v
def ev (st : St) : Operand → Option AV
  | .tmp t => lk st.tm t
  | .const v => some (ofConst v)
  | .global g => match lk gl g with
    | some vs => some (.one (.fp (vs.map .lit) 0))
    | none => some (lit (.pointer (some ⟨g, 0, none⟩)))
  | .func f => some (.clo f [])
variable {P : Program} {X : Ctx} {A A' : Nat → Prop} {σ : Nat → Loc} {S : Kx → Prop} {st : St} {a : Act} {w w' : World}
theorem ofConst_rep (v : Value) : RepV w S σ (ofConst v) v ∧ (ofConst v).InA A := by
  cases v with
  | agg cs =>
    refine ⟨.agg _ _ (by simp) ?_, .agg ?_⟩
    · intro i c v h1 h2
      rw [List.getElem?_map, Array.getElem?_toList, h2] at h1
      cases h1
      exact .p (.lit v)
    · intro c hc
      obtain ⟨v, _, rfl⟩ := List.mem_map.1 hc
      trivial
  | _ => exact ⟨.one (.p (.lit _)), .one trivial⟩
theorem ev_sound (h : RelOf X A σ S st a w) {x : Operand} {av : AV} (he : ev st x = some av) : RepV w S σ av (a.eval x) ∧ av.InA A := by
  cases x with
  | tmp t =>
    obtain ⟨v, h1, h2⟩ := h.tmps t av he
    refine ⟨?_, h.tmA t av he⟩
    show RepV w S σ av (a.tmps.getD t undef)
    rw [Array.getD_eq_getD_getElem?, h1]
    exact h2
  | const v => cases he; exact ofConst_rep v
  | global g =>
    simp only [ev] at he
    split at he
    · rename_i vs hg
      cases he
      obtain ⟨h1, ty, fr, h2⟩ := h.glob.1 g vs hg
      refine ⟨.one (.fp _ 0 g 0 h1 fun i x hi => ?_), .one trivial⟩
      rw [List.getElem?_map] at hi
      cases hq : vs[i]? with
      | none => simp [hq] at hi
      | some v =>
        simp only [hq, Option.map_some, Option.some.injEq] at hi
        subst hi
        exact ⟨v, by rw [Nat.zero_add]; simp [World.cell?, h2, hq], .lit v⟩
    · cases he; exact ⟨.one (.p (.lit _)), .one trivial⟩
  | func f => cases he; exact ⟨.clo f [] #[] rfl (by intro i c v h1; cases h1), .clo (by intro c hc; cases hc)⟩
def cellsOf : Blk → Nat → List AC
  | .arr _ els, i => (els.getD i []).map .p
  | .box cs, 0 => cs
  | .box _, _ + 1 => []
theorem World.cell_of {w : World} {k o : Nat} {c : Array Value} {ty : TypeId} {fr : Nat × Nat} (h : w.heap[k]? = some (.cells c ty fr)) : w.cell? ⟨k, o, none⟩ = c[o]? := by
  simp [World.cell?, h]
theorem World.frozen_of {w : World} {k o : Nat} {c : Array Value} {ty : TypeId} {fr : Nat × Nat} (h : w.heap[k]? = some (.cells c ty fr)) : w.frozen? ⟨k, o, none⟩ = (fr.1 ≤ o && o < fr.2) := by
  simp [World.frozen?, h]
theorem BlkRep.cell {b : Nat} {blk : Blk} (h : BlkRep w S σ b blk) (i j : Nat) (x : AC) (hx : (cellsOf blk i)[j]? = some x) :
    ∃ v, w.cell? ⟨(σ b).k, i * (σ b).sz + j, none⟩ = some v ∧ RepC w S σ x v ∧ v.oneCell' = true ∧ w.frozen? ⟨(σ b).k, i * (σ b).sz + j, none⟩ = false := by
  obtain ⟨c, ty, fr, h1, h0, h2, h3, h4⟩ := h
  rw [World.cell_of h1, World.frozen_of h1]
  have g : ∀ o v, c[o]? = some v → (fr.1 ≤ o && o < fr.2) = false := fun o v hv => h0 o (.inl (Array.getElem?_eq_some_iff.1 hv).1)
  cases blk with
  | arr sz els =>
    simp only [cellsOf, List.getElem?_map] at hx
    cases he : els[i]? with
    | none => simp [List.getD_eq_getElem?_getD, he] at hx
    | some el =>
      simp only [List.getD_eq_getElem?_getD, he, Option.getD_some] at hx
      cases hj : el[j]? with
      | none => simp [hj] at hx
      | some y =>
        simp only [hj, Option.map_some, Option.some.injEq] at hx
        subst hx
        obtain ⟨v, q1, q2⟩ := (h4.2.2 i el he).2 j y hj
        exact ⟨v, q1, .p q2, h3 v (Array.mem_of_getElem? q1), g _ _ q1⟩
  | box cs =>
    cases i with
    | succ i => simp [cellsOf] at hx
    | zero =>
      obtain ⟨v, q1, q2⟩ := h4.2.2 j x hx
      rw [Nat.zero_mul, Nat.zero_add]
      exact ⟨v, q1, q2, h3 v (Array.mem_of_getElem? q1), g _ _ q1⟩
/-- What lies at a pointer: all the cells of the element, and which of them. -/
def ptrAt (st : St) : AC → Option (List AC × Nat)
  | .hp b i j => (st.rd b).map fun blk => (cellsOf blk i, j)
  | .fp el j => some (el.map .p, j)
  | _ => none
theorem ptrAt_sound (h : RelOf X A σ S st a w) {c : AC} {v : Value} (hc : RepC w S σ c v) (hA : c.inA A) {cs : List AC} {j : Nat} (hp : ptrAt st c = some (cs, j)) :
    ∃ k o, v = .pointer (some ⟨k, o + j, none⟩) ∧ (∀ m x, cs[m]? = some x → ∃ u, w.cell? ⟨k, o + m, none⟩ = some u ∧ RepC w S σ x u) ∧ ∀ x ∈ cs, x.inA A := by
  cases hc with
  | p _ => simp [ptrAt] at hp
  | hs => simp [ptrAt] at hp
  | hs0 => simp [ptrAt] at hp
  | hp b i j' =>
    cases hr : st.rd b with
    | none => simp [ptrAt, hr] at hp
    | some blk =>
      simp only [ptrAt, hr, Option.map_some, Option.some.injEq, Prod.mk.injEq] at hp
      obtain ⟨rfl, rfl⟩ := hp
      refine ⟨_, _, rfl, fun m x hx => ?_, ?_⟩
      · obtain ⟨u, h1, h2, _⟩ := (h.blks b blk hr).cell i m x hx
        exact ⟨u, h1, h2⟩
      · intro x hx
        have hin := (h.blA b blk hr).1
        cases blk with
        | arr sz els => obtain ⟨y, _, rfl⟩ := List.mem_map.1 hx; trivial
        | box ds => cases i with
          | zero => exact hin x hx
          | succ i => cases hx
  | fp el j' k o hk hh =>
    simp only [ptrAt, Option.some.injEq, Prod.mk.injEq] at hp
    obtain ⟨rfl, rfl⟩ := hp
    refine ⟨k, o, rfl, fun m x hx => ?_, ?_⟩
    · rw [List.getElem?_map] at hx
      cases hm : el[m]? with
      | none => simp [hm] at hx
      | some y => simp only [hm, Option.map_some, Option.some.injEq] at hx; subst hx; obtain ⟨u, h1, h2⟩ := hh m y hm; exact ⟨u, h1, .p h2⟩
    · intro x hx; obtain ⟨y, _, rfl⟩ := List.mem_map.1 hx; trivial
def isRowT (P : Program) (t : TypeId) : Bool := match P.underlying t with | some (.struct _) | some (.array _ _) => true | _ => false
/-- A part of some cells: a struct or a single cell. -/
def partOf (row : Bool) (n : Nat) (cs : List AC) (j : Nat) : AV := if row then .agg ((cs.drop j).take n) else .one (cs.getD j (litC undef))
theorem info_of_cells {t : TypeId} {n : Nat} (h : P.cellsOf t = n) (hn : n ≠ 0) : (P.info? t).map (·.size) = some n := by
  unfold Program.cellsOf at h
  cases hi : (P.info? t).map (·.size) with
  | none => simp [hi] at h; omega
  | some m => simp [hi] at h; simp [h]
theorem run_sizeOf' {t : TypeId} {n : Nat} (h : (P.info? t).map (·.size) = some n) (w : World) : (sizeOf t).run P w = .ok n w := by
  cases hi : P.info? t with
  | none => simp [hi] at h
  | some i => simp [hi] at h; simp [sizeOf, typeInfo, hi, h]
theorem run_isAgg' {t : TypeId} {d : TypeDesc} (h : P.underlying t = some d) (w : World) : (isAgg t).run P w = .ok (isRowT P t) w := by
  unfold isAgg isRowT
  rw [Sem.run_bind, run_underlying h w, h]
  cases d <;> rfl
theorem run_load {t : TypeId} {d : TypeDesc} (hu : P.underlying t = some d) (hn : P.cellsOf t ≠ 0) {k o j : Nat} {cs : List AC}
    (hc : ∀ m x, cs[m]? = some x → ∃ u, w.cell? ⟨k, o + m, none⟩ = some u ∧ RepC w S σ x u) (hl : j + (if isRowT P t then P.cellsOf t else 1) ≤ cs.length) :
    ∃ v, (Instr.loadAt t (.pointer (some ⟨k, o + j, none⟩))).run P w = .ok v w ∧ RepV w S σ (partOf (isRowT P t) (P.cellsOf t) cs j) v := by
  cases hr : isRowT P t with
  | true =>
    rw [if_pos hr] at hl
    have hd : d.isRow = true := by unfold isRowT at hr; rw [hu] at hr; cases d <;> simp_all
    let vs : List Value := (List.range (P.cellsOf t)).map fun m => (w.cell? ⟨k, o + j + m, none⟩).getD undef
    have hvl : vs.length = P.cellsOf t := by simp [vs]
    have hv : ∀ m v, vs[m]? = some v → m < P.cellsOf t ∧ w.cell? ⟨k, o + j + m, none⟩ = some v ∧ ∀ x, cs[j + m]? = some x → RepC w S σ x v := by
      intro m v hm
      have hlt : m < P.cellsOf t := hvl ▸ (List.getElem?_eq_some_iff.1 hm).1
      obtain ⟨x, hx⟩ : ∃ x, cs[j + m]? = some x := ⟨_, List.getElem?_eq_getElem (by omega)⟩
      obtain ⟨u, q1, q2⟩ := hc (j + m) x hx
      rw [← Nat.add_assoc] at q1
      have : v = u := by simp [vs, List.getElem?_range hlt, q1] at hm; exact hm.symm
      subst this
      exact ⟨hlt, q1, fun y hy => by rw [hx] at hy; cases hy; exact q2⟩
    refine ⟨_, run_loadAt_mid w k (o + j) t vs d (fun m v hm => (hv m v hm).2.1) hu hd (by rw [hvl]; exact info_of_cells rfl hn), ?_⟩
    simp only [partOf, if_true]
    refine .agg _ _ (by simp [hvl]; omega) ?_
    intro i c v h1 h2
    rw [List.getElem?_take] at h1
    split at h1
    · rw [List.getElem?_drop] at h1
      exact (hv i v (by simpa using h2)).2.2 c h1
    · cases h1
  | false =>
    rw [if_neg (by simp [hr])] at hl
    obtain ⟨x, hx⟩ : ∃ x, cs[j]? = some x := ⟨_, List.getElem?_eq_getElem (by omega)⟩
    obtain ⟨u, q1, q2⟩ := hc j x hx
    refine ⟨u, ?_, ?_⟩
    · simp only [Instr.loadAt, Instr.sureAddr, Sem.run_bind, Sem.run_pure, Result.andThen_ok, loadVar, run_isAgg' hu, hr]
      simp [load, Sem.run, q1]
    · simp only [partOf]
      rw [if_neg (by simp), List.getD_eq_getElem?_getD, hx]
      exact .one q2
def spl (c : Array Value) (o : Nat) : List Value → Array Value
  | [] => c
  | v :: vs => spl (c.setIfInBounds o v) (o + 1) vs
theorem spl_size (vs : List Value) : ∀ (c : Array Value) (o : Nat), (spl c o vs).size = c.size := by
  induction vs with
  | nil => intro c o; rfl
  | cons v vs ih => intro c o; rw [spl, ih]; simp
theorem spl_get (vs : List Value) : ∀ (c : Array Value) (o m : Nat), o + vs.length ≤ c.size → (spl c o vs)[m]? = if o ≤ m ∧ m < o + vs.length then vs[m - o]? else c[m]? := by
  induction vs with
  | nil => intro c o m _; rw [if_neg (by simp only [List.length_nil]; omega)]; rfl
  | cons v vs ih =>
    intro c o m hl
    simp only [List.length_cons] at hl
    rw [spl, ih _ _ _ (by simp; omega)]
    by_cases h1 : o + 1 ≤ m ∧ m < o + 1 + vs.length
    · rw [if_pos h1, if_pos (by simp; omega)]
      obtain ⟨d, rfl⟩ : ∃ d, m = o + 1 + d := ⟨m - (o + 1), by omega⟩
      rw [show o + 1 + d - (o + 1) = d by omega, show o + 1 + d - o = d + 1 by omega]
      rfl
    · rw [if_neg h1]
      by_cases h2 : m = o
      · subst h2
        rw [if_pos (by simp), Nat.sub_self, Array.getElem?_setIfInBounds, if_pos rfl, if_pos (by omega)]
        rfl
      · rw [if_neg (by simp; omega), Array.getElem?_setIfInBounds_ne (fun e => h2 e.symm)]
theorem setCells_heap (k : Nat) (ty : TypeId) (fr : Nat × Nat) : ∀ (vs : List Value) (o : Nat) (c : Array Value) (w : World), w.heap[k]? = some (.cells c ty fr) → (w.setCells k o vs).heap[k]? = some (.cells (spl c o vs) ty fr)
  | [], _, _, _, h => h
  | v :: vs, o, c, w, h => by
    have h' : (w.setCell ⟨k, o, none⟩ v).heap[k]? = some (.cells (c.setIfInBounds o v) ty fr) := by
      simp [World.setCell, Array.getElem?_modify, h]
    exact setCells_heap k ty fr vs (o + 1) _ _ h'
theorem setCells_other (k : Nat) : ∀ (vs : List Value) (o : Nat) (w : World) (i : Nat), i ≠ k → (w.setCells k o vs).heap[i]? = w.heap[i]?
  | [], _, _, _, _ => rfl
  | v :: vs, o, w, i, h => (setCells_other k vs (o + 1) _ i h).trans (Below.heap_setCell w _ v i h)
theorem setCells_size (k : Nat) : ∀ (vs : List Value) (o : Nat) (w : World), (w.setCells k o vs).heap.size = w.heap.size
  | [], _, _ => rfl
  | v :: vs, o, w => (setCells_size k vs (o + 1) _).trans (by simp [World.setCell])
theorem setCells_os (k : Nat) : ∀ (vs : List Value) (o : Nat) (w : World), (w.setCells k o vs).os = w.os ∧ (w.setCells k o vs).tape = w.tape ∧ (w.setCells k o vs).output = w.output
  | [], _, _ => ⟨rfl, rfl, rfl⟩
  | v :: vs, o, w => let ⟨h1, h2, h3⟩ := setCells_os k vs (o + 1) (w.setCell ⟨k, o, none⟩ v); ⟨h1, h2, h3⟩
/-- Some cells of a list are others now. -/
def splice {α : Type} (cs : List α) (j : Nat) (vs : List α) : List α := cs.take j ++ vs ++ cs.drop (j + vs.length)
theorem splice_get {α : Type} (cs : List α) (j : Nat) (vs : List α) (h : j + vs.length ≤ cs.length) (m : Nat) :
    (splice cs j vs)[m]? = if j ≤ m ∧ m < j + vs.length then vs[m - j]? else cs[m]? := by
  unfold splice
  have ht : (cs.take j).length = j := by simp; omega
  by_cases h1 : m < j
  · rw [if_neg (by omega), List.append_assoc, List.getElem?_append_left (by omega), List.getElem?_take, if_pos h1]
  · rw [List.append_assoc, List.getElem?_append_right (by omega), ht]
    by_cases h2 : m < j + vs.length
    · rw [if_pos ⟨by omega, h2⟩, List.getElem?_append_left (by omega)]
    · rw [if_neg (by omega), List.getElem?_append_right (by omega), List.getElem?_drop]
      congr 1
      omega
theorem splice_length {α : Type} (cs : List α) (j : Nat) (vs : List α) (h : j + vs.length ≤ cs.length) : (splice cs j vs).length = cs.length := by
  unfold splice
  simp
  omega
/-- The block with other cells at element i. -/
def Blk.setAt : Blk → Nat → Nat → List PV → Blk
  | .arr sz els, i, j, vs => .arr sz (els.set i (splice (els.getD i []) j vs))
  | .box cs, _, j, vs => .box (splice cs j (vs.map .p))
def Blk.setC : List AC → Nat → List AC → Blk
  | cs, j, vs => .box (splice cs j vs)
theorem BlkRep.store_arr {b sz : Nat} {els : List (List PV)} (h : BlkRep w S σ b (.arr sz els)) (hnS : ∀ x, S x → x.b ≠ (σ b).k) (i j : Nat) (xs : List PV) (vs : List Value) (hi : i < els.length) (hj : j + xs.length ≤ (els.getD i []).length)
    (hl : xs.length = vs.length) (hr : ∀ (m : Nat) x (v : Value), xs[m]? = some x → vs[m]? = some v → RepP w S x v) (h1 : ∀ v ∈ vs, v.oneCell' = true) :
    BlkRep (w.setCells (σ b).k (i * (σ b).sz + j) vs) S σ b (.arr sz (els.set i (splice (els.getD i []) j xs))) := by
  obtain ⟨c, ty, fr, g1, g0, g2, g3, g6, g4, g5⟩ := h
  have hel : els[i]? = some (els.getD i []) := by rw [List.getD_eq_getElem?_getD, List.getElem?_eq_getElem hi]; rfl
  have hsz := (g5 i _ hel).1
  have hlt : i * (σ b).sz + (σ b).sz ≤ (σ b).cap * (σ b).sz := by
    have : (i + 1) * (σ b).sz ≤ (σ b).cap * (σ b).sz := Nat.mul_le_mul_right _ (by omega)
    rwa [Nat.add_mul, Nat.one_mul] at this
  have hfit : i * (σ b).sz + j + vs.length ≤ c.size := by omega
  have hS : ∀ k, S k → (w.setCells (σ b).k (i * (σ b).sz + j) vs).heap[k.b]? = w.heap[k.b]? := fun k hk => setCells_other _ _ _ _ _ (fun e => hnS k hk e)
  refine ⟨_, ty, fr, setCells_heap _ ty fr vs _ c w g1, ?_, ?_, ?_, g6, ?_, ?_⟩
  · intro o ho; rw [spl_size] at ho; exact g0 o ho
  · rw [spl_size]; exact g2
  · intro v hv
    obtain ⟨m, hm⟩ := Array.mem_iff_getElem?.1 hv
    rw [spl_get _ _ _ _ hfit] at hm
    split at hm
    · exact h1 v (List.mem_of_getElem? hm)
    · exact g3 v (Array.mem_of_getElem? hm)
  · rw [List.length_set]; exact g4
  · intro i' el' he'
    rw [List.getElem?_set] at he'
    by_cases e : i = i'
    · subst e
      rw [if_pos rfl, if_pos hi] at he'
      cases he'
      refine ⟨by rw [splice_length _ _ _ hj]; exact hsz, fun j' x hx => ?_⟩
      rw [splice_get _ _ _ hj] at hx
      rw [spl_get _ _ _ _ hfit]
      by_cases hin : j ≤ j' ∧ j' < j + xs.length
      · rw [if_pos hin] at hx
        rw [if_pos (by omega)]
        obtain ⟨v, hv⟩ : ∃ v, vs[j' - j]? = some v := ⟨_, List.getElem?_eq_getElem (by omega)⟩
        refine ⟨v, by rw [show i * (σ b).sz + j' - (i * (σ b).sz + j) = j' - j by omega]; exact hv, (hr _ x v hx hv).mono hS (fun _ q => q)⟩
      · rw [if_neg hin] at hx
        rw [if_neg (by omega)]
        obtain ⟨v, q1, q2⟩ := (g5 i _ hel).2 j' x hx
        exact ⟨v, q1, q2.mono hS (fun _ q => q)⟩
    · rw [if_neg e] at he'
      refine ⟨(g5 i' el' he').1, fun j' x hx => ?_⟩
      obtain ⟨v, q1, q2⟩ := (g5 i' el' he').2 j' x hx
      have hj' : j' < (σ b).sz := (g5 i' el' he').1 ▸ (List.getElem?_eq_some_iff.1 hx).1
      refine ⟨v, ?_, q2.mono hS (fun _ q => q)⟩
      rw [spl_get _ _ _ _ hfit, if_neg ?_]
      · exact q1
      · rintro ⟨ha, hb⟩
        rcases Nat.lt_or_gt_of_ne e with hlt' | hlt'
        · have : (i + 1) * (σ b).sz ≤ i' * (σ b).sz := Nat.mul_le_mul_right _ hlt'
          rw [Nat.add_mul, Nat.one_mul] at this
          omega
        · have : (i' + 1) * (σ b).sz ≤ i * (σ b).sz := Nat.mul_le_mul_right _ hlt'
          rw [Nat.add_mul, Nat.one_mul] at this
          omega
theorem BlkRep.store_box {b : Nat} {cs : List AC} (h : BlkRep w S σ b (.box cs)) (hin : (Blk.box cs).inA A) (hnS : ∀ x, S x → x.b ≠ (σ b).k) (j : Nat) (xs : List AC) (vs : List Value) (hj : j + xs.length ≤ cs.length)
    (hl : xs.length = vs.length) (hxA : ∀ x ∈ xs, x.inA A) (hr : ∀ (m : Nat) x (v : Value), xs[m]? = some x → vs[m]? = some v → RepC w S σ x v) (h1 : ∀ v ∈ vs, v.oneCell' = true) :
    BlkRep (w.setCells (σ b).k j vs) S σ b (.box (splice cs j xs)) := by
  obtain ⟨c, ty, fr, g1, g0, g2, g3, g4, g5, g6⟩ := h
  have hfit : j + vs.length ≤ c.size := by rw [g2, g4]; omega
  have hS : ∀ k, S k → (w.setCells (σ b).k j vs).heap[k.b]? = w.heap[k.b]? := fun k hk => setCells_other _ _ _ _ _ (fun e => hnS k hk e)
  refine ⟨_, ty, fr, setCells_heap _ ty fr vs _ c w g1, ?_, ?_, ?_, g4, ?_, ?_⟩
  · intro o ho; rw [spl_size] at ho; exact g0 o ho
  · rw [spl_size]; exact g2
  · intro v hv
    obtain ⟨m, hm⟩ := Array.mem_iff_getElem?.1 hv
    rw [spl_get _ _ _ _ hfit] at hm
    split at hm
    · exact h1 v (List.mem_of_getElem? hm)
    · exact g3 v (Array.mem_of_getElem? hm)
  · rw [splice_length _ _ _ hj]; exact g5
  · intro j' x hx
    rw [splice_get _ _ _ hj] at hx
    rw [spl_get _ _ _ _ hfit]
    by_cases hin' : j ≤ j' ∧ j' < j + xs.length
    · rw [if_pos hin'] at hx
      rw [if_pos (by omega)]
      obtain ⟨v, hv⟩ : ∃ v, vs[j' - j]? = some v := ⟨_, List.getElem?_eq_getElem (by omega)⟩
      exact ⟨v, hv, (hr _ x v hx hv).mono (hxA x (List.mem_of_getElem? hx)) hS (fun _ q => q) (fun _ _ => rfl)⟩
    · rw [if_neg hin'] at hx
      rw [if_neg (by omega)]
      obtain ⟨v, q1, q2⟩ := g6 j' x hx
      exact ⟨v, q1, q2.mono (hin x (List.mem_of_getElem? hx)) hS (fun _ q => q) (fun _ _ => rfl)⟩
/-! ### arrays of one-cell elements: their variables are rows -/
def isArr (P : Program) (t : TypeId) : Bool := match P.underlying t with
  | some (.array _ e) => P.cellsOf e == 1
  | _ => false
theorem isArr_row {t : TypeId} (h : isArr P t = true) : isRowT P t = true := by
  unfold isArr at h; unfold isRowT
  split at h
  · rename_i e; rw [e]
  · cases h
def rowCs (els : List (List PV)) : List AC := els.map fun el => .p (el.getD 0 (.lit undef))
theorem BlkRep.rows {b : Nat} {els : List (List PV)} (h : BlkRep w S σ b (.arr 1 els)) (m : Nat) (x : AC) (hx : (rowCs els)[m]? = some x) :
    ∃ u, w.cell? ⟨(σ b).k, m, none⟩ = some u ∧ RepC w S σ x u ∧ w.frozen? ⟨(σ b).k, m, none⟩ = false := by
  have hsz : (σ b).sz = 1 := by obtain ⟨c, ty, fr, g1, g0, g2, g3, g6, g4, g5⟩ := h; exact g6
  have hel : ∀ el, els[m]? = some el → el.length = 1 := by obtain ⟨c, ty, fr, g1, g0, g2, g3, g6, g4, g5⟩ := h; intro el he; rw [(g5 m el he).1]; exact g6
  unfold rowCs at hx
  rw [List.getElem?_map] at hx
  cases he : els[m]? with
  | none => rw [he] at hx; cases hx
  | some el =>
    rw [he] at hx
    simp only [Option.map_some, Option.some.injEq] at hx
    subst hx
    have h1 := hel el he
    obtain ⟨v, q1, q2, _, q3⟩ := h.cell m 0 (.p (el.getD 0 (.lit undef))) (by
      simp only [cellsOf, List.getD_eq_getElem?_getD, he, Option.getD_some, List.getElem?_map]
      rw [List.getElem?_eq_getElem (by omega)]; rfl)
    rw [hsz] at q1 q3
    simp only [Nat.mul_one, Nat.add_zero] at q1 q3
    exact ⟨v, q1, q2, q3⟩
theorem BlkRep.store_all {b : Nat} {els : List (List PV)} (h : BlkRep w S σ b (.arr 1 els)) (hnS : ∀ x, S x → x.b ≠ (σ b).k) (xs : List PV) (vs : List Value) (hn : xs.length = els.length)
    (hl : xs.length = vs.length) (hr : ∀ (m : Nat) x (v : Value), xs[m]? = some x → vs[m]? = some v → RepP w S x v) (h1 : ∀ v ∈ vs, v.oneCell' = true) :
    BlkRep (w.setCells (σ b).k 0 vs) S σ b (.arr 1 (xs.map fun x => [x])) := by
  obtain ⟨c, ty, fr, g1, g0, g2, g3, g6, g4, g5⟩ := h
  have hfit : 0 + vs.length ≤ c.size := by rw [g2, g6]; omega
  have hS : ∀ k, S k → (w.setCells (σ b).k 0 vs).heap[k.b]? = w.heap[k.b]? := fun k hk => setCells_other _ _ _ _ _ (fun e => hnS k hk e)
  refine ⟨_, ty, fr, setCells_heap _ ty fr vs _ c w g1, ?_, ?_, ?_, g6, ?_, ?_⟩
  · intro o ho; rw [spl_size] at ho; exact g0 o ho
  · rw [spl_size]; exact g2
  · intro v hv
    obtain ⟨m, hm⟩ := Array.mem_iff_getElem?.1 hv
    rw [spl_get _ _ _ _ hfit] at hm
    split at hm
    · exact h1 v (List.mem_of_getElem? hm)
    · exact g3 v (Array.mem_of_getElem? hm)
  · rw [List.length_map]; omega
  · intro i el hi
    rw [List.getElem?_map] at hi
    cases hx : xs[i]? with
    | none => rw [hx] at hi; cases hi
    | some x =>
      rw [hx] at hi
      simp only [Option.map_some, Option.some.injEq] at hi
      subst hi
      have hlt := (List.getElem?_eq_some_iff.1 hx).1
      refine ⟨by rw [g6]; rfl, fun j y hj => ?_⟩
      cases j with
      | succ j => simp at hj
      | zero =>
        simp only [List.getElem?_cons_zero, Option.some.injEq] at hj
        subst hj
        obtain ⟨v, hv⟩ : ∃ v, vs[i]? = some v := ⟨_, List.getElem?_eq_getElem (by omega)⟩
        refine ⟨v, ?_, (hr i x v hx hv).mono hS (fun _ q => q)⟩
        rw [g6, Nat.mul_one, Nat.add_zero, spl_get _ _ _ _ hfit, if_pos (by omega), Nat.sub_zero]; exact hv
end Go.Abs
