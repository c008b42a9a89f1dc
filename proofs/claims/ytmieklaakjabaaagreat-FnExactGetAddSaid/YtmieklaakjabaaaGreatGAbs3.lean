import Derived.Test.YtmieklaakjabaaaGreatGAbs2
set_option linter.unusedSimpArgs false
set_option linter.unusedVariables false
namespace Go.Abs
open Go Go.RowKit
variable {P : Program} {X : Ctx} {A A' : Nat → Prop} {σ : Nat → Loc} {S : Kx → Prop} {st : St} {a : Act} {w w' : World}
structure E where
  pre : Prop
  v : AV
  wr : List (Nat × Option Blk)
/-- The operation runs; what it hands back and the world behind it are what e says. -/
def Does (P : Program) (X : Ctx) (A' : Nat → Prop) (st : St) (e : E) (a : Act) (w : World) (s : Sem Next) : Prop :=
  ∃ n v w' σ' S', s.run P w = .ok n w' ∧ (n = .value v ∨ (n = .skip ∧ v = undef)) ∧ RelOf X A' σ' S' { st with bl := e.wr ++ st.bl } a w' ∧ RepV w' S' σ' e.v v ∧ e.v.InA A'
theorem Does.wp {o : Oper} {e : E} (h : Does P X A' st e a w (execOp a.eval o)) (hd : ∀ d, o.dst = some d → d < st.nt) {next : Act → World → Prop} {Q : Exit → Act → World → Prop}
    (hn : ∀ a' w', RelA X A' { st with tm := (o.dst.toList.map fun d => (d, e.v)) ++ st.tm, bl := e.wr ++ st.bl } a' w' → next a' w') : o.wp P a w next Q := by
  obtain ⟨n, v, w', σ', S', hr, hnv, hrel, hv, hA⟩ := h
  have := hrel.put o.dst e.v v hv hA hd
  unfold Oper.wp
  rw [hr]
  rcases hnv with rfl | ⟨rfl, rfl⟩
  · exact hn _ _ ⟨σ', S', this⟩
  · exact hn _ _ ⟨σ', S', this⟩
/-- An operation that leaves the world alone. -/
theorem Does.value {s : Sem Value} {v : Value} {av : AV} (h : RelOf X A σ S st a w) (hr : s.run P w = .ok v w) (hv : RepV w S σ av v) (hA : av.InA A) :
    Does P X A st ⟨True, av, []⟩ a w (do pure (.value (← s))) :=
  ⟨.value v, v, w, σ, S, by simp [Sem.run_bind, hr], .inl rfl, h, hv, hA⟩
theorem Does.weak {e : E} {s : Sem Next} (h : Does P X A st e a w s) (hA : ∀ b, A b → A' b) : Does P X A' st e a w s :=
  let ⟨n, v, w', σ', S', h1, h2, h3, h4, h5⟩ := h
  ⟨n, v, w', σ', S', h1, h2, h3.weakA hA, h4, h5.mono hA⟩
def pureRun {α : Type} (P : Program) : Sem α → Option α
  | .pure a => some a
  | .program k => pureRun P (k P)
  | _ => none
theorem pureRun_run {α : Type} (s : Sem α) (v : α) (h : pureRun P s = some v) (w : World) : s.run P w = .ok v w := by
  induction s with
  | pure a => cases h; rfl
  | program k ih => exact ih P h
  | _ => cases h
/-! ### Cells that are made plain -/
def pur1 (st : St) : AC → Option (PV × List (Nat × Option Blk) × Prop)
  | .p x => some (x, [], True)
  | .hs b lo n => match st.nl.own with
   | some t => match lk st.tm t, st.rd b with
    | some (.one (.p (.lit (.int _ g)))), some (.arr _ els) => if st.nl.n ≤ b then some (.own g.toNat (els.take n), [(b, none)], lo = 0 ∧ n ≤ els.length ∧ ∀ el ∈ els.take n, ∀ x ∈ el, x.isLit = true) else none
    | _, _ => none
   | none => match st.rd b with
    | some (.arr _ els) => if st.nl.n ≤ b then some (.sl ((els.drop lo).take n), [(b, none)], lo + n ≤ els.length) else none
    | _ => none
  | _ => none
def purify : St → List AC → Option (List PV × List (Nat × Option Blk) × Prop)
  | _, [] => some ([], [], True)
  | st, c :: cs => match pur1 st c with
    | none => none
    | some (x, k, p) => match purify { st with bl := k ++ st.bl } cs with
      | none => none
      | some (xs, ks, q) => some (x :: xs, ks ++ k, p ∧ q)
theorem BlkRep.slice {b sz : Nat} {els : List (List PV)} {S' : Kx → Prop} (h : BlkRep w S σ b (.arr sz els)) (hF : Free S) (hS : ∀ k, S k → S' k) (hk : S' (.m (σ b).k)) (lo n cap : Nat) (hl : lo + n ≤ els.length) (hn : n ≤ cap) :
    RepP w S' (.sl ((els.drop lo).take n)) (.slice (some ⟨(σ b).k, lo * (σ b).sz, none⟩) n cap) := by
  obtain ⟨c, ty, fr, g1, g0, g2, g3, _, g4, g5⟩ := h
  have hg : ∀ i el, ((els.drop lo).take n)[i]? = some el → els[lo + i]? = some el := by
    intro i el hi
    rw [List.getElem?_take] at hi
    split at hi
    · rwa [List.getElem?_drop] at hi
    · cases hi
  refine .sl _ _ _ (σ b).sz n cap (fun i j => (c[(lo + i) * (σ b).sz + j]?).getD undef) (by simp; omega) hn hk ?_ ?_ ?_ (fun i el j x hi hj => by obtain ⟨v, _, q2⟩ := (g5 _ el (hg i el hi)).2 j x hj; exact q2.notOwn hF)
  · intro i el hi; exact (g5 _ el (hg i el hi)).1
  · intro i el j x hi hj
    obtain ⟨v, q1, q2⟩ := (g5 _ el (hg i el hi)).2 j x hj
    rw [World.cell_of g1, show lo * (σ b).sz + (i * (σ b).sz + j) = (lo + i) * (σ b).sz + j by rw [Nat.add_mul]; omega, q1]
    exact ⟨rfl, g3 v (Array.mem_of_getElem? q1)⟩
  · intro i el j x hi hj
    obtain ⟨v, q1, q2⟩ := (g5 _ el (hg i el hi)).2 j x hj
    rw [q1]
    exact q2.mono (fun _ _ => rfl) hS
theorem pur1_sound (h : RelOf X A σ S st a w) {c : AC} {v : Value} (hc : RepC w S σ c v) {x : PV} {ks : List (Nat × Option Blk)} {p : Prop} (hp : pur1 st c = some (x, ks, p)) (hpre : p) :
    ∃ S', (∀ k, S k → S' k) ∧ RelOf X A σ S' { st with bl := ks ++ st.bl } a w ∧ RepP w S' x v := by
  cases hc with
  | p hx => simp only [pur1, Option.some.injEq, Prod.mk.injEq] at hp; obtain ⟨rfl, rfl, _⟩ := hp; exact ⟨S, fun _ q => q, h, hx⟩
  | hs b lo n cap hcap hn =>
    simp only [pur1] at hp
    split at hp
    · rename_i t hno
      split at hp
      · rename_i kk g sz els ht hr
        split at hp
        · rename_i hnl
          simp only [Option.some.injEq, Prod.mk.injEq] at hp
          obtain ⟨rfl, rfl, rfl⟩ := hp
          obtain ⟨rfl, h2, h3⟩ := hpre
          refine ⟨_, fun k q => .inl q, h.freezeT (by rw [← h.nl, hno]; exact fun e => by cases e) g.toNat b _ hr hnl, ?_⟩
          obtain ⟨c, ty, fr, g1, g0, g2, g3, g6, g4, g5⟩ := h.blks b _ hr
          rw [Nat.zero_mul]
          have hg : ∀ i el, (els.take n)[i]? = some el → els[i]? = some el := fun i el hi => by
            rw [List.getElem?_take] at hi
            split at hi
            · exact hi
            · cases hi
          refine .own _ _ _ (σ b).sz n cap (σ b).cap c ty fr (by rw [List.length_take]; omega) hn (by omega) (.inr rfl) g1 g0 g2 g3 (fun i el hi => (g5 i el (hg i el hi)).1) fun i el j x hi hj => ?_
          obtain ⟨v, q1, q2⟩ := (g5 i el (hg i el hi)).2 j x hj
          have hl := h3 el (List.mem_of_getElem? hi) x (List.mem_of_getElem? hj)
          cases q2 with
          | lit v => exact ⟨v, rfl, q1⟩
          | _ => cases hl
        · cases hp
      · cases hp
    rename_i hno
    have hF := h.free (by rw [← h.nl]; exact hno)
    split at hp
    · rename_i sz els hr
      split at hp
      · rename_i hnl
        simp only [Option.some.injEq, Prod.mk.injEq] at hp
        obtain ⟨rfl, rfl, rfl⟩ := hp
        exact ⟨_, fun k q => .inl q, h.freeze b _ hr hnl, (h.blks b _ hr).slice hF (fun _ q => .inl q) (.inr rfl) lo n cap hpre hn⟩
      · cases hp
    · cases hp
  | hs0 b lo a' =>
    simp only [pur1] at hp
    split at hp
    · rename_i t hno
      split at hp
      · rename_i kk g sz els ht hr
        split at hp
        · rename_i hnl
          simp only [Option.some.injEq, Prod.mk.injEq] at hp
          obtain ⟨rfl, rfl, rfl⟩ := hp
          refine ⟨_, fun k q => .inl q, h.freezeT (by rw [← h.nl, hno]; exact fun e => by cases e) g.toNat b _ hr hnl, ?_⟩
          rw [List.take_zero]
          exact .own0 _ (σ b).k (.inr rfl) a' 0
        · cases hp
      · cases hp
    split at hp
    · rename_i sz els hr
      split at hp
      · rename_i hnl
        simp only [Option.some.injEq, Prod.mk.injEq] at hp
        obtain ⟨rfl, rfl, rfl⟩ := hp
        exact ⟨_, fun k q => .inl q, h.freeze b _ hr hnl, by rw [List.take_zero]; exact .nil a' 0⟩
      · cases hp
    · cases hp
  | hp b i j => simp [pur1] at hp
  | fp el j k o _ _ => simp [pur1] at hp
theorem purify_sound : ∀ (cs : List AC) {st : St} {S : Kx → Prop} (_ : RelOf X A σ S st a w) {vs : List Value} (_ : cs.length = vs.length) (_ : ∀ (i : Nat) c v, cs[i]? = some c → vs[i]? = some v → RepC w S σ c v) (_ : ∀ c ∈ cs, c.inA A)
    {xs : List PV} {ks : List (Nat × Option Blk)} {p : Prop} (_ : purify st cs = some (xs, ks, p)) (_ : p),
    ∃ S', (∀ k, S k → S' k) ∧ RelOf X A σ S' { st with bl := ks ++ st.bl } a w ∧ xs.length = vs.length ∧ ∀ (i : Nat) x v, xs[i]? = some x → vs[i]? = some v → RepP w S' x v
  | [], st, S, h, vs, hl, _, _, xs, ks, p, hp, _ => by
    simp only [purify, Option.some.injEq, Prod.mk.injEq] at hp
    obtain ⟨rfl, rfl, _⟩ := hp
    exact ⟨S, fun _ q => q, h, hl, fun i x v hi => by simp at hi⟩
  | c :: cs, st, S, h, vs, hl, hr, hA, xs, ks, p, hp, hpre => by
    cases vs with
    | nil => cases hl
    | cons v vs =>
      simp only [purify] at hp
      split at hp
      · cases hp
      · rename_i x k q hq
        split at hp
        · cases hp
        · rename_i xs' ks' q' hq'
          simp only [Option.some.injEq, Prod.mk.injEq] at hp
          obtain ⟨rfl, rfl, rfl⟩ := hp
          obtain ⟨S1, hS1, h1, hx⟩ := pur1_sound h (hr 0 c v rfl rfl) hq hpre.1
          obtain ⟨S2, hS2, h2, hlen, hxs⟩ := purify_sound cs h1 (by simpa using hl) (fun i c' v' e1 e2 => (hr (i + 1) c' v' e1 e2).mono (hA c' (List.mem_cons_of_mem _ (List.mem_of_getElem? e1))) (fun _ _ => rfl) hS1 (fun _ _ => rfl))
            (fun c' hc' => hA c' (List.mem_cons_of_mem _ hc')) hq' hpre.2
          refine ⟨S2, fun k q => hS2 k (hS1 k q), by rw [List.append_assoc]; exact h2, by simpa using hlen, ?_⟩
          intro i y u e1 e2
          cases i with
          | zero => cases e1; cases e2; exact hx.mono (fun _ _ => rfl) hS2
          | succ i => exact hxs i y u e1 e2
def AV.cells : AV → List AC
  | .one c => [c]
  | .agg cs => cs
  | _ => []
def AV.fit : AV → Prop
  | .one _ | .agg _ => True
  | _ => False
def okCell : AC → Bool
  | .p (.lit v) => v.oneCell'
  | _ => true
theorem okCell_sound {c : AC} {v : Value} (h : RepC w S σ c v) (ho : okCell c = true) : v.oneCell' = true := by
  cases h with
  | p h => cases h with
    | lit v => exact ho
    | nil => rfl
    | sl => rfl
    | own0 => rfl
    | own => rfl
  | _ => rfl
theorem Value.cells_one {v : Value} (h : v.oneCell' = true) : v.cells = #[v] := by cases v <;> first | rfl | cases h
theorem RepV.cells {av : AV} {v : Value} (h : RepV w S σ av v) (hf : av.fit) (hok : av.cells.all okCell = true) :
    av.cells.length = v.cells.toList.length ∧ (∀ (i : Nat) c u, av.cells[i]? = some c → v.cells.toList[i]? = some u → RepC w S σ c u) ∧ ∀ u ∈ v.cells.toList, u.oneCell' = true := by
  cases h with
  | one h =>
    rename_i c
    have h1 := okCell_sound h (by simpa [AV.cells] using hok)
    rw [Value.cells_one h1]
    refine ⟨rfl, fun i c' u e1 e2 => ?_, fun u hu => by simp at hu; exact hu ▸ h1⟩
    cases i with
    | zero => simp [AV.cells] at e1 e2; subst e1; subst e2; exact h
    | succ i => simp at e2
  | agg cs vs hl h =>
    refine ⟨by simpa [AV.cells, Value.cells] using hl, fun i c u e1 e2 => h i c u e1 (by simpa [Value.cells] using e2), fun u hu => ?_⟩
    obtain ⟨i, hi, rfl⟩ := List.mem_iff_getElem.1 hu
    have hi' : i < cs.length := by have := hl; simp [Value.cells] at hi; omega
    exact okCell_sound (h i cs[i] _ (List.getElem?_eq_getElem hi') (by simp [Value.cells])) (List.all_eq_true.1 hok _ (List.getElem_mem hi'))
  | tup => cases hf
  | clo => cases hf
  | unk => cases hf
theorem AV.InA.cells {av : AV} (h : av.InA A) : ∀ c ∈ av.cells, c.inA A := by
  cases h with
  | one h => intro c hc; simp [AV.cells] at hc; exact hc ▸ h
  | agg h => exact h
  | _ => intro c hc; cases hc
/-! ### load -/
def aload0 (P : Program) (st : St) (t : TypeId) (y : Operand) : Option E :=
  match ev st y with
  | some (.one c) => match ptrAt st c, P.underlying t with
    | some (cs, j), some _ => some ⟨P.cellsOf t ≠ 0 ∧ j + (if isRowT P t then P.cellsOf t else 1) ≤ cs.length, partOf (isRowT P t) (P.cellsOf t) cs j, []⟩
    | _, _ => none
  | _ => none
theorem partOf_inA {row : Bool} {n : Nat} {cs : List AC} {j : Nat} (h : ∀ x ∈ cs, x.inA A) : (partOf row n cs j).InA A := by
  unfold partOf
  split
  · exact .agg fun c hc => h c (List.mem_of_mem_drop (List.mem_of_mem_take hc))
  · refine .one ?_
    rw [List.getD_eq_getElem?_getD]
    cases hj : cs[j]? with
    | none => trivial
    | some c => exact h c (List.mem_of_getElem? hj)
theorem aload0_sound (h : RelOf X A σ S st a w) {t : TypeId} {y : Operand} {e : E} (he : aload0 P st t y = some e) (hp : e.pre) : Does P X A st e a w (do pure (.value (← Instr.loadAt t (a.eval y)))) := by
  unfold aload0 at he
  split at he
  · rename_i c hc
    split at he
    · rename_i cs j d hq hu
      cases he
      obtain ⟨hv, hA⟩ := ev_sound h hc
      cases hv with
      | one hv =>
        cases hA with
        | one hA =>
          obtain ⟨k, o, hvo, hcs, hcA⟩ := ptrAt_sound h hv hA hq
          obtain ⟨v, hr, hrep⟩ := run_load hu hp.1 hcs hp.2
          rw [hvo]
          exact ⟨.value v, v, w, σ, S, by simp [Sem.run_bind, hr], .inl rfl, h, hrep, partOf_inA hcA⟩
    · cases he
  · cases he
/-! ### store -/
def astore0 (P : Program) (st : St) (t : TypeId) (y z : Operand) : Option E :=
  match ev st y, ev st z with
  | some (.one (.hp b i j)), some v => match st.rd b with
    | some (.box cs) => if i = 0 then some ⟨v.fit ∧ v.cells.all okCell = true ∧ P.cellsOf t ≠ 0 ∧ v.cells.length = P.cellsOf t ∧ j + v.cells.length ≤ cs.length, lit undef, [(b, some (.box (splice cs j v.cells)))]⟩ else none
    | some (.arr _ _) => match purify st v.cells with
      | some (xs, ks, p) => match St.rd { st with bl := ks ++ st.bl } b with
        | some (.arr sz els) => some ⟨p ∧ v.fit ∧ v.cells.all okCell = true ∧ P.cellsOf t ≠ 0 ∧ v.cells.length = P.cellsOf t ∧ i < els.length ∧ j + xs.length ≤ (els.getD i []).length, lit undef, (b, some (.arr sz (els.set i (splice (els.getD i []) j xs)))) :: ks⟩
        | _ => none
      | none => none
    | none => none
  | _, _ => none
theorem run_store {t : TypeId} {v : Value} {k o : Nat} (hn : P.cellsOf t ≠ 0) (hl : v.cells.toList.length = P.cellsOf t) (h1 : ∀ u ∈ v.cells.toList, u.oneCell' = true)
    (ht : ∀ j, j < v.cells.toList.length → (w.cell? ⟨k, o + j, none⟩).isSome = true ∧ w.frozen? ⟨k, o + j, none⟩ = false) :
    (do Instr.storeAt t (.pointer (some ⟨k, o, none⟩)) v; pure Next.skip : Sem Next).run P w = .ok .skip (w.setCells k o v.cells.toList) := by
  have hs := run_storeCells_cells (P := P) k o v.cells.toList 0 w (fun j hj => by simpa using (ht j hj).1) (fun j hj => by simpa using (ht j hj).2) h1
  have hz := run_sizeOf' (info_of_cells rfl hn) w
  have hl' : v.cells.size = P.cellsOf t := by simpa using hl
  simp only [Nat.add_zero] at hs
  simp only [Instr.storeAt, Instr.sureAddr, storeVar, Sem.run_bind, Sem.run_pure, Result.andThen_ok, hz, hl', ne_eq, not_true_eq_false, if_false, hs]
theorem astore0_sound (h : RelOf X A σ S st a w) {t : TypeId} {y z : Operand} {e : E} (he : astore0 P st t y z = some e) (hp : e.pre) :
    Does P X A st e a w (do Instr.storeAt t (a.eval y) (a.eval z); pure Next.skip) := by
  unfold astore0 at he
  split at he
  · rename_i b i j v hy hz
    obtain ⟨hv, hA⟩ := ev_sound h hy
    obtain ⟨hu, huA⟩ := ev_sound h hz
    generalize a.eval y = vy at hv ⊢
    cases hv with
    | one hv =>
      cases hv
      split at he
      · rename_i cs hr
        split at he
        · rename_i hi
          cases he
          obtain ⟨hf, hok, hn, hlen, hj⟩ := hp
          obtain ⟨g1, g2, g3⟩ := hu.cells hf hok
          subst hi
          rw [Nat.zero_mul, Nat.zero_add]
          have hb := h.blks b _ hr
          have hw := hb.store_box (h.blA b _ hr).1 (h.notS b _ hr) j v.cells _ hj g1 huA.cells g2 g3
          have hset := setCells_os (σ b).k (a.eval z).cells.toList j w
          refine ⟨.skip, undef, _, σ, S, run_store hn (g1 ▸ hlen) g3 ?_, .inr ⟨rfl, rfl⟩, ?_, .one (.p (.lit _)), .one trivial⟩
          · intro m hm
            obtain ⟨u, q1, _, _, q2⟩ := hb.cell 0 (j + m) _ (List.getElem?_eq_getElem (show j + m < cs.length by omega))
            rw [Nat.zero_mul, Nat.zero_add] at q1 q2
            exact ⟨by rw [q1]; rfl, q2⟩
          · refine h.write b _ _ hr ?_ hset.1 hset.2.1 hset.2.2 (setCells_size _ _ _ _) (fun k hk => setCells_other _ _ _ _ _ hk) hw
            intro c hc
            simp only [splice, List.mem_append] at hc
            rcases hc with (hc | hc) | hc
            · exact (h.blA b _ hr).1 c (List.mem_of_mem_take hc)
            · exact huA.cells c hc
            · exact (h.blA b _ hr).1 c (List.mem_of_mem_drop hc)
        · cases he
      · rename_i sz0 els0 hr0
        split at he
        · rename_i xs ks p hpur
          split at he
          · rename_i sz els hr
            cases he
            obtain ⟨hq, hf, hok, hn, hlen, hi, hj⟩ := hp
            obtain ⟨g1, g2, g3⟩ := hu.cells hf hok
            obtain ⟨S', hSS, h', hxl, hx⟩ := purify_sound v.cells h g1 g2 huA.cells hpur hq
            have hb := h'.blks b _ hr
            have hw := hb.store_arr (h'.notS b _ hr) i j xs _ hi hj hxl hx g3
            have hset := setCells_os (σ b).k (a.eval z).cells.toList (i * (σ b).sz + j) w
            refine ⟨.skip, undef, _, σ, S', run_store hn (g1 ▸ hlen) g3 ?_, .inr ⟨rfl, rfl⟩, ?_, .one (.p (.lit _)), .one trivial⟩
            · intro m hm
              have hlt : j + m < (cellsOf (.arr sz els) i).length := by simp only [cellsOf, List.length_map]; omega
              obtain ⟨u, q1, _, _, q2⟩ := hb.cell i (j + m) _ (List.getElem?_eq_getElem hlt)
              rw [← Nat.add_assoc] at q1 q2
              exact ⟨by rw [q1]; rfl, q2⟩
            · exact h'.write b _ _ hr trivial hset.1 hset.2.1 hset.2.2 (setCells_size _ _ _ _) (fun k hk => setCells_other _ _ _ _ _ hk) hw
          · cases he
        · cases he
      · cases he
  · cases he
/-! ### whole arrays -/
def aloadA (P : Program) (st : St) (t : TypeId) (y : Operand) : Option E :=
  match ev st y with
  | some (.one (.hp b i j)) => match st.rd b with
    | some (.arr sz els) => some ⟨i = 0 ∧ j = 0 ∧ sz = 1 ∧ P.cellsOf t ≠ 0 ∧ els.length = P.cellsOf t, .agg (rowCs els), []⟩
    | _ => none
  | _ => none
theorem aloadA_sound (h : RelOf X A σ S st a w) {t : TypeId} (ht : isArr P t = true) {y : Operand} {e : E} (he : aloadA P st t y = some e) (hp : e.pre) : Does P X A st e a w (do pure (.value (← Instr.loadAt t (a.eval y)))) := by
  unfold aloadA at he
  split at he
  · rename_i b i j hc
    split at he
    · rename_i sz els hr
      cases he
      obtain ⟨rfl, rfl, rfl, hn, hlen⟩ := hp
      obtain ⟨hv, hA⟩ := ev_sound h hc
      generalize a.eval y = vy at hv ⊢
      cases hv with
      | one hv =>
        cases hv
        have hu : ∃ d, P.underlying t = some d := by
          unfold isArr at ht
          split at ht
          · rename_i q; exact ⟨_, q⟩
          · cases ht
        obtain ⟨d, hu⟩ := hu
        have hrow := isArr_row ht
        have hlr : (rowCs els).length = P.cellsOf t := by unfold rowCs; rw [List.length_map]; exact hlen
        obtain ⟨v, hr1, hrep⟩ := run_load (σ := σ) (S := S) hu hn (k := (σ b).k) (o := 0) (j := 0) (cs := rowCs els) (fun m x hx => by
          obtain ⟨u, q1, q2, _⟩ := (h.blks b _ hr).rows m x hx
          exact ⟨u, by rw [Nat.zero_add]; exact q1, q2⟩) (by rw [if_pos hrow, hlr]; omega)
        rw [hrow] at hrep
        simp only [partOf, if_true, List.drop_zero] at hrep
        rw [List.take_of_length_le (by omega)] at hrep
        simp only [Nat.zero_mul, Nat.add_zero] at hr1 ⊢
        refine ⟨.value v, v, w, σ, S, by simp [Sem.run_bind, hr1], .inl rfl, h, hrep, .agg fun c hc => ?_⟩
        obtain ⟨z, _, rfl⟩ := List.mem_map.1 hc
        trivial
    · cases he
  · cases he
def aload (P : Program) (st : St) (t : TypeId) (y : Operand) : Option E := match isArr P t with
  | true => aloadA P st t y
  | false => aload0 P st t y
theorem aload_sound (h : RelOf X A σ S st a w) {t : TypeId} {y : Operand} {e : E} (he : aload P st t y = some e) (hp : e.pre) : Does P X A st e a w (do pure (.value (← Instr.loadAt t (a.eval y)))) := by
  unfold aload at he
  split at he
  · rename_i ht; exact aloadA_sound h ht he hp
  · exact aload0_sound h he hp
def astoreA (P : Program) (st : St) (t : TypeId) (y z : Operand) : Option E :=
  match ev st y, ev st z with
  | some (.one (.hp b i j)), some v => match purify st v.cells with
      | some (xs, ks, p) => match St.rd { st with bl := ks ++ st.bl } b with
        | some (.arr sz els) => some ⟨p ∧ i = 0 ∧ j = 0 ∧ sz = 1 ∧ v.fit ∧ v.cells.all okCell = true ∧ P.cellsOf t ≠ 0 ∧ v.cells.length = P.cellsOf t ∧ xs.length = els.length, lit undef, (b, some (.arr 1 (xs.map fun x => [x]))) :: ks⟩
        | _ => none
      | none => none
  | _, _ => none
theorem astoreA_sound (h : RelOf X A σ S st a w) {t : TypeId} {y z : Operand} {e : E} (he : astoreA P st t y z = some e) (hp : e.pre) :
    Does P X A st e a w (do Instr.storeAt t (a.eval y) (a.eval z); pure Next.skip) := by
  unfold astoreA at he
  split at he
  · rename_i b i j v hy hz
    obtain ⟨hv, hA⟩ := ev_sound h hy
    obtain ⟨hu, huA⟩ := ev_sound h hz
    generalize a.eval y = vy at hv ⊢
    cases hv with
    | one hv =>
      cases hv
      split at he
      · rename_i xs ks p hpur
        split at he
        · rename_i sz els hr
          cases he
          obtain ⟨hq, rfl, rfl, rfl, hf, hok, hn, hlen, hxe⟩ := hp
          obtain ⟨g1, g2, g3⟩ := hu.cells hf hok
          obtain ⟨S', hSS, h', hxl, hx⟩ := purify_sound v.cells h g1 g2 huA.cells hpur hq
          have hb := h'.blks b _ hr
          have hw := hb.store_all (h'.notS b _ hr) xs _ hxe hxl hx g3
          have hset := setCells_os (σ b).k (a.eval z).cells.toList 0 w
          simp only [Nat.zero_mul, Nat.add_zero]
          refine ⟨.skip, undef, _, σ, S', run_store hn (g1 ▸ hlen) g3 ?_, .inr ⟨rfl, rfl⟩, ?_, .one (.p (.lit _)), .one trivial⟩
          · intro m hm
            have hlt : m < (rowCs els).length := by unfold rowCs; rw [List.length_map]; omega
            obtain ⟨u, q1, _, q2⟩ := hb.rows m _ (List.getElem?_eq_getElem hlt)
            rw [Nat.zero_add]
            exact ⟨by rw [q1]; rfl, q2⟩
          · exact h'.write b _ _ hr trivial hset.1 hset.2.1 hset.2.2 (setCells_size _ _ _ _) (fun k hk => setCells_other _ _ _ _ _ hk) hw
        · cases he
      · cases he
  · cases he
def astore (P : Program) (st : St) (t : TypeId) (y z : Operand) : Option E := match isArr P t with
  | true => astoreA P st t y z
  | false => astore0 P st t y z
theorem astore_sound (h : RelOf X A σ S st a w) {t : TypeId} {y z : Operand} {e : E} (he : astore P st t y z = some e) (hp : e.pre) :
    Does P X A st e a w (do Instr.storeAt t (a.eval y) (a.eval z); pure Next.skip) := by
  unfold astore at he
  split at he
  · exact astoreA_sound h he hp
  · exact astore0_sound h he hp
end Go.Abs
