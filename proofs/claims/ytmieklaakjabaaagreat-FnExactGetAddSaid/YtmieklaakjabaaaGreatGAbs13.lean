import Derived.Test.YtmieklaakjabaaaGreatGAbs12
set_option linter.unusedSimpArgs false
set_option linter.unusedVariables false
namespace Go.Abs
open Go Go.RowKit
variable {P : Program} {st : St}
/-- A check that is reckoned. -/
def chk (b : Bool) (p : Prop) : Prop := match b with | true => p | false => False
theorem chk_iff {b : Bool} {p : Prop} : chk b p ↔ b = true ∧ p := by cases b <;> simp [chk]
def fitB : AV → Bool
  | .one _ | .agg _ => true
  | _ => false
theorem fitB_iff {v : AV} : fitB v = true ↔ v.fit := by cases v <;> simp [fitB, AV.fit]
def plainPs : List AC → Option (List PV)
  | [] => some []
  | .p x :: cs => match plainPs cs with
    | some xs => some (x :: xs)
    | none => none
  | _ :: _ => none
theorem plainPs_purify : ∀ {cs : List AC} {xs : List PV} {st : St}, plainPs cs = some xs → ∃ p, p ∧ purify st cs = some (xs, [], p)
  | [], xs, st, h => by cases h; exact ⟨True, trivial, rfl⟩
  | c :: cs, xs, st, h => by
    cases c with
    | p x =>
      simp only [plainPs] at h
      split at h
      · rename_i ys hy
        cases h
        obtain ⟨p, hp, hq⟩ := plainPs_purify (st := st) hy
        exact ⟨True ∧ p, ⟨trivial, hp⟩, by simp only [purify, pur1, List.nil_append]; rw [hq]; rfl⟩
      · cases h
    | _ => cases h
/-- Cells made plain: with nothing to show where they are. -/
def vpur (st : St) (cs : List AC) (K : List PV → List (Nat × Option Blk) → Prop) : Prop :=
  match plainPs cs with
  | some xs => K xs []
  | none => match purify st cs with
    | some (xs, ks, p) => p ∧ K xs ks
    | none => False
theorem vpur_sound {cs : List AC} {K : List PV → List (Nat × Option Blk) → Prop} (h : vpur st cs K) : ∃ xs ks p, purify st cs = some (xs, ks, p) ∧ p ∧ K xs ks := by
  unfold vpur at h
  split at h
  · rename_i xs hx
    obtain ⟨p, hp, hq⟩ := plainPs_purify (st := st) hx
    exact ⟨xs, [], p, hq, hp, h⟩
  · split at h
    · rename_i xs ks p hq; exact ⟨xs, ks, p, hq, h⟩
    · exact h.elim
def vparts (sz : Nat) : St → List (List PV) → List (Nat × Operand) → (List (List PV) → List (Nat × Option Blk) → Prop) → Prop
  | _, els, [], K => K els []
  | st, els, (i, x) :: rest, K => match ev st x with
    | none => False
    | some v => chk (fitB v && v.cells.all okCell) (vpur st v.cells fun xs ks => chk (xs.length == sz && Nat.blt i els.length) (vparts sz { st with bl := ks ++ st.bl } (els.set i xs) rest fun els' ks' => K els' (ks' ++ ks)))
theorem vparts_sound {sz : Nat} : ∀ {parts : List (Nat × Operand)} {st : St} {els : List (List PV)} {K : List (List PV) → List (Nat × Option Blk) → Prop}, vparts sz st els parts K → ∃ els' ks p, bparts st sz els parts = some (els', ks, p) ∧ p ∧ K els' ks
  | [], st, els, K, h => ⟨els, [], True, rfl, trivial, h⟩
  | (i, x) :: rest, st, els, K, h => by
    simp only [vparts] at h
    split at h
    · exact h.elim
    · rename_i v hv
      obtain ⟨h1, h2⟩ := chk_iff.1 h
      obtain ⟨xs, ks, p, hq, hp, h3⟩ := vpur_sound h2
      obtain ⟨h4, h5⟩ := chk_iff.1 h3
      obtain ⟨els', ks', p', hq', hp', hK⟩ := vparts_sound h5
      simp only [Bool.and_eq_true, beq_iff_eq, Nat.blt_eq] at h1 h4
      refine ⟨els', ks' ++ ks, (p ∧ v.fit ∧ v.cells.all okCell = true ∧ xs.length = sz ∧ i < els.length) ∧ p', by simp only [bparts, hv, hq, hq'], ⟨⟨hp, fitB_iff.1 h1.1, h1.2, h4.1, h4.2⟩, hp'⟩, hK⟩
def spartsB (P : Program) (st : St) (fs : List (Nat × TypeId)) : List AC → List (Nat × Operand) → Option (List AC)
  | cs, [] => some cs
  | cs, (i, x) :: rest => match ev st x, fs[i]? with
    | some v, some (off, t) => match fitB v && v.cells.all okCell && v.cells.length == P.cellsOf t && Nat.ble (off + v.cells.length) cs.length with
      | true => spartsB P st fs (splice cs off v.cells) rest
      | false => none
    | _, _ => none
theorem spartsB_sound {fs : List (Nat × TypeId)} : ∀ {parts : List (Nat × Operand)} {cs cs' : List AC}, spartsB P st fs cs parts = some cs' → ∃ p, p ∧ sparts P st fs cs parts = some (cs', p)
  | [], cs, cs', h => by cases h; exact ⟨True, trivial, rfl⟩
  | (i, x) :: rest, cs, cs', h => by
    simp only [spartsB] at h
    split at h
    · rename_i v off t hv hf
      split at h
      · rename_i hb
        obtain ⟨p, hp, hq⟩ := spartsB_sound h
        simp only [Bool.and_eq_true, beq_iff_eq, Nat.ble_eq] at hb
        exact ⟨(v.fit ∧ v.cells.all okCell = true ∧ v.cells.length = P.cellsOf t ∧ off + v.cells.length ≤ cs.length) ∧ p, ⟨⟨fitB_iff.1 hb.1.1.1, hb.1.1.2, hb.1.2, hb.2⟩, hp⟩, by simp only [sparts, hv, hf, hq]⟩
      · cases h
    · cases h
/-- What one operation asks, and what comes of it: to be reckoned head first. -/
def notStr : AV → Bool
  | .one (.p (.lit (.string _))) => false
  | _ => true
theorem notStr_iff {v : AV} (h : notStr v = true) : ∀ s, v ≠ lit (.string s) := by
  rintro s rfl
  cases h
/-- append, of a slice. -/
def vapp (P : Program) (st : St) (x : Nat) (t tx : TypeId) (y z : Operand) (K : AV → List (Nat × Option Blk) → Prop) : Prop :=
  match ev st y, ev st z, P.underlying t, P.underlying tx with
  | some u, some v, some (.slice el), some (.slice _) => match zeroOf P el with
    | none => False
    | some zs => match baseEls st zs.size u, srcEls st v with
      | some (els, ks, p), some (news, q) => p ∧ q ∧ chk (P.cellsOf el == zs.size && zs.size != 0 && zs.toList.all (·.oneCell') && notStr v) ((ks = [] → news ≠ []) ∧ (els.length + news.length) * (P.bytesOf el + 1) ≤ 140737488355328 ∧ (∀ el' ∈ news, el'.length = zs.size) ∧
          K (.one (.hs x 0 (els.length + news.length))) ((x, some (.arr zs.size (els ++ news))) :: ks))
      | _, _ => False
  | _, _, _, _ => match aappend P st x t tx y z with
    | some e => e.pre ∧ K e.v e.wr
    | none => False
theorem vapp_sound {x : Nat} {t tx : TypeId} {y z : Operand} {K : AV → List (Nat × Option Blk) → Prop} (h : vapp P st x t tx y z K) : ∃ e, aappend P st x t tx y z = some e ∧ e.pre ∧ K e.v e.wr := by
  unfold vapp at h
  split at h
  · rename_i u v el d hy hz ht htx
    split at h
    · exact h.elim
    · rename_i zs hzs
      split at h
      · rename_i els ks p news q hb hs
        obtain ⟨h1, h2, h3⟩ := h
        obtain ⟨h4, h5, h6, h7, h8⟩ := chk_iff.1 h3
        simp only [Bool.and_eq_true, beq_iff_eq, bne_iff_ne, Array.all_toList] at h4
        refine ⟨_, by simp only [aappend, hy, hz, ht, htx, hzs, hb, hs]; rfl, ?_, ?_⟩
        · exact ⟨h1, h2, h5, h6, h4.1.1.1, h4.1.1.2, h4.1.2, h7, .inl ⟨_, rfl⟩, (fun q => by cases q), fun s q => absurd q (notStr_iff h4.2 s)⟩
        · exact h8
      · exact h.elim
  · split at h
    · rename_i e he; exact ⟨e, he, h⟩
    · exact h.elim
def vop (P : Program) (st : St) (x : Nat) (o : Oper) (K : AV → List (Nat × Option Blk) → Prop) : Prop :=
  match o.op with
  | .move y | .assign y => match ev st y with
    | some v => K v []
    | none => False
  | .alloc t => match isArr P t with
    | true => match zeroOf P t with
      | some c => chk (c.toList.all (·.oneCell')) (K (.one (.hp x 0 0)) [(x, some (.arr 1 (c.toList.map fun v => [.lit v])))])
      | none => False
    | false => match zeroOf P t with
      | some c => chk (c.toList.all (·.oneCell')) (K (.one (.hp x 0 0)) [(x, some (.box (c.toList.map litC)))])
      | none => False
  | .box _ y => match ev st y with
    | some v => chk (fitB v && v.cells.all okCell) (K (.one (.hp x 0 0)) [(x, some (.box v.cells))])
    | none => False
  | .build t ps => match fieldsOf P t, zeroOf P t with
    | some fs, some zs => match spartsB P st fs (zs.toList.map litC) ps.toList with
      | some cs => chk (fs.all (fun f => P.cellsOf f.2 != 0)) (K (.agg cs) [])
      | none => False
    | _, _ => False
  | .buildSlice t len ps => match P.underlying t with
    | some (.slice el) => match zeroOf P el with
      | some zs => chk (Nat.ble (len * zs.size) 16777216 && P.cellsOf el == zs.size && zs.size != 0 && zs.toList.all (·.oneCell')) (vparts zs.size st (List.replicate len (zeroEl zs)) ps.toList fun els ks => K (.one (.hs x 0 len)) ((x, some (.arr zs.size els)) :: ks))
      | none => False
    | _ => False
  | .load t y => match isArr P t with
   | true => match ev st y with
    | some (.one (.hp b i j)) => match st.rd b with
      | some (.arr sz els) => chk (i == 0 && j == 0 && sz == 1 && P.cellsOf t != 0) (els.length = P.cellsOf t ∧ K (.agg (rowCs els)) [])
      | _ => False
    | _ => False
   | false => match ev st y, P.underlying t with
    | some (.one (.hp b i j)), some _ => match st.rd b with
      | some (.box cs) => match i with
        | 0 => chk (P.cellsOf t != 0 && Nat.ble (j + (if isRowT P t then P.cellsOf t else 1)) cs.length) (K (partOf (isRowT P t) (P.cellsOf t) cs j) [])
        | _ + 1 => False
      | some (.arr _ els) => ∃ el, els.getD i [] = el ∧ chk (P.cellsOf t != 0 && Nat.ble (j + (if isRowT P t then P.cellsOf t else 1)) el.length) (K (partOf (isRowT P t) (P.cellsOf t) (el.map .p) j) [])
      | none => False
    | some (.one (.fp el j)), some _ => chk (P.cellsOf t != 0 && Nat.ble (j + (if isRowT P t then P.cellsOf t else 1)) el.length) (K (partOf (isRowT P t) (P.cellsOf t) (el.map .p) j) [])
    | _, _ => False
  | .store t y z => match isArr P t with
   | true => match ev st y, ev st z with
    | some (.one (.hp b i j)), some v => chk (fitB v && v.cells.all okCell && P.cellsOf t != 0 && v.cells.length == P.cellsOf t && i == 0 && j == 0) <| vpur st v.cells fun xs ks => match St.rd { st with bl := ks ++ st.bl } b with
        | some (.arr sz els) => chk (sz == 1) (xs.length = els.length ∧ K (lit undef) ((b, some (.arr 1 (xs.map fun x => [x]))) :: ks))
        | _ => False
    | _, _ => False
   | false => match ev st y, ev st z with
    | some (.one (.hp b i j)), some v => chk (fitB v && v.cells.all okCell && P.cellsOf t != 0 && v.cells.length == P.cellsOf t) <| match st.rd b with
      | some (.box cs) => match i with
        | 0 => chk (Nat.ble (j + v.cells.length) cs.length) (K (lit undef) [(b, some (.box (splice cs j v.cells)))])
        | _ + 1 => False
      | some (.arr _ _) => vpur st v.cells fun xs ks => match St.rd { st with bl := ks ++ st.bl } b with
        | some (.arr sz els) => ∃ el, els.getD i [] = el ∧ i < els.length ∧ chk (Nat.ble (j + xs.length) el.length) (K (lit undef) ((b, some (.arr sz (els.set i (splice el j xs)))) :: ks))
        | _ => False
      | none => False
    | _, _ => False
  | .indexAddr t y ix => match isArr P t with
   | true => match ev st y, ev st ix, P.underlying t with
    | some (.one c), some (.one (.p (.lit (.int _ i)))), some (.array len elem) => match c with
      | .hp b i0 j0 => match st.rd b with
        | some (.arr sz els) => chk (j0 == 0 && sz == 1) (0 ≤ i ∧ i < len ∧ K (.one (.hp b (i0 + i.toNat) 0)) [])
        | _ => False
      | .fp el j => 0 ≤ i ∧ i < len ∧ j + i.toNat < el.length ∧ ∃ x, el.getD (j + i.toNat) (.lit undef) = x ∧ K (.one (.fp [x] 0)) []
      | _ => False
    | _, _, _ => False
   | false => match ev st y, ev st ix, P.underlying t with
    | some (.one c), some (.one (.p (.lit (.int _ i)))), some (.slice e) => match c with
      | .p (.sl els) => 0 ≤ i ∧ i < els.length ∧ ∃ el, els.getD i.toNat [] = el ∧ chk (P.cellsOf e == el.length && el.length != 0) (K (.one (.fp el 0)) [])
      | .hs b lo n => match st.rd b with
        | some (.arr sz els) => 0 ≤ i ∧ i < n ∧ lo + n ≤ els.length ∧ chk (P.cellsOf e == sz && sz != 0) (K (.one (.hp b (lo + i.toNat) 0)) [])
        | _ => False
      | _ => False
    | some (.one c), some (.one (.p (.lit (.int _ i)))), some (.array len elem) => match shiftC c (i.toNat * P.cellsOf elem) with
      | some d => 0 ≤ i ∧ i < len ∧ chk (P.cellsOf elem != 0) (K (.one d) [])
      | none => False
    | _, _, _ => False
  | .fieldAddr s y f => match ev st y, offOf P s f with
    | some (.one c), some (o, t) => match shiftC c o with
      | some d => chk (P.cellsOf t != 0) (K (.one d) [])
      | none => False
    | _, _ => False
  | .field s y f => match ev st y, offOf P s f with
    | some (.agg cs), some (o, t) => match P.underlying t with
      | some _ => chk (P.cellsOf t != 0 && Nat.ble (o + (if isRowT P t then P.cellsOf t else 1)) cs.length) (K (partOf (isRowT P t) (P.cellsOf t) cs o) [])
      | none => False
    | _, _ => False
  | .index t y ix => match ev st y, ev st ix, P.underlying t with
    | some (.one (.p (.lit (.string s)))), some (.one (.p (.lit (.int _ i)))), some .string => 0 ≤ i ∧ i < s.size ∧ K (lit (.int .u8 (bt s i.toNat))) []
    | _, _, _ => match aop P st x o with
      | some e => e.pre ∧ K e.v e.wr
      | none => False
  | .makeSlice t y z => match ev st y, ev st z, P.underlying t with
    | some (.one (.p (.lit (.int .i64 l)))), some (.one (.p (.lit (.int .i64 c)))), some (.slice el) => match zeroOf P el with
      | some zs => chk (P.cellsOf el == zs.size && zs.size != 0 && zs.toList.all (·.oneCell')) (0 ≤ l ∧ l ≤ c ∧ c * (P.bytesOf el + 1) < 281474976710656 ∧ K (.one (.hs x 0 l.toNat)) [(x, some (.arr zs.size (List.replicate l.toNat (zeroEl zs))))])
      | none => False
    | _, _, _ => False
  | .binOp op t y z _ => match ev st y, ev st z with
    | some (.agg _), some (.agg _) => P.stoodInHeld t = false ∧ P.eqGuardType P.depth t = false ∧ match abin P st op t y z with
      | some e => K e.v e.wr
      | none => False
    | _, _ => match abin P st op t y z with
      | some e => K e.v e.wr
      | none => False
  | .pick .. | .nilCheck _ | .unOp .. | .extract .. | .makeFunc .. => match aop P st x o with
    | some e => K e.v e.wr
    | none => False
  | .call { callee := .builtin .len, .. } | .call { callee := .builtin .min, .. } | .call { callee := .builtin .max, .. } => match aop P st x o with
    | some e => K e.v e.wr
    | none => False
  | .call { callee := .builtin .append, args, argTypes } => match args.toList, argTypes.toList with
    | [y, z], [t, tx] => vapp P st x t tx y z K
    | _, _ => False
  | _ => match aop P st x o with
    | some e => e.pre ∧ K e.v e.wr
    | none => False
theorem amove_pre {y : Operand} {e : E} (h : amove st y = some e) : e.pre := by
  unfold amove at h
  cases hv : ev st y with
  | none => simp [hv] at h
  | some v => simp only [hv, Option.map_some, Option.some.injEq] at h; subst h; trivial
theorem vop_sound {x : Nat} {o : Oper} {K : AV → List (Nat × Option Blk) → Prop} (h : vop P st x o K) : ∃ e, aop P st x o = some e ∧ e.pre ∧ K e.v e.wr := by
  obtain ⟨dst, op, type, pos, after, guard⟩ := o
  unfold vop at h
  cases op <;> simp only at h
  case move y =>
    split at h
    · rename_i v hv; exact ⟨⟨True, v, []⟩, by simp [aop, amove, hv], trivial, h⟩
    · exact h.elim
  case assign y =>
    split at h
    · rename_i v hv; exact ⟨⟨True, v, []⟩, by simp [aop, amove, hv], trivial, h⟩
    · exact h.elim
  case alloc t =>
    cases hA : isArr P t <;> simp only [hA] at h <;> split at h
    · rename_i c hc; obtain ⟨h1, h2⟩ := chk_iff.1 h; rw [Array.all_toList] at h1; refine ⟨_, by simp only [aop, aalloc, hA, aalloc0, hc, Option.map_some]; rfl, ?_, ?_⟩
      · exact h1
      · exact h2
    · exact h.elim
    · rename_i c hc; obtain ⟨h1, h2⟩ := chk_iff.1 h; rw [Array.all_toList] at h1; refine ⟨_, by simp only [aop, aalloc, hA, aallocA, hc, Option.map_some]; rfl, ?_, ?_⟩
      · exact h1
      · exact h2
    · exact h.elim
  case box t y =>
    split at h
    · rename_i v hv
      obtain ⟨h1, h2⟩ := chk_iff.1 h
      simp only [Bool.and_eq_true] at h1
      refine ⟨_, by simp only [aop, abox, hv, Option.map_some]; rfl, ?_, ?_⟩
      · exact ⟨fitB_iff.1 h1.1, h1.2⟩
      · exact h2
    · exact h.elim
  case build t ps =>
    split at h
    · rename_i fs zs hf hz
      split at h
      · rename_i cs hcs
        obtain ⟨h1, h2⟩ := chk_iff.1 h
        obtain ⟨p, hp, hq⟩ := spartsB_sound hcs
        refine ⟨_, by simp only [aop, abuild, hf, hz, hq]; rfl, ?_, ?_⟩
        · exact ⟨hp, h1⟩
        · exact h2
      · exact h.elim
    · exact h.elim
  case buildSlice t len ps =>
    split at h
    · rename_i el hu
      split at h
      · rename_i zs hz
        obtain ⟨h1, h2⟩ := chk_iff.1 h
        simp only [Bool.and_eq_true, beq_iff_eq, bne_iff_ne, Nat.ble_eq, Array.all_toList] at h1
        obtain ⟨els, ks, p, hq, hp, hK⟩ := vparts_sound h2
        refine ⟨_, by simp only [aop, abuildSlice, hu, hz, hq]; rfl, ?_, ?_⟩
        · exact ⟨hp, h1.1.1.1, h1.1.1.2, h1.1.2, h1.2⟩
        · exact hK
      · exact h.elim
    · exact h.elim
  case makeSlice t y z =>
    split at h
    · rename_i l c el hy hz hu
      split at h
      · rename_i zs hzs
        obtain ⟨h1, h2, h3, h4, h5⟩ := chk_iff.1 h
        simp only [Bool.and_eq_true, beq_iff_eq, bne_iff_ne, Array.all_toList] at h1
        refine ⟨_, by simp only [aop, amake, hy, hz, hu, hzs, Option.map_some]; rfl, ?_, ?_⟩
        · exact ⟨h2, h3, h4, h1.1.1, h1.1.2, h1.2⟩
        · exact h5
      · exact h.elim
    · exact h.elim
  case load t y =>
    cases hA : isArr P t <;> simp only [hA] at h <;> split at h
    rotate_left 3
    · rename_i b i j hy
      split at h
      · rename_i sz els hr
        obtain ⟨h1, h2, h3⟩ := chk_iff.1 h
        simp only [Bool.and_eq_true, beq_iff_eq, bne_iff_ne] at h1
        refine ⟨_, by simp only [aop, aload, hA, aloadA, hy, hr]; rfl, ?_, h3⟩
        exact ⟨h1.1.1.1, h1.1.1.2, h1.1.2, h1.2, h2⟩
      · exact h.elim
    · exact h.elim
    · rename_i b i j d hy hu
      split at h
      · rename_i cs hr
        split at h
        · obtain ⟨h1, h2⟩ := chk_iff.1 h
          simp only [Bool.and_eq_true, bne_iff_ne, Nat.ble_eq] at h1
          refine ⟨_, by simp only [aop, aload, hA, aload0, hy, ptrAt, hr, Option.map_some, hu, cellsOf]; rfl, ?_, ?_⟩
          · exact h1
          · exact h2
        · exact h.elim
      · rename_i sz els hr
        obtain ⟨el, rfl, h⟩ := h
        obtain ⟨h1, h2⟩ := chk_iff.1 h
        simp only [Bool.and_eq_true, bne_iff_ne, Nat.ble_eq] at h1
        refine ⟨_, by simp only [aop, aload, hA, aload0, hy, ptrAt, hr, Option.map_some, hu, cellsOf]; rfl, ?_, ?_⟩
        · exact by rw [List.length_map]; exact h1
        · exact h2
      · exact h.elim
    · rename_i el j d hy hu
      obtain ⟨h1, h2⟩ := chk_iff.1 h
      simp only [Bool.and_eq_true, bne_iff_ne, Nat.ble_eq] at h1
      refine ⟨_, by simp only [aop, aload, hA, aload0, hy, ptrAt, hu]; rfl, ?_, ?_⟩
      · exact by rw [List.length_map]; exact h1
      · exact h2
    · exact h.elim
  case store t y z =>
    cases hA : isArr P t <;> simp only [hA] at h <;> split at h
    rotate_left 2
    · rename_i b i j v hy hz
      obtain ⟨h1, h⟩ := chk_iff.1 h
      simp only [Bool.and_eq_true, beq_iff_eq, bne_iff_ne] at h1
      obtain ⟨xs, ks, p, hq, hp, h⟩ := vpur_sound h
      split at h
      · rename_i sz els hr
        obtain ⟨h2, h3, h4⟩ := chk_iff.1 h
        simp only [beq_iff_eq] at h2
        refine ⟨_, by simp only [aop, astore, hA, astoreA, hy, hz, hq, hr]; rfl, ?_, h4⟩
        exact ⟨hp, h1.1.2, h1.2, h2, fitB_iff.1 h1.1.1.1.1.1, h1.1.1.1.1.2, h1.1.1.1.2, h1.1.1.2, h3⟩
      · exact h.elim
    · exact h.elim
    · rename_i b i j v hy hz
      obtain ⟨h1, h⟩ := chk_iff.1 h
      simp only [Bool.and_eq_true, beq_iff_eq, bne_iff_ne] at h1
      split at h
      · rename_i cs hr
        split at h
        · obtain ⟨h2, h3⟩ := chk_iff.1 h
          simp only [Nat.ble_eq] at h2
          refine ⟨_, by simp only [aop, astore, hA, astore0, hy, hz, hr, if_true]; rfl, ?_, ?_⟩
          · exact ⟨fitB_iff.1 h1.1.1.1, h1.1.1.2, h1.1.2, h1.2, h2⟩
          · exact h3
        · exact h.elim
      · rename_i sz0 els0 hr0
        obtain ⟨xs, ks, p, hq, hp, h⟩ := vpur_sound h
        split at h
        · rename_i sz els hr
          obtain ⟨el, rfl, hi, h⟩ := h
          obtain ⟨h2, h3⟩ := chk_iff.1 h
          simp only [Nat.ble_eq] at h2
          refine ⟨_, by simp only [aop, astore, hA, astore0, hy, hz, hr0, hq, hr]; rfl, ?_, ?_⟩
          · exact ⟨hp, fitB_iff.1 h1.1.1.1, h1.1.1.2, h1.1.2, h1.2, hi, h2⟩
          · exact h3
        · exact h.elim
      · exact h.elim
    · exact h.elim
  case indexAddr t y ix =>
    cases hA : isArr P t <;> simp only [hA] at h <;> split at h
    rotate_left 3
    · rename_i c ik i len el hy hi hu
      split at h
      · rename_i b i0 j0
        split at h
        · rename_i sz els hr
          obtain ⟨h1, h2, h3, h4⟩ := chk_iff.1 h
          simp only [Bool.and_eq_true, beq_iff_eq] at h1
          refine ⟨_, by simp only [aop, aindexAddr, hA, aindexAddrA, hy, hi, hu, hr]; rfl, ?_, h4⟩; exact ⟨h1.1, h1.2, h2, h3⟩
        · exact h.elim
      · rename_i fl j
        obtain ⟨h1, h2, h3, x, rfl, h4⟩ := h
        refine ⟨_, by simp only [aop, aindexAddr, hA, aindexAddrA, hy, hi, hu]; rfl, ?_, h4⟩; exact ⟨h1, h2, h3⟩
      · exact h.elim
    · exact h.elim
    · rename_i c ik i e hy hi hu
      split at h
      · rename_i els
        obtain ⟨h0, h1, el, rfl, h⟩ := h
        obtain ⟨h2, h3⟩ := chk_iff.1 h
        simp only [Bool.and_eq_true, beq_iff_eq, bne_iff_ne] at h2
        refine ⟨_, by simp only [aop, aindexAddr, hA, aindexAddr0, hy, hi, hu]; rfl, ?_, ?_⟩
        · exact ⟨h0, h1, h2.1, fun q => h2.2 (by rw [q]; rfl)⟩
        · exact h3
      · rename_i b lo n
        split at h
        · rename_i sz els hr
          obtain ⟨h0, h1, h2, h⟩ := h
          obtain ⟨h3, h4⟩ := chk_iff.1 h
          simp only [Bool.and_eq_true, beq_iff_eq, bne_iff_ne] at h3
          refine ⟨_, by simp only [aop, aindexAddr, hA, aindexAddr0, hy, hi, hu, hr]; rfl, ?_, ?_⟩
          · exact ⟨h0, h1, h2, h3.1, h3.2⟩
          · exact h4
        · exact h.elim
      · exact h.elim
    · rename_i c ik i len elem hy hi hu
      split at h
      · rename_i d hd
        obtain ⟨h0, h1, h⟩ := h
        obtain ⟨h2, h3⟩ := chk_iff.1 h
        simp only [bne_iff_ne] at h2
        refine ⟨_, by simp only [aop, aindexAddr, hA, aindexAddr0, hy, hi, hu, hd, Option.map_some]; rfl, ?_, ?_⟩
        · exact ⟨h0, h1, h2⟩
        · exact h3
      · exact h.elim
    · exact h.elim
  case fieldAddr s y f =>
    split at h
    · rename_i c off t hy ho
      split at h
      · rename_i d hd
        obtain ⟨h1, h2⟩ := chk_iff.1 h
        simp only [bne_iff_ne] at h1
        refine ⟨_, by simp only [aop, afieldAddr, hy, ho, hd, Option.map_some]; rfl, ?_, ?_⟩
        · exact h1
        · exact h2
      · exact h.elim
    · exact h.elim
  case field s y f =>
    split at h
    · rename_i cs off t hy ho
      split at h
      · rename_i d hd
        obtain ⟨h1, h2⟩ := chk_iff.1 h
        simp only [Bool.and_eq_true, bne_iff_ne, Nat.ble_eq] at h1
        refine ⟨_, by simp only [aop, afield, hy, ho, hd]; rfl, ?_, ?_⟩
        · exact h1
        · exact h2
      · exact h.elim
    · exact h.elim
  case index t y ix =>
    split at h
    · rename_i s ik i hy hi hu
      refine ⟨_, by simp only [aop, aindex, hy, hi, hu]; rfl, ?_, ?_⟩
      · exact ⟨h.1, h.2.1⟩
      · exact h.2.2
    · split at h
      · rename_i e he; exact ⟨e, he, h⟩
      · exact h.elim
  case pick c y z =>
    split at h
    · rename_i e he
      refine ⟨e, he, ?_, h⟩
      simp only [aop, apick] at he
      split at he
      · split at he
        · exact amove_pre he
        · exact amove_pre he
      · cases he
    · exact h.elim
  case nilCheck y =>
    split at h
    · rename_i e he
      refine ⟨e, he, ?_, h⟩
      simp only [aop, anil] at he
      split at he <;> first | (cases he; trivial) | cases he
    · exact h.elim
  case binOp op t y z ty =>
    split at h
    · rename_i us vs hy hz
      obtain ⟨h1, h2, h⟩ := h
      split at h
      · rename_i e he
        refine ⟨e, by simpa only [aop] using he, ?_, h⟩
        simp only [abin, hy, hz] at he
        split at he
        · split at he
          · split at he <;> first | (cases he; exact ⟨h1, h2⟩) | cases he
          · cases he
        · cases he
      · exact h.elim
    · rename_i hno
      split at h
      · rename_i e he
        refine ⟨e, by simpa only [aop] using he, ?_, h⟩
        unfold abin at he
        split at he
        · rename_i u v _ _
          cases hr : pureRun P (do eqGuard op t y z u v; Go.binOp op t u v) with
          | none => simp [hr] at he
          | some r => simp only [hr, Option.map_some, Option.some.injEq] at he; subst he; trivial
        · rename_i us vs hy hz
          exact (hno us vs hy hz).elim
        · cases he
      · exact h.elim
  case unOp op t y =>
    split at h
    · rename_i e he
      refine ⟨e, he, ?_, h⟩
      simp only [aop, aun] at he
      split at he
      · rename_i u _
        cases hr : pureRun P (Op.unary op u) with
        | none => simp [hr] at he
        | some r => simp only [hr, Option.map_some, Option.some.injEq] at he; subst he; trivial
      · cases he
    · exact h.elim
  case extract y i =>
    split at h
    · rename_i e he
      refine ⟨e, he, ?_, h⟩
      simp only [aop, aextract] at he
      split at he
      · rename_i vs _
        cases hi : vs[i]? with
        | none => simp [hi] at he
        | some v => simp only [hi, Option.map_some, Option.some.injEq] at he; subst he; trivial
      · cases he
    · exact h.elim
  case makeFunc fn first caps =>
    split at h
    · rename_i e he
      refine ⟨e, he, ?_, h⟩
      cases fn <;> simp only [aop] at he
      case func f =>
        split at he
        · unfold aclo at he
          split at he
          · split at he
            · cases he; trivial
            · cases he
          · cases he
        · cases he
      all_goals cases he
    · exact h.elim
  case call c =>
    obtain ⟨callee, args, ats⟩ := c
    have mn : ∀ {b : Builtin} {consts : Array Bool} {e : E}, amin P st b ats type consts args = some e → e.pre := by
      intro b consts e he
      unfold amin at he
      split at he
      · split at he
        · split at he
          · split at he
            · cases he; trivial
            · cases he
          · cases he
        · cases he
      · cases he
    cases callee with
    | builtin b =>
      cases b <;> simp only at h
      case len =>
        split at h
        · rename_i e he
          refine ⟨e, he, ?_, h⟩
          simp only [aop] at he
          split at he
          · unfold alen at he
            split at he <;> first | (cases he; trivial) | cases he
          · cases he
        · exact h.elim
      case append =>
        split at h
        · rename_i y z t tx hy ht
          obtain ⟨e, h1, h2, h3⟩ := vapp_sound h
          exact ⟨e, by simp only [aop, hy, ht]; exact h1, h2, h3⟩
        · exact h.elim
      case min =>
        split at h
        · rename_i e he; exact ⟨e, he, mn (by simpa only [aop] using he), h⟩
        · exact h.elim
      case max =>
        split at h
        · rename_i e he; exact ⟨e, he, mn (by simpa only [aop] using he), h⟩
        · exact h.elim
      all_goals
        split at h
        · rename_i e he; exact ⟨e, he, h⟩
        · exact h.elim
    | value f =>
      simp only at h
      split at h
      · rename_i e he; exact ⟨e, he, h⟩
      · exact h.elim
    | invoke r m =>
      simp only at h
      split at h
      · rename_i e he; exact ⟨e, he, h⟩
      · exact h.elim
  all_goals
    split at h
    · rename_i e he; exact ⟨e, he, h⟩
    · exact h.elim
end Go.Abs
