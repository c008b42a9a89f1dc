import Derived.Test.YtmieklaakjabaaaGreatGAbs6
set_option linter.unusedSimpArgs false
set_option linter.unusedVariables false
namespace Go.Abs
open Go Go.RowKit
variable {P : Program} {X : Ctx} {A A' : Nat → Prop} {σ : Nat → Loc} {S : Kx → Prop} {st : St} {a : Act} {w w' : World}
theorem exec_builtin {o : Oper} {b : Builtin} {args : Array Operand} {ats : Array TypeId} (ho : o.op = .call { callee := .builtin b, args, argTypes := ats }) (ρ : Operand → Value) :
    execOp ρ o = builtin b ats o.type (args.map fun | .const _ => true | _ => false) (args.map ρ) := by
  simp only [execOp, ho, resolve]
  rfl
/-! ### len -/
def alen (P : Program) (st : St) (t : TypeId) (y : Operand) : Option E :=
  match ev st y, P.underlying t with
  | some (.one (.p (.lit (.string s)))), some .string => some ⟨True, lit (.int .i64 s.size), []⟩
  | some (.one (.p (.lit (.slice _ n _)))), some (.slice _) => some ⟨True, lit (.int .i64 n), []⟩
  | some (.one (.p (.sl els))), some (.slice _) => some ⟨True, lit (.int .i64 els.length), []⟩
  | some (.one (.hs _ _ n)), some (.slice _) => some ⟨True, lit (.int .i64 n), []⟩
  | _, _ => none
theorem alen_sound (h : RelOf X A σ S st a w) {t : TypeId} {y : Operand} {e : E} (he : alen P st t y = some e) (ats : Array TypeId) (ty : TypeId) (hat : ats[0]? = some t) (vs : Array Value) (hvs : vs[0]? = some (a.eval y)) :
    Does P X A st e a w (do pure (.value (← Builtin.len_ ats ty vs))) := by
  have fin : ∀ n : Nat, (Builtin.len_ ats ty vs).run P w = .ok (.int .i64 n) w → Does P X A st ⟨True, lit (.int .i64 n), []⟩ a w (do pure (.value (← Builtin.len_ ats ty vs))) :=
    fun n hr => Does.value h hr (.one (.p (.lit _))) (.one trivial)
  unfold alen at he
  split at he
  · rename_i s hy hu
    cases he
    rw [lit_inv (ev_sound h hy).1 rfl] at hvs
    exact fin _ (by simp [Builtin.len_, hat, hvs, run_underlying hu, goInt])
  · rename_i ao n cap el hy hu
    cases he
    rw [lit_inv (ev_sound h hy).1 rfl] at hvs
    exact fin _ (by simp [Builtin.len_, hat, hvs, run_underlying hu, goInt])
  · rename_i els el hy hu
    cases he
    have hv := (ev_sound h hy).1
    generalize a.eval y = z at hv hvs
    cases hv with
    | one hv => cases hv with
      | p hv => cases hv with
        | nil a' cap => exact fin _ (by simp [Builtin.len_, hat, hvs, run_underlying hu, goInt])
        | sl _ k off sz n cap cf hn => rw [hn]; exact fin _ (by simp [Builtin.len_, hat, hvs, run_underlying hu, goInt])
  · rename_i b lo n el hy hu
    cases he
    have hv := (ev_sound h hy).1
    generalize a.eval y = z at hv hvs
    cases hv with
    | one hv => cases hv with
      | hs => exact fin _ (by simp [Builtin.len_, hat, hvs, run_underlying hu, goInt])
      | hs0 => exact fin 0 (by simp [Builtin.len_, hat, hvs, run_underlying hu, goInt])
  · cases he
/-! ### append -/
/-- The elements of what is appended, and whether they can be told. -/
def srcEls (st : St) : AV → Option (List (List PV) × Prop)
  | .one (.p (.sl els)) => some (els, True)
  | .one (.p (.lit (.slice none 0 _))) => some ([], True)
  | .one (.p (.lit (.string s))) => some (s.data.toList.map fun b => [.lit (.int .u8 b.toNat)], True)
  | .one (.hs b lo n) => match st.rd b with
    | some (.arr _ els) => some ((els.drop lo).take n, lo + n ≤ els.length)
    | _ => none
  | _ => none
/-- Cells that lie in a row, as a source of append. -/
theorem src_of (w : World) (S : Kx → Prop) (sz : Nat) (els : List (List PV)) (k off cap : Nat) (cf : Nat → Nat → Value) (hsz : ∀ (i : Nat) (el : List PV), els[i]? = some el → el.length = sz)
    (hc : ∀ (i : Nat) (el : List PV) (j : Nat) (x : PV), els[i]? = some el → el[j]? = some x → w.cell? ⟨k, off + (i * sz + j), none⟩ = some (cf i j) ∧ (cf i j).oneCell' = true)
    (hr : ∀ (i : Nat) (el : List PV) (j : Nat) (x : PV), els[i]? = some el → el[j]? = some x → RepP w S x (cf i j)) {tx e' : TypeId} (hk : P.underlying tx = some (.slice e')) :
    ∃ news, Src P sz tx (.slice (some ⟨k, off, none⟩) els.length cap) els.length news w ∧ ∀ (i : Nat) el, els[i]? = some el → el.length = sz ∧ ∀ (j : Nat) y, el[j]? = some y → ∃ v, news[i * sz + j]? = some v ∧ RepP w S y v := by
  have hin : ∀ m, m < els.length * sz → ∃ u, w.cell? ⟨k, off + m, none⟩ = some u ∧ u.oneCell' = true := by
    intro m hm
    have hs0 : 0 < sz := by rcases Nat.eq_zero_or_pos sz with q | q; · subst q; simp at hm
                            · exact q
    have hi : m / sz < els.length := Nat.div_lt_of_lt_mul (by rwa [Nat.mul_comm])
    have hel := List.getElem?_eq_getElem hi
    have hj : m % sz < (els[m / sz]).length := by rw [hsz _ _ hel]; exact Nat.mod_lt _ hs0
    obtain ⟨h1, h2⟩ := hc _ _ (m % sz) _ hel (List.getElem?_eq_getElem hj)
    rw [Nat.mul_comm, Nat.div_add_mod] at h1
    exact ⟨_, h1, h2⟩
  let news : List Value := (List.range (els.length * sz)).map fun m => (w.cell? ⟨k, off + m, none⟩).getD undef
  have hnl : news.length = els.length * sz := by simp [news]
  have hn : ∀ m u, news[m]? = some u → w.cell? ⟨k, off + m, none⟩ = some u ∧ u.oneCell' = true := by
    intro m u hm
    have hlt : m < els.length * sz := hnl ▸ (List.getElem?_eq_some_iff.1 hm).1
    obtain ⟨u', q1, q2⟩ := hin m hlt
    have : u = u' := by simp [news, List.getElem?_range hlt, q1] at hm; exact hm.symm
    subst this
    exact ⟨q1, q2⟩
  refine ⟨news, Src.ofSlice w hk ⟨k, off, none⟩ els.length cap news hnl (fun m u hm => by rw [Addr.add_plain]; exact (hn m u hm).1) (fun u hu => ?_), ?_⟩
  · obtain ⟨m, hm⟩ := List.mem_iff_getElem?.1 hu
    exact (hn m u hm).2
  · intro i el hi
    refine ⟨hsz i el hi, fun j y hj => ⟨cf i j, ?_, hr i el j y hi hj⟩⟩
    have hjl : j < sz := hsz i el hi ▸ (List.getElem?_eq_some_iff.1 hj).1
    have hil : i < els.length := (List.getElem?_eq_some_iff.1 hi).1
    have hlt : i * sz + j < els.length * sz := by
      have : (i + 1) * sz ≤ els.length * sz := Nat.mul_le_mul_right _ hil
      rw [Nat.add_mul, Nat.one_mul] at this
      omega
    simp [news, List.getElem?_range hlt, (hc i el j y hi hj).1]
/-- What append takes in, out of the state. -/
theorem srcEls_sound (h : RelOf X A σ S st a w) {y : Operand} {av : AV} (hy : ev st y = some av) {els : List (List PV)} {p : Prop} (hs : srcEls st av = some (els, p)) (hp : p) (sz : Nat) (hsz : ∀ el ∈ els, el.length = sz)
    {tx : TypeId} (hk : (∃ e', P.underlying tx = some (.slice e')) ∨ (P.underlying tx = some .string ∧ ∃ s, av = lit (.string s))) (hk1 : P.underlying tx = some .string → sz = 1)
    (hk2 : ∀ s, av = lit (.string s) → P.underlying tx = some .string) :
    ∃ news, Src P sz tx (a.eval y) els.length news w ∧ ∀ (i : Nat) el, els[i]? = some el → el.length = sz ∧ ∀ (j : Nat) z, el[j]? = some z → ∃ v, news[i * sz + j]? = some v ∧ RepP w S z v := by
  obtain ⟨hv, hA⟩ := ev_sound h hy
  have hall : ∀ (i : Nat) (el : List PV), els[i]? = some el → el.length = sz := fun i el hi => hsz el (List.mem_of_getElem? hi)
  have nilcase : ∀ (ao : Option Addr) (cap : Nat), els = [] → a.eval y = .slice ao 0 cap → (∃ e', P.underlying tx = some (.slice e')) → ∃ news, Src P sz tx (a.eval y) els.length news w ∧ ∀ (i : Nat) el, els[i]? = some el → el.length = sz ∧ ∀ (j : Nat) z, el[j]? = some z → ∃ v, news[i * sz + j]? = some v ∧ RepP w S z v := by
    intro ao cap e1 e2 ⟨e', hk⟩
    subst e1
    rw [e2]
    refine ⟨[], ?_, fun i el hi => by simp at hi⟩
    cases ao with
    | none => exact Src.ofNil w hk cap
    | some ad => exact Src.ofSlice w hk ad 0 cap [] (by simp) (fun j u hj => by simp at hj) (fun u hu => by cases hu)
  unfold srcEls at hs
  split at hs
  · rename_i els'
    cases hs
    have hk' : ∃ e', P.underlying tx = some (.slice e') := by rcases hk with q | ⟨_, s, q⟩; · exact q
                                                              · cases q
    generalize hz : a.eval y = z at hv nilcase ⊢
    cases hv with
    | one hv => cases hv with
      | p hv => cases hv with
        | nil a' cap => exact nilcase a' cap rfl rfl hk'
        | sl _ k off sz' n cap cf hn hcap hkS hsz' hc hr =>
          obtain ⟨e', hks⟩ := hk'
          subst hn
          by_cases hne : els = []
          · subst hne
            exact ⟨[], by exact Src.ofSlice w hks _ 0 cap [] (by simp) (fun j u hj => by simp at hj) (fun u hu => by cases hu), fun i el hi => by simp at hi⟩
          · have : sz' = sz := by
              obtain ⟨x, hx⟩ : ∃ x, els[0]? = some x := by cases els with | nil => exact absurd rfl hne | cons x _ => exact ⟨x, rfl⟩
              rw [← hsz' 0 x hx]; exact hall 0 x hx
            subst this
            exact src_of w S sz' els k off cap cf hsz' hc hr hks
  · rename_i cap
    cases hs
    have hk' : ∃ e', P.underlying tx = some (.slice e') := by rcases hk with q | ⟨_, s, q⟩; · exact q
                                                              · cases q
    exact nilcase none cap rfl (lit_inv hv rfl) hk'
  · rename_i s
    cases hs
    have hu := hk2 s rfl
    obtain rfl := hk1 hu
    rw [lit_inv hv rfl]
    have hl : (List.map (fun b : UInt8 => [PV.lit (.int .u8 b.toNat)]) s.data.toList).length = s.size := by simp
    rw [hl]
    refine ⟨byteCells s, Src.ofString w hu s, fun i el hi => ?_⟩
    rw [List.getElem?_map] at hi
    cases hb : s.data.toList[i]? with
    | none => simp [hb] at hi
    | some b =>
      simp only [hb, Option.map_some, Option.some.injEq] at hi
      subst hi
      refine ⟨rfl, fun j z hj => ?_⟩
      cases j with
      | succ j => simp at hj
      | zero =>
        simp at hj
        subst hj
        exact ⟨.int .u8 b.toNat, by simp only [byteCells, Nat.mul_one, Nat.add_zero, List.getElem?_map, hb, Option.map_some], .lit _⟩
  · rename_i b lo n
    split at hs
    · rename_i sz0 bels hr
      cases hs
      have hk' : ∃ e', P.underlying tx = some (.slice e') := by rcases hk with q | ⟨_, s, q⟩; · exact q
                                                                · cases q
      have hlen : ((bels.drop lo).take n).length = n := by simp; omega
      generalize hz : a.eval y = z at hv nilcase ⊢
      cases hv with
      | one hv => cases hv with
        | hs0 _ _ a' => exact nilcase a' 0 (by simp) rfl hk'
        | hs _ _ _ cap hcap hn =>
          obtain ⟨e', hks⟩ := hk'
          by_cases hn0 : n = 0
          · subst hn0
            refine ⟨[], ?_, fun i el hi => by simp at hi⟩
            rw [hlen]
            exact Src.ofSlice w hks _ 0 cap [] (by simp) (fun j u hj => by simp at hj) (fun u hu => by cases hu)
          · obtain ⟨c, ty, fr, g1, g0, g2, g3, _, g4, g5⟩ := h.blks b _ hr
            have hg : ∀ (i : Nat) (el : List PV), ((bels.drop lo).take n)[i]? = some el → bels[lo + i]? = some el := by
              intro i el hi
              rw [List.getElem?_take] at hi
              split at hi
              · rwa [List.getElem?_drop] at hi
              · cases hi
            have hsz' : (σ b).sz = sz := by
              have h0 : ((bels.drop lo).take n)[0]? = some (((bels.drop lo).take n)[0]'(by omega)) := List.getElem?_eq_getElem (by omega)
              rw [← hall 0 _ h0]; exact ((g5 _ _ (hg 0 _ h0)).1).symm
            rw [hlen]
            have := src_of (P := P) w S sz ((bels.drop lo).take n) (σ b).k (lo * (σ b).sz) cap (fun i j => (c[(lo + i) * (σ b).sz + j]?).getD undef) hall ?_ ?_ hks
            · rw [hlen] at this; exact this
            · intro i el j x hi hj
              obtain ⟨v, q1, q2⟩ := (g5 _ el (hg i el hi)).2 j x hj
              rw [World.cell_of g1, ← hsz', show lo * (σ b).sz + (i * (σ b).sz + j) = (lo + i) * (σ b).sz + j by rw [Nat.add_mul]; omega, q1]
              exact ⟨rfl, g3 v (Array.mem_of_getElem? q1)⟩
            · intro i el j x hi hj
              obtain ⟨v, q1, q2⟩ := (g5 _ el (hg i el hi)).2 j x hj
              rw [q1]
              exact q2
    · cases hs
  · cases hs
def baseEls (st : St) (sz : Nat) : AV → Option (List (List PV) × List (Nat × Option Blk) × Prop)
  | .one (.p (.lit (.slice none 0 0))) => some ([], [], True)
  | .one (.hs b lo n) => match st.rd b with
    | some (.arr sz' els) => if st.nl.n ≤ b then some (els, [(b, none)], lo = 0 ∧ n = els.length ∧ sz' = sz) else none
    | _ => none
  | _ => none
def aappend (P : Program) (st : St) (x : Nat) (t tx : TypeId) (y z : Operand) : Option E :=
  match ev st y, ev st z, P.underlying t, P.underlying tx with
  | some u, some v, some (.slice el), some d => match zeroOf P el with
    | none => none
    | some zs => match baseEls st zs.size u, srcEls st v with
    | some (els, ks, p), some (news, q) =>
      some ⟨p ∧ q ∧ (ks = [] → news ≠ []) ∧ (els.length + news.length) * (P.bytesOf el + 1) ≤ 140737488355328 ∧ P.cellsOf el = zs.size ∧ zs.size ≠ 0 ∧ zs.all (·.oneCell') = true ∧ (∀ el' ∈ news, el'.length = zs.size) ∧
        ((∃ e', d = .slice e') ∨ (d = .string ∧ ∃ s, v = lit (.string s))) ∧ (d = .string → zs.size = 1) ∧ (∀ s, v = lit (.string s) → d = .string),
        .one (.hs x 0 (els.length + news.length)), (x, some (.arr zs.size (els ++ news))) :: ks⟩
    | _, _ => none
  | _, _, _, _ => none
/-- The rest of a new row: noughts. -/
theorem zeroCells_size (z : Array Value) (n : Nat) : (Builtin.zeroCells z n).size = n * z.size := by simp [Builtin.zeroCells]
theorem zeroCells_one (z : Array Value) (n : Nat) (h : z.all (·.oneCell') = true) (hz : z.size ≠ 0) : ∀ v ∈ Builtin.zeroCells z n, v.oneCell' = true := zeros_all z (n * z.size) h hz
theorem els_append {els news : List (List PV)} {sz : Nat} {olds nw : List Value} (ho : olds.length = els.length * sz)
    (h1 : ∀ (i : Nat) el, els[i]? = some el → el.length = sz ∧ ∀ (j : Nat) y, el[j]? = some y → ∃ v, olds[i * sz + j]? = some v ∧ RepP w S y v)
    (h2 : ∀ (i : Nat) el, news[i]? = some el → el.length = sz ∧ ∀ (j : Nat) y, el[j]? = some y → ∃ v, nw[i * sz + j]? = some v ∧ RepP w S y v) (_ : nw.length = news.length * sz) :
    ∀ (i : Nat) el, (els ++ news)[i]? = some el → el.length = sz ∧ ∀ (j : Nat) y, el[j]? = some y → ∃ v, (olds ++ nw)[i * sz + j]? = some v ∧ RepP w S y v := by
  intro i el hi
  by_cases hlt : i < els.length
  · rw [List.getElem?_append_left hlt] at hi
    refine ⟨(h1 i el hi).1, fun j y hj => ?_⟩
    obtain ⟨v, q1, q2⟩ := (h1 i el hi).2 j y hj
    exact ⟨v, by rw [List.getElem?_append_left (List.getElem?_eq_some_iff.1 q1).1]; exact q1, q2⟩
  · rw [List.getElem?_append_right (by omega)] at hi
    refine ⟨(h2 _ el hi).1, fun j y hj => ?_⟩
    obtain ⟨v, q1, q2⟩ := (h2 _ el hi).2 j y hj
    have hge : els.length * sz ≤ i * sz := Nat.mul_le_mul_right _ (by omega)
    refine ⟨v, ?_, q2⟩
    rw [List.getElem?_append_right (by omega), ho, show i * sz + j - els.length * sz = (i - els.length) * sz + j by rw [Nat.sub_mul]; omega]
    exact q1
theorem RelOf.ext_bl (h : RelOf X A σ S st a w) {bl : List (Nat × Option Blk)} (hb : ∀ b, St.rd { st with bl := bl } b = st.rd b) : RelOf X A σ S { st with bl := bl } a w :=
  { h with
    blks := fun b k q => h.blks b k (hb b ▸ q)
    blA := fun b k q => h.blA b k (hb b ▸ q)
    apart := fun b b' k k' q q' => h.apart b b' k k' (hb b ▸ q) (hb b' ▸ q')
    notS := fun b k q => h.notS b k (hb b ▸ q)
    mine := fun b k q => h.mine b k (hb b ▸ q) }
theorem run_append_nothing (t tx ty e : TypeId) (i : TypeInfo) (ht : P.underlying t = some (.slice e)) (hi : P.info? e = some i) (base : Option Addr) (x : Value) (hs : Src P i.size tx x 0 [] w) :
    (Builtin.append_ #[t, tx] ty #[.slice base 0 0, x]).run P w = .ok (.slice base 0 0) w := by
  have hc := hs.cells
  rcases hs.kind with ⟨e', hk⟩ | hk <;> cases base <;> simp [Builtin.append_, run_underlying ht, run_underlying hk, sizeOf, typeInfo, hi, hs.len, hc, storeCells]
theorem aappend_sound (h : RelOf X A σ S st a w) {x : Nat} (hx : ¬ A x) {t tx ty : TypeId} {y z : Operand} {e : E} (he : aappend P st x t tx y z = some e) (hp : e.pre) :
    Does P X (fun b => A b ∨ b = x) st e a w (do pure (.value (← Builtin.append_ #[t, tx] ty #[a.eval y, a.eval z]))) := by
  unfold aappend at he
  split at he
  · rename_i u v el d hy hz hu hd
    split at he
    · cases he
    rename_i zs hzs
    split at he
    · rename_i els ks p news q hb hs
      cases he
      obtain ⟨hpp, hq, hne, hbd, h3, h4, h5, hnew, hk, hk1, hk2⟩ := hp
      obtain ⟨zv, hzc, hzr⟩ := run_zeroValue' hzs
      obtain ⟨i, z', hi, hz', hzc', his, hib⟩ : ∃ i z', P.info? el = some i ∧ i.zero = some z' ∧ z'.cells = zs ∧ i.size = zs.size ∧ i.bytes = P.bytesOf el := by
        unfold zeroOf at hzs
        cases hi : P.info? el with
        | none => simp [hi] at hzs
        | some i =>
          cases hzz : i.zero with
          | none => simp [hi, hzz] at hzs
          | some z' => exact ⟨i, z', rfl, hzz, by simpa [hi, hzz] using hzs, by rw [← h3]; simp [Program.cellsOf, hi], by simp [Program.bytesOf, hi]⟩
      have hkd : (∃ e', P.underlying tx = some (.slice e')) ∨ (P.underlying tx = some .string ∧ ∃ s, v = lit (.string s)) := by
        rcases hk with ⟨e', rfl⟩ | ⟨rfl, q⟩
        · exact .inl ⟨e', hd⟩
        · exact .inr ⟨hd, q⟩
      obtain ⟨nw, hsrc, hnw⟩ := srcEls_sound (P := P) h hz hs hq zs.size hnew hkd (fun q => hk1 (by rw [hd] at q; exact Option.some.inj q)) (fun s q => by rw [hd, hk2 s q])
      have hnl := hsrc.newsLen
      -- growing, whatever the base
      have grow : ∀ (st1 : St) (_ : RelOf X A σ S st1 a w) (base : Option Addr) (sCap : Nat) (olds : List Value)
          (_ : (Builtin.firstCells zs.size els.length (.slice base els.length sCap)).run P w.drew = .ok olds.toArray w.drew) (_ : olds.length = els.length * zs.size) (_ : ∀ o ∈ olds, o.oneCell' = true)
          (_ : ∀ (i : Nat) el, els[i]? = some el → el.length = zs.size ∧ ∀ (j : Nat) y, el[j]? = some y → ∃ v, olds[i * zs.size + j]? = some v ∧ RepP w S y v) (_ : sCap < els.length + news.length),
          ∃ v' w' σ' S', (Builtin.append_ #[t, tx] ty #[.slice base els.length sCap, a.eval z]).run P w = .ok v' w' ∧ RelOf X (fun b => A b ∨ b = x) σ' S' { st1 with bl := (x, some (.arr zs.size (els ++ news))) :: st1.bl } a w' ∧
            RepC w' S' σ' (.hs x 0 (els.length + news.length)) v' := by
        intro st1 h1 base sCap olds hold hol hoo hor hg
        have hbytes : (els.length + news.length) * P.bytesOf el ≤ 140737488355328 ∧ els.length + news.length ≤ 140737488355328 := by
          rw [Nat.mul_add, Nat.mul_one] at hbd; omega
        have hrun := run_append_grow_src (P := P) w t tx ty el i z' hu hi hz' base els.length sCap olds (by rw [his]; exact hold) (a.eval z) news.length nw (by rw [his]; exact hsrc) hg (by omega) (growslice_fits hg (by rw [hib]; exact hbytes.1))
        have hgc : els.length + news.length ≤ grownCap w (els.length + news.length) sCap el := by unfold grownCap; simp only [Question.cut]; omega
        rw [hzc'] at hrun
        have hlen2 : (els ++ news).length = els.length + news.length := List.length_append
        have hcell : ((olds ++ nw).toArray ++ Builtin.zeroCells zs (grownCap w (els.length + news.length) sCap el - (els.length + news.length))).size = grownCap w (els.length + news.length) sCap el * zs.size := by
          rw [Array.size_append, zeroCells_size]
          simp only [List.size_toArray, List.length_append, hol, hnl]
          rw [← Nat.add_mul, ← Nat.add_mul]
          congr 1
          omega
        have hrow : ∀ (m : Nat) el', (els ++ news)[m]? = some el' → el'.length = zs.size ∧ ∀ (j : Nat) y, el'[j]? = some y → ∃ v, ((olds ++ nw).toArray ++ Builtin.zeroCells zs (grownCap w (els.length + news.length) sCap el - (els.length + news.length)))[m * zs.size + j]? = some v ∧ RepP w.drew S y v := by
          intro m el' hm
          obtain ⟨q1, q2⟩ := els_append hol hor hnw hnl m el' hm
          refine ⟨q1, fun j y hj => ?_⟩
          obtain ⟨v, q3, q4⟩ := q2 j y hj
          refine ⟨v, ?_, q4.drew⟩
          rw [Array.getElem?_append_left (by have := (List.getElem?_eq_some_iff.1 q3).1; simpa using this)]
          simpa using q3
        have hone : ∀ o ∈ (olds ++ nw).toArray ++ Builtin.zeroCells zs (grownCap w (els.length + news.length) sCap el - (els.length + news.length)), o.oneCell' = true := by
          intro o ho
          rcases Array.mem_append.1 ho with ho | ho
          · rcases List.mem_append.1 (by simpa using ho) with ho | ho
            · exact hoo o ho
            · exact hsrc.one o ho
          · exact zeroCells_one zs _ h5 h4 o ho
        obtain ⟨σ', g1, g2⟩ := new_arr h1.drew x hx el (els ++ news) zs.size (grownCap w (els.length + news.length) sCap el) (0, 0) _ (by intro o _; simp) hcell (by rw [hlen2]; exact hgc) hrow hone
        refine ⟨_, _, σ', S, hrun, g1, ?_⟩
        rw [hlen2] at g2
        exact g2
      unfold baseEls at hb
      split at hb
      · cases hb
        obtain ⟨hv, hA⟩ := ev_sound h hy
        rw [lit_inv hv rfl]
        have hnn : news ≠ [] := hne rfl
        have hpos : 0 < news.length := List.length_pos_iff.2 hnn
        obtain ⟨v', w', σ', S', g1, g2, g3⟩ := grow st h none 0 [] (run_firstCells_none w.drew zs.size 0 0 0) (by simp) (fun o ho => by cases ho) (fun i el hi => by simp at hi) (by simpa using hpos)
        exact ⟨.value v', v', w', σ', S', by rw [Sem.run_bind]; have g1' := g1; simp only [List.length_nil] at g1'; rw [g1']; rfl, .inl rfl, g2, .one g3, .one (.inr rfl)⟩
      · rename_i b lo n
        split at hb
        · rename_i sz' bels hr
          split at hb
          · rename_i hnl'
            cases hb
            obtain ⟨rfl, rfl, rfl⟩ := hpp
            obtain ⟨hv, hA⟩ := ev_sound h hy
            have hk0 := h.kill b
            have fin : ∀ {pre : Prop} {v' w' σ' S'}, (Builtin.append_ #[t, tx] ty #[a.eval y, a.eval z]).run P w = .ok v' w' → RelOf X (fun b => A b ∨ b = x) σ' S' { st with bl := (x, some (.arr zs.size (els ++ news))) :: (b, none) :: st.bl } a w' →
                RepC w' S' σ' (.hs x 0 (els.length + news.length)) v' → Does P X (fun b => A b ∨ b = x) st ⟨pre, .one (.hs x 0 (els.length + news.length)), (x, some (.arr zs.size (els ++ news))) :: [(b, none)]⟩ a w (do pure (.value (← Builtin.append_ #[t, tx] ty #[a.eval y, a.eval z]))) :=
              fun {_ v' w' σ' S'} g1 g2 g3 => ⟨.value v', v', w', σ', S', by rw [Sem.run_bind, g1]; rfl, .inl rfl, g2, .one g3, .one (.inr rfl)⟩
            generalize a.eval y = vy at hv fin ⊢
            cases hv with
            | one hv => 
              generalize hlen : els.length = n at hv
              cases hv with
              | hs0 _ _ a' =>
                have e0 : els = [] := List.length_eq_zero_iff.1 hlen
                subst e0
                by_cases hn0 : news = []
                · subst hn0
                  have hnw0 : nw = [] := List.length_eq_zero_iff.1 (by simpa using hnl)
                  subst hnw0
                  have hrun := run_append_nothing (P := P) t tx ty el i hu hi a' (a.eval z) (by rw [his]; exact hsrc)
                  exact fin hrun (h.rename b x _ hr hx hnl') (.hs0 _ _ _)
                · have hfc : (Builtin.firstCells zs.size 0 (.slice a' 0 0)).run P w.drew = .ok ([] : List Value).toArray w.drew := by
                    cases a' with
                    | none => exact run_firstCells_none w.drew zs.size 0 0 0
                    | some ad => exact run_firstCells_some w.drew zs.size 0 ad 0 0 [] (by simp) (fun j u hj => by simp at hj)
                  obtain ⟨v', w', σ', S', g1, g2, g3⟩ := grow _ hk0 a' 0 [] hfc (by simp) (fun o ho => by cases ho) (fun i el hi => by simp at hi) (by simpa using List.length_pos_iff.2 hn0)
                  exact fin g1 g2 g3
              | hs _ _ _ cap hcap hn =>
                subst hlen
                have hblk := h.blks b _ hr
                obtain ⟨c, ty', fr, g1, g0, g2, g3, hszb, g4, g5⟩ := hblk
                have hall : ∀ (i : Nat) (el : List PV), els[i]? = some el → el.length = zs.size := fun i el hi => (g5 i el hi).1.trans hszb
                have hcf : ∀ (i : Nat) (el : List PV) (j : Nat) (x : PV), els[i]? = some el → el[j]? = some x → w.cell? ⟨(σ b).k, 0 * (σ b).sz + (i * zs.size + j), none⟩ = some ((c[i * zs.size + j]?).getD undef) ∧ ((c[i * zs.size + j]?).getD undef).oneCell' = true := by
                  intro i el j x hi hj
                  obtain ⟨v, q1, q2⟩ := (g5 i el hi).2 j x hj
                  rw [hszb] at q1
                  rw [World.cell_of g1, Nat.zero_mul, Nat.zero_add, q1]
                  exact ⟨rfl, g3 v (Array.mem_of_getElem? q1)⟩
                have hrf : ∀ (i : Nat) (el : List PV) (j : Nat) (x : PV), els[i]? = some el → el[j]? = some x → RepP w S x ((c[i * zs.size + j]?).getD undef) := by
                  intro i el j x hi hj
                  obtain ⟨v, q1, q2⟩ := (g5 i el hi).2 j x hj
                  rw [hszb] at q1
                  rw [q1]
                  exact q2
                obtain ⟨olds, hos, hor⟩ := src_of (P := P) w S zs.size els (σ b).k (0 * (σ b).sz) cap _ hall hcf hrf (tx := t) hu
                by_cases hroom : els.length + news.length ≤ cap
                · have hfit : els.length * zs.size + nw.length ≤ c.size := by
                    rw [g2, hnl, ← Nat.add_mul, hszb]
                    exact Nat.mul_le_mul_right _ (by omega)
                  have hrun := run_append_room_src (P := P) w t tx ty el i hu hi (σ b).k (0 * (σ b).sz) els.length cap (a.eval z) news.length nw (by rw [his]; exact hsrc) hroom
                    (by intro j hj; rw [his, World.cell_of g1, Array.getElem?_eq_getElem (by omega)]; rfl) (by intro j hj; rw [his, World.frozen_of g1]; exact g0 _ (by omega))
                  rw [his, Nat.zero_mul, Nat.zero_add] at hrun
                  have hset := setCells_os (σ b).k nw (els.length * zs.size) w
                  have hS : ∀ k, S k → (w.setCells (σ b).k (els.length * zs.size) nw).heap[k.b]? = w.heap[k.b]? := fun k hk => setCells_other _ _ _ _ _ (fun e => h.notS b _ hr k hk e)
                  have hnb : BlkRep (w.setCells (σ b).k (els.length * zs.size) nw) S σ b (.arr zs.size (els ++ news)) := by
                    refine ⟨_, ty', fr, setCells_heap _ ty' fr nw _ c w g1, ?_, ?_, ?_, hszb, ?_, ?_⟩
                    · intro o ho; rw [spl_size] at ho; exact g0 o ho
                    · rw [spl_size]; exact g2
                    · intro v hv
                      obtain ⟨m, hm⟩ := Array.mem_iff_getElem?.1 hv
                      rw [spl_get _ _ _ _ hfit] at hm
                      split at hm
                      · exact hsrc.one v (List.mem_of_getElem? hm)
                      · exact g3 v (Array.mem_of_getElem? hm)
                    · rw [List.length_append]; omega
                    · intro m el' hm
                      by_cases hlt : m < els.length
                      · rw [List.getElem?_append_left hlt] at hm
                        refine ⟨(g5 m el' hm).1, fun j q hj => ?_⟩
                        obtain ⟨v, q1, q2⟩ := (g5 m el' hm).2 j q hj
                        have hjl : j < zs.size := hall m el' hm ▸ (List.getElem?_eq_some_iff.1 hj).1
                        have : (m + 1) * zs.size ≤ els.length * zs.size := Nat.mul_le_mul_right _ hlt
                        rw [Nat.add_mul, Nat.one_mul] at this
                        refine ⟨v, ?_, q2.mono hS (fun _ q => q)⟩
                        rw [spl_get _ _ _ _ hfit, if_neg (by rw [hszb]; omega)]
                        exact q1
                      · rw [List.getElem?_append_right (by omega)] at hm
                        refine ⟨(hnw _ el' hm).1.trans hszb.symm, fun j q hj => ?_⟩
                        obtain ⟨v, q1, q2⟩ := (hnw _ el' hm).2 j q hj
                        have hge : els.length * zs.size ≤ m * zs.size := Nat.mul_le_mul_right _ (by omega)
                        have hlt2 := (List.getElem?_eq_some_iff.1 q1).1
                        have hsub : (m - els.length) * zs.size = m * zs.size - els.length * zs.size := Nat.sub_mul _ _ _
                        refine ⟨v, ?_, q2.mono hS (fun _ q => q)⟩
                        rw [spl_get _ _ _ _ hfit, hszb, if_pos (by omega), show m * zs.size + j - els.length * zs.size = (m - els.length) * zs.size + j by omega]
                        exact q1
                  have hw1 := h.write b _ (.arr zs.size (els ++ news)) hr trivial hset.1 hset.2.1 hset.2.2 (setCells_size _ _ _ _) (fun k hk => setCells_other _ _ _ _ _ hk) hnb
                  have hrd : St.rd { st with bl := (b, some (.arr zs.size (els ++ news))) :: st.bl } b = some (.arr zs.size (els ++ news)) := by rw [St.rd_cons, if_pos rfl]
                  have hw2 := hw1.rename b x _ hrd hx hnl'
                  have hbx : x ≠ b := fun e => hx (e ▸ (h.blA b _ hr).2)
                  have hw3 := hw2.ext_bl (bl := (x, some (.arr zs.size (els ++ news))) :: (b, none) :: st.bl) (by
                    intro q
                    simp only [St.rd, lk]
                    by_cases e1 : x = q
                    · rw [if_pos e1, if_pos e1]
                    · rw [if_neg e1, if_neg e1]
                      by_cases e2 : b = q
                      · rw [if_pos e2, if_pos e2]
                      · rw [if_neg e2, if_neg e2, if_neg e2])
                  refine fin (by rw [Nat.zero_mul]; exact hrun) hw3 ?_
                  have := RepC.hs (w := w.setCells (σ b).k (els.length * zs.size) nw) (S := S) (σ := upd σ x (σ b)) x 0 (els.length + news.length) cap (by rw [upd_self]; omega) hroom
                  rw [upd_self, Nat.zero_mul] at this
                  exact this
                · obtain ⟨v', w', σ', S', r1, r2, r3⟩ := grow _ hk0 (some ⟨(σ b).k, 0 * (σ b).sz, none⟩) cap olds (by have := hos.cellsD; exact this) hos.newsLen hos.one hor (by omega)
                  exact fin r1 r2 r3
          · cases hb
        · cases hb
      · cases hb
    · cases he
  · cases he
end Go.Abs
