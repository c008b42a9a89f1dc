import Derived.Test.YtmieklaakjabaaaGreatGAbs10
set_option linter.unusedSimpArgs false
set_option linter.unusedVariables false
namespace Go.Abs
open Go Go.RowKit
variable {P : Program} {X : Ctx} {A A' : Nat → Prop} {σ : Nat → Loc} {S : Kx → Prop} {st : St} {a : Act} {w w' : World}
def St.aft (st : St) (dst : Option Tmp) (v : AV) (wr : List (Nat × Option Blk)) : St := { st with tm := (dst.toList.map fun d => (d, v)) ++ st.tm, bl := wr ++ st.bl }
theorem RelA.weak (h : RelA X A st a w) (hA : ∀ b, A b → A' b) : RelA X A' st a w := let ⟨σ, S, h⟩ := h; ⟨σ, S, h.weakA hA⟩
/-- One operation, from state to state. -/
def OX (P : Program) (A A' : Nat → Prop) (o : Oper) (st st' : St) : Prop :=
  ∀ X a w, RelA X A st a w → ∀ (next : Act → World → Prop) (Q : Exit → Act → World → Prop), (∀ a' w', RelA X A' st' a' w' → next a' w') → o.wp P a w next Q
def dstOk (st : St) (o : Oper) : Prop := ∀ d, o.dst = some d → d < st.nt
theorem ox_op {x : Nat} (hx : ∀ b, x ≤ b → b < x + 8 → ¬ A b) {o : Oper} {e : E} (he : aop P st x o = some e) (hp : e.pre) (hd : dstOk st o) : OX P A (slots A x) o st (st.aft o.dst e.v e.wr) := by
  intro X a w ⟨σ, S, h⟩ next Q hn
  exact ((aop_sound h (hx x (Nat.le_refl _) (by omega)) he hp).weak (A' := slots A x) (fun b hb => hb.elim .inl (fun e => .inr (by omega)))).wp hd hn
def callOf (st : St) (c : Call) : Option (FuncId × List AV) :=
  match c.callee with
  | .value g => match ev st g, evs st c.args.toList with
    | some (.clo f caps), some avs => some (f, avs ++ caps.map .one)
    | _, _ => none
  | _ => none
theorem ones_rep {cs : List AC} {vs : Array Value} (h : ∀ (i : Nat) c v, cs[i]? = some c → vs[i]? = some v → RepC w S σ c v) : ∀ (i : Nat) v u, (cs.map AV.one)[i]? = some v → vs.toList[i]? = some u → RepV w S σ v u := by
  intro i v u h1 h2
  rw [List.getElem?_map] at h1
  cases hc : cs[i]? with
  | none => simp [hc] at h1
  | some c => simp only [hc, Option.map_some, Option.some.injEq] at h1; subst h1; exact .one (h i c u hc (by simpa using h2))
theorem callOf_sound (h : RelOf X A σ S st a w) {o : Oper} {c : Call} (ho : o.op = .call c) {f : FuncId} {avs : List AV} (hc : callOf st c = some (f, avs)) (hf : Callable P f) :
    ∃ vs : Array Value, (execOp a.eval o).run P w = .ok (.enter f vs) w ∧ avs.length = vs.toList.length ∧ ∀ (i : Nat) v u, avs[i]? = some v → vs.toList[i]? = some u → RepV w S σ v u := by
  unfold callOf at hc
  split at hc
  · rename_i g hg
    split at hc
    · rename_i f' caps avs' hv hvs
      simp only [Option.some.injEq, Prod.mk.injEq] at hc
      obtain ⟨rfl, rfl⟩ := hc
      obtain ⟨hr, _⟩ := ev_sound h hv
      obtain ⟨g1, g2, _⟩ := evs_sound h hvs
      generalize hz : a.eval g = z at hr
      cases hr with
      | clo _ _ ws hl hh =>
        refine ⟨c.args.map a.eval ++ ws, ?_, ?_, ?_⟩
        · simp only [execOp, ho, resolve, hg, hz, Deferred.ofValue, Sem.run_bind, Sem.run_pure, Result.andThen_ok, invoke, Array.empty_append]
          exact hf _ w
        · simp [hl, g1]
        · intro i v u h1 h2
          rw [Array.toList_append] at h2
          by_cases hlt : i < avs'.length
          · rw [List.getElem?_append_left hlt] at h1
            rw [List.getElem?_append_left (by rw [Array.toList_map]; simpa [g1] using hlt)] at h2
            exact g2 i v u h1 (by rw [Array.toList_map] at h2; exact h2)
          · rw [List.getElem?_append_right (by omega)] at h1
            rw [List.getElem?_append_right (by rw [Array.toList_map]; simp at g1 ⊢; omega)] at h2
            have e1 : (Array.map a.eval c.args).toList.length = avs'.length := by rw [Array.toList_map]; exact g1.symm
            rw [e1] at h2
            exact ones_rep hh _ v u h1 h2
    · cases hc
  · cases hc
theorem ox_call {x : Nat} (hno : st.nl.own = none) (hx : ∀ b, x ≤ b → b < x + 8 → ¬ A b) {o : Oper} {c : Call} (ho : o.op = .call c) {f : FuncId} {avs cargs : List AV} (hc : callOf st c = some (f, avs)) (hf : Callable P f)
    (Ls bor : List Nat) (p : Prop) (hpass : passVs st Ls avs = some (cargs, bor, p)) (hp : p) (hnd : Ls.Nodup) (lent : List Blk) (hlent : rds st Ls = some lent) (hplain : ∀ blk ∈ lent, blk.inA (fun _ => False))
    (r : AV) (out : List Blk) (hgood : Good P f cargs lent r out) (hol : out.length ≤ Ls.length + 8) (kl : Bool)
    (hkl : match kl with | true => ∀ b ∈ bor, st.nl.n ≤ b | false => bor = [] ∨ (r.NoSl ∧ ∀ k ∈ out, k.noSl)) (hd : dstOk st o) :
    OX P A (slots A x) o st (st.aft o.dst (r.ren (backN Ls x)) (backB Ls x 0 out ++ (if kl = true then killB bor else []))) := by
  intro X a w ⟨σ, S, h⟩ next Q hn
  obtain ⟨vs, hrun, hl, hrep⟩ := callOf_sound h ho hc hf
  unfold Oper.wp
  rw [hrun, Oper.upon_enter]
  refine (call_sound h (by rw [← h.nl]; exact hno) x hx hl hrep Ls bor p hpass hp hnd lent hlent hplain r out hgood hol kl hkl).mono ?_
  rintro en w' ⟨v, rfl, σ', S', g1, g2, g3⟩
  have := g1.put o.dst _ v g2 g3 hd
  refine hn _ _ ⟨σ', S', ?_⟩
  unfold St.aft
  rw [List.append_assoc]
  exact this
theorem ox_own {x : Nat} (hno : st.nl.own ≠ none) (hx : ∀ b, x ≤ b → b < x + 8 → ¬ A b) {o : Oper} {c : Call} (ho : o.op = .call c) {f : FuncId} {avs cargs : List AV} (hc : callOf st c = some (f, avs)) (hf : Callable P f)
    (bor : List Nat) (p : Prop) (hpass : passVs st [] avs = some (cargs, bor, p)) (hp : p) (fargs : List AV) (hF : FgtVs cargs fargs)
    (r : AV) (out : List Blk) (hgood : GoodO true P f fargs [] r out) (hol : out.length ≤ 8) (hk1 : r.NoSl) (hk2 : ∀ k ∈ out, k.noSl) (hd : dstOk st o) :
    OX P A (slots A x) o st (st.aft o.dst (r.ren (backN [] x)) (backB [] x 0 out)) := by
  intro X a w ⟨σ, S, h⟩ next Q hn
  obtain ⟨vs, hrun, hl, hrep⟩ := callOf_sound h ho hc hf
  unfold Oper.wp
  rw [hrun, Oper.upon_enter]
  refine (call_own h (by rw [← h.nl]; exact hno) x hx hl hrep bor p hpass hp fargs hF r out hgood hol hk1 hk2).mono ?_
  rintro en w' ⟨v, rfl, σ', S', g1, g2, g3⟩
  have := g1.put o.dst _ v g2 g3 hd
  exact hn _ _ ⟨σ', S', this⟩
theorem ox_frz {x : Nat} (hx : ∀ b, x ≤ b → b < x + 8 → ¬ A b) {o : Oper} {c : Call} (ho : o.op = .call c) {f : FuncId} {avs cargs : List AV} (hc : callOf st c = some (f, avs)) (hf : Callable P f)
    (p : Prop) (hpass : passVs st [] avs = some (cargs, [], p)) (hp : p) (hno : ∀ c ∈ cargs, c.nOwn = true)
    (r : AV) (out : List Blk) (hgood : Good P f cargs [] r out) (hol : out.length ≤ 8) (hd : dstOk st o) :
    OX P A (slots A x) o st (st.aft o.dst (r.ren (backN [] x)) (backB [] x 0 out)) := by
  intro X a w ⟨σ, S, h⟩ next Q hn
  obtain ⟨vs, hrun, hl, hrep⟩ := callOf_sound h ho hc hf
  unfold Oper.wp
  rw [hrun, Oper.upon_enter]
  refine (call_frz h x hx hl hrep p hpass hp hno r out hgood hol).mono ?_
  rintro en w' ⟨v, rfl, σ', S', g1, g2, g3⟩
  have := g1.put o.dst _ v g2 g3 hd
  exact hn _ _ ⟨σ', S', this⟩
/-- No block has a cell with these tags, but those of Ls. -/
def noTB (T Ls : List Nat) : List (Nat × Option Blk) → Prop
  | [] => True
  | (b, some k) :: l => (Ls.contains b = true ∨ k.noT T) ∧ noTB T Ls l
  | (_, none) :: l => noTB T Ls l
theorem noTB_rd {T Ls : List Nat} : ∀ {l : List (Nat × Option Blk)}, noTB T Ls l → ∀ b blk, (lk l b).join = some blk → b ∉ Ls → blk.noT T
  | [], _, b, blk, h, _ => by simp [lk] at h
  | (c, o) :: l, hn, b, blk, h, hb => by
    simp only [lk] at h
    by_cases e : c = b
    · rw [if_pos e] at h
      cases o with
      | none => simp at h
      | some k =>
        simp only [Option.join_some, Option.some.injEq] at h
        subst h
        exact hn.1.resolve_left fun q => hb (e ▸ List.contains_iff_mem.1 q)
    · rw [if_neg e] at h
      cases o with
      | none => exact noTB_rd (l := l) hn b blk h hb
      | some k => exact noTB_rd hn.2 b blk h hb
theorem noTm {T : List Nat} : ∀ {l : List (Nat × AV)}, l.all (fun q => q.2.noT T) = true → ∀ t av, lk l t = some av → av.noT T = true
  | [], _, t, av, h => by simp [lk] at h
  | (c, v) :: l, hn, t, av, h => by
    simp only [List.all_cons, Bool.and_eq_true] at hn
    simp only [lk] at h
    by_cases e : c = t
    · rw [if_pos e] at h; cases h; exact hn.1
    · rw [if_neg e] at h; exact noTm hn.2 t av h
theorem ox_mark {x : Nat} (hno : st.nl.own ≠ none) (htg : st.nl.tg = []) (hx : ∀ b, x ≤ b → b < x + 8 → ¬ A b) {o : Oper} {c : Call} (ho : o.op = .call c) {f : FuncId} {avs cargs : List AV} (hc : callOf st c = some (f, avs)) (hf : Callable P f)
    (Ls : List Nat) (p : Prop) (hpass : passVs st Ls avs = some (cargs, [], p)) (hp : p) (hnd : Ls.Nodup) (lent : List Blk) (hlent : rds st Ls = some lent) (harr : ∀ blk ∈ lent, ∃ sz els, blk = .arr sz els)
    (T : List Nat) (hnc : ∀ c ∈ cargs, c.nOwnH = true) (hlT : ∀ blk ∈ lent, blk.inT T) (hTm : st.tm.all (fun q => q.2.noT T) = true) (hTb : noTB T Ls st.bl)
    (r : AV) (out : List Blk) (hgood : GoodM P f cargs lent r out) (hol : out.length ≤ Ls.length + 8) (hd : dstOk st o) :
    OX P A (slots A x) o st (st.aft o.dst (r.ren (backN Ls x)) (backB Ls x 0 out)) := by
  intro X a w ⟨σ, S, h⟩ next Q hn
  obtain ⟨vs, hrun, hl, hrep⟩ := callOf_sound h ho hc hf
  unfold Oper.wp
  rw [hrun, Oper.upon_enter]
  refine (call_mark h (by rw [← h.nl]; exact htg) (by rw [← h.nl]; exact hno) x hx hl hrep Ls p hpass hp hnd lent hlent harr T hnc hlT (noTm hTm) (noTB_rd hTb) r out hgood hol).mono ?_
  rintro en w' ⟨v, rfl, σ', S', g1, g2, g3⟩
  have := g1.put o.dst _ v g2 g3 hd
  exact hn _ _ ⟨σ', S', this⟩
theorem ox_lend {x : Nat} (hno : st.nl.own ≠ none) (hx : ∀ b, x ≤ b → b < x + 8 → ¬ A b) {o : Oper} {c : Call} (ho : o.op = .call c) {f : FuncId} {avs cargs : List AV} (hc : callOf st c = some (f, avs)) (hf : Callable P f)
    (Ls : List Nat) (p : Prop) (hpass : passVs st Ls avs = some (cargs, [], p)) (hp : p) (hnd : Ls.Nodup) (lent : List Blk) (hlent : rds st Ls = some lent) (hnc : ∀ c ∈ cargs, c.nOwnH = true) (hlT : ∀ blk ∈ lent, blk.nOwn)
    (r : AV) (out : List Blk) (hgood : Good P f cargs lent r out) (hol : out.length ≤ Ls.length + 8) (hd : dstOk st o) :
    OX P A (slots A x) o st (st.aft o.dst (r.ren (backN Ls x)) (backB Ls x 0 out)) := by
  intro X a w ⟨σ, S, h⟩ next Q hn
  obtain ⟨vs, hrun, hl, hrep⟩ := callOf_sound h ho hc hf
  unfold Oper.wp
  rw [hrun, Oper.upon_enter]
  refine (call_lend h (by rw [← h.nl]; exact hno) x hx hl hrep Ls p hpass hp hnd lent hlent hnc hlT r out hgood hol).mono ?_
  rintro en w' ⟨v, rfl, σ', S', g1, g2, g3⟩
  have := g1.put o.dst _ v g2 g3 hd
  exact hn _ _ ⟨σ', S', this⟩
/-- What is told of a row's cells, once the row is written. -/
def Told (e : Ex) (rs' : List Int) (els els' : List (List PV)) : Prop := els'.length = els.length ∧ ∀ (i : Nat) el', els'[i]? = some el' → ∃ el, els[i]? = some el ∧ el'.length = el.length ∧ ∀ (j : Nat) x', el'[j]? = some x' → el[j]? = some x' ∨ (el[j]? = some (.lit e.v) ∧ x' = .own e.t (rs'.map eIx))
/-- The contract of what writes a row. -/
structure RowC (P : Program) (f : FuncId) (n : Nat) (y : Value) (rs' : List Int) (r : Value) : Prop where
  len : rs'.length = n
  g : ∀ rs : List Int, rs.length = n → Good P f [.one (.hs 0 0 n), lit y] [.arr 1 (rs.map eIx)] (lit r) [.arr 1 (rs'.map eIx)]
  g0 : n = 0 → Good P f [.one (.p (.sl [])), lit y] [] (lit r) []
theorem ox_row {x : Nat} {o : Oper} {c : Call} (ho : o.op = .call c) {f : FuncId} (e : Ex) (y : Value) (hc : callOf st c = some (f, [lit e.v, lit y])) (hf : Callable P f)
    (he : e ∈ st.nl.tg) (huniq : ∀ e' ∈ st.nl.tg, e'.k = e.k → e' = e) (hTm : st.tm.all (fun q => q.2.noT [e.t]) = true) (hTb : noTB [e.t] [] st.bl) (b0 sz : Nat) (els els' : List (List PV)) (hb0 : st.rd b0 = some (.arr sz els)) (rs' : List Int) (ht : Told e rs' els els')
    (r : Value) (hg : RowC P f e.n y rs' r) (hd : dstOk st o) : OX P A (slots A x) o st (st.aft o.dst (lit r) [(b0, some (.arr sz els'))]) := by
  intro X a w ⟨σ, S, h⟩ next Q hn
  obtain ⟨vs, hrun, hl, hrep⟩ := callOf_sound h ho hc hf
  unfold Oper.wp
  rw [hrun, Oper.upon_enter]
  have hvs : vs = #[e.v, y] := by
    apply Array.ext'
    apply List.ext_getElem?
    intro i
    rcases i with _ | _ | i
    · have hlt : 0 < vs.toList.length := by rw [← hl]; exact Nat.zero_lt_succ _
      have := lit_inv (hrep 0 _ _ rfl (List.getElem?_eq_getElem hlt)) rfl
      rw [List.getElem?_eq_getElem hlt, this]; rfl
    · have hlt : 1 < vs.toList.length := by rw [← hl]; exact Nat.lt_succ_self _
      have := lit_inv (hrep 1 _ _ rfl (List.getElem?_eq_getElem hlt)) rfl
      rw [List.getElem?_eq_getElem hlt, this]; rfl
    · rw [List.getElem?_eq_none (by rw [← hl]; simp), List.getElem?_eq_none (by simp)]
  refine (call_row h x e (by rw [← h.nl]; exact he) (by rw [← h.nl]; exact huniq) y hvs (noTm hTm) (fun b blk hb => noTB_rd hTb b blk hb (by simp)) b0 sz els els' hb0 rs' hg.len ht.1 ht.2 r hg.g hg.g0).mono ?_
  rintro en w' ⟨v, rfl, σ', S', g1, g2, g3⟩
  have := g1.put o.dst _ v g2 g3 hd
  exact hn _ _ ⟨σ', S', this⟩
theorem ox_eat {x : Nat} (hx : ∀ b, x ≤ b → b < x + 8 → ¬ A b) {o : Oper} {c : Call} (ho : o.op = .call c) {f : FuncId} {avs cargs : List AV} (hc : callOf st c = some (f, avs)) (hf : Callable P f)
    (Ls bor : List Nat) (p : Prop) (hpass : passVs st Ls avs = some (cargs, bor, p)) (hp : p) (hnd : Ls.Nodup) (lent : List Blk) (hlent : rds st Ls = some lent) (hplain : ∀ blk ∈ lent, blk.inA (fun _ => False))
    (m sz : Nat) (els : List (List PV)) (hgood : GoodE P f cargs lent m sz els) (hb : bor = []) (hLn : ∀ b ∈ Ls, st.nl.n ≤ b) (hd : dstOk st o) :
    OX P A (slots A x) o st (st.aft o.dst (.one (.hs x 0 m)) ((x, some (.arr sz els)) :: killB Ls)) := by
  intro X a w ⟨σ, S, h⟩ next Q hn
  obtain ⟨vs, hrun, hl, hrep⟩ := callOf_sound h ho hc hf
  unfold Oper.wp
  rw [hrun, Oper.upon_enter]
  refine (call_eat h x hx hl hrep Ls bor p hpass hp hnd lent hlent hplain m sz els hgood hb hLn).mono ?_
  rintro en w' ⟨v, rfl, σ', S', g1, g2, g3⟩
  have := g1.put o.dst _ v g2 g3 hd
  exact hn _ _ ⟨σ', S', this⟩
/-- The blocks that a call is lent: those behind pointers; where M says so, those of slices too. -/
def hpN : List AC → List Nat
  | [] => []
  | .hp b _ _ :: cs => b :: hpN cs
  | _ :: cs => hpN cs
def hsN : List AC → List Nat
  | [] => []
  | .hs b _ _ :: cs => b :: hsN cs
  | _ :: cs => hsN cs
def AV.flat : AV → List AC
  | .one c => [c]
  | .agg cs => cs
  | .clo _ cs => cs
  | _ => []
def lendsOf (m : Bool) (avs : List AV) : List Nat := once [] (hpN (avs.flatMap AV.flat) ++ (match m with | true => hsN (avs.flatMap AV.flat) | false => []))
def Blk.plain : Blk → Prop
  | .arr _ _ => True
  | .box cs => ∀ c ∈ cs, match c with | .p _ | .fp _ _ => True | _ => False
theorem Blk.plain_inA {blk : Blk} (h : blk.plain) : blk.inA (fun _ => False) := by
  cases blk with
  | arr => trivial
  | box cs => intro c hc; have := h c hc; cases c <;> first | trivial | exact this.elim
def vcCall (P : Program) (m : Bool) (x : Nat) (o : Oper) (c : Call) (st : St) (K : St → Prop) : Prop :=
  match callOf st c with
  | none => False
  | some (f, avs) => match passVs st (lendsOf m avs) avs, rds st (lendsOf m avs) with
    | some (cargs, bor, p), some lent => st.nl.own = none ∧ p ∧ Callable P f ∧ (lendsOf m avs).Nodup ∧ (∀ blk ∈ lent, blk.plain) ∧
        ∃ r out kl, Good P f cargs lent r out ∧ out.length ≤ (lendsOf m avs).length + 8 ∧ (match kl with | true => ∀ b ∈ bor, st.nl.n ≤ b | false => bor = [] ∨ (r.NoSl ∧ ∀ k ∈ out, k.noSl)) ∧
          K (st.aft o.dst (r.ren (backN (lendsOf m avs) x)) (backB (lendsOf m avs) x 0 out ++ (if kl = true then killB bor else [])))
    | _, _ => False
/-- One operation; M f: slices are lent to f. -/
def vcStep (P : Program) (M : FuncId → Bool) (x : Nat) (o : Oper) (st : St) (K : St → Prop) : Prop :=
  dstOk st o ∧ match o.op with
  | .call c => match c.callee with
    | .value (.func f) => vcCall P (M f) x o c st K
    | .value _ => vcCall P false x o c st K
    | _ => match aop P st x o with
      | some e => e.pre ∧ K (st.aft o.dst e.v e.wr)
      | none => False
  | _ => match aop P st x o with
    | some e => e.pre ∧ K (st.aft o.dst e.v e.wr)
    | none => False
theorem vcCall_sound {m : Bool} {x : Nat} (hx : ∀ b, x ≤ b → b < x + 8 → ¬ A b) {o : Oper} {c : Call} (ho : o.op = .call c) (hd : dstOk st o) {K : St → Prop} (h : vcCall P m x o c st K) : ∃ st', K st' ∧ OX P A (slots A x) o st st' := by
  unfold vcCall at h
  split at h
  · exact h.elim
  · rename_i f avs hc
    split at h
    · rename_i cargs bor p lent hpass hlent
      obtain ⟨hno, hp, hf, hnd, hpl, r, out, kl, hg, hol, hkl, hK⟩ := h
      exact ⟨_, hK, ox_call hno hx ho hc hf _ bor p hpass hp hnd lent hlent (fun blk hb => Blk.plain_inA (hpl blk hb)) r out hg hol kl hkl hd⟩
    · exact h.elim
theorem vcStep_sound {M : FuncId → Bool} {x : Nat} (hx : ∀ b, x ≤ b → b < x + 8 → ¬ A b) {o : Oper} {K : St → Prop} (h : vcStep P M x o st K) : ∃ st', K st' ∧ OX P A (slots A x) o st st' := by
  obtain ⟨hd, h⟩ := h
  have plain : (match aop P st x o with | some e => e.pre ∧ K (st.aft o.dst e.v e.wr) | none => False) → ∃ st', K st' ∧ OX P A (slots A x) o st st' := by
    intro h
    cases he : aop P st x o with
    | none => simp [he] at h
    | some e => simp only [he] at h; exact ⟨_, h.2, ox_op hx he h.1 hd⟩
  split at h
  · rename_i c ho
    split at h
    · exact vcCall_sound hx ho hd h
    · exact vcCall_sound hx ho hd h
    · exact plain h
  · exact plain h
/-! ### a plain region -/
def St.setT (st : St) (t : Nat) (b : Bool) : St := { st with tm := (t, lit (.bool b)) :: st.tm }
theorem RelA.setT (h : RelA X A st a w) {t : Nat} {b : Bool} (ht : lk st.tm t = some (lit (.bool b))) : RelA X A (st.setT t b) a w := by
  obtain ⟨σ, S, h⟩ := h
  refine ⟨σ, S, { h with tmps := ?_, tmA := ?_ }⟩
  · intro u av hl
    simp only [St.setT, lk] at hl
    by_cases e : t = u
    · rw [if_pos e] at hl; cases hl; exact h.tmps u _ (e ▸ ht)
    · rw [if_neg e] at hl; exact h.tmps u av hl
  · intro u av hl
    simp only [St.setT, lk] at hl
    by_cases e : t = u
    · rw [if_pos e] at hl; cases hl; exact h.tmA u _ (e ▸ ht)
    · rw [if_neg e] at hl; exact h.tmA u av hl
theorem RelA.skip (h : RelA X A st a w) {dst : Option Tmp} (hd : ∀ d, dst = some d → d < st.nt) : RelA X A (st.aft dst (lit undef) []) (a.put dst undef) w := by
  obtain ⟨σ, S, h⟩ := h
  exact ⟨σ, S, h.put dst (lit undef) undef (.one (.p (.lit _))) (.one trivial) hd⟩
theorem RelA.tmp (h : RelA X A st a w) {t : Nat} {v : Value} (ht : lk st.tm t = some (lit v)) : a.tmps[t]? = some v := by
  obtain ⟨σ, S, h⟩ := h
  obtain ⟨u, h1, h2⟩ := h.tmps t _ ht
  rw [h1, lit_inv h2 rfl]
def vcList (P : Program) (M : FuncId → Bool) (ops : Array Oper) (K : St → Prop) : Nat → List Oper → St → Prop
  | _, [], st => K st
  | x, o :: rest, st => match o.guard with
    | none => vcStep P M x o st (vcList P M ops K (x + 8) rest)
    | some (j, want) => match (ops[j]?).bind (·.dst) with
      | none => False
      | some t => match lk st.tm t with
        | some (.one (.p (.lit (.bool b)))) => (b = want → vcStep P M x o (st.setT t want) (vcList P M ops K (x + 8) rest)) ∧ (b = !want → dstOk st o ∧ vcList P M ops K (x + 8) rest ((st.setT t (!want)).aft o.dst (lit undef) []))
        | some (.one (.p (.lit (.tuple _)))) => dstOk st o ∧ vcList P M ops K (x + 8) rest (st.aft o.dst (lit undef) [])
        | _ => False
def LX (P : Program) (ops : Array Oper) (l : List Oper) (A A' : Nat → Prop) (st st' : St) : Prop :=
  ∀ X a w, RelA X A st a w → ∀ Q : Exit → Act → World → Prop, (∀ a' w', RelA X A' st' a' w' → Q .normal a' w') → wpList P ops Q l a w
theorem slots_lt (x : Nat) : ∀ b, slots (· < x) x b → b < x + 8 := fun b hb => by rcases hb with h | h <;> omega
theorem lx_cons {ops : Array Oper} {o : Oper} {rest : List Oper} {st st1 st2 : St} {x : Nat} {A2 : Nat → Prop} (hg : ∀ X a w, RelA X (· < x) st a w → Region.wanted o (yielded ops a.tmps) = true) (h1 : OX P (· < x) (slots (· < x) x) o st st1) (h2 : LX P ops rest (· < x + 8) A2 st1 st2) :
    LX P ops (o :: rest) (· < x) A2 st st2 := by
  intro X a w h Q hQ
  unfold wpList
  rw [if_pos (hg X a w h)]
  exact .inl (h1 X a w h _ Q fun a' w' h' => h2 X a' w' (h'.weak (slots_lt x)) Q hQ)
theorem lx_skip {ops : Array Oper} {o : Oper} {rest : List Oper} {st st2 : St} {x : Nat} {A2 : Nat → Prop} (hg : ∀ X a w, RelA X (· < x) st a w → Region.wanted o (yielded ops a.tmps) = false) (hd : dstOk st o) (h2 : LX P ops rest (· < x + 8) A2 (st.aft o.dst (lit undef) []) st2) :
    LX P ops (o :: rest) (· < x) A2 st st2 := by
  intro X a w h Q hQ
  unfold wpList
  rw [if_neg (by rw [hg X a w h]; simp)]
  exact h2 X _ w ((h.skip hd).weak (fun b hb => by omega)) Q hQ
def boolOf : Value → Option Bool
  | .bool b => some b
  | _ => none
theorem yielded_of {ops : Array Oper} {tmps : Array Value} {j t : Nat} {v : Value} (hj : (ops[j]?).bind (·.dst) = some t) (ht : tmps[t]? = some v) : yielded ops tmps j = boolOf v := by
  unfold yielded
  rw [hj, Option.bind_some, ht]
  cases v <;> rfl
theorem vcList_sound {M : FuncId → Bool} {ops : Array Oper} {K : St → Prop} : ∀ (l : List Oper) (x : Nat) (st : St), vcList P M ops K x l st → ∃ st', K st' ∧ LX P ops l (· < x) (· < x + 8 * l.length) st st'
  | [], x, st, h => ⟨st, h, fun X a w hr Q hQ => hQ a w hr⟩
  | o :: rest, x, st, h => by
    have hx : ∀ b, x ≤ b → b < x + 8 → ¬ b < x := fun b h1 _ => by omega
    have hlen : x + 8 * (o :: rest).length = x + 8 + 8 * rest.length := by simp; omega
    rw [hlen]
    unfold vcList at h
    split at h
    · rename_i hg
      obtain ⟨st1, h1, h2⟩ := vcStep_sound hx h
      obtain ⟨st2, h3, h4⟩ := vcList_sound rest (x + 8) st1 h1
      exact ⟨st2, h3, lx_cons (fun X a w _ => by simp [Region.wanted, hg]) h2 h4⟩
    · rename_i j want hg
      split at h
      · exact h.elim
      · rename_i t hj
        split at h
        · rename_i b ht
          have hy : ∀ X a w, RelA X (· < x) st a w → yielded ops a.tmps j = some b := fun X a w hr => yielded_of hj (hr.tmp ht)
          by_cases hb : b = want
          · subst hb
            obtain ⟨st1, h1, h2⟩ := vcStep_sound hx (h.1 rfl)
            obtain ⟨st2, h3, h4⟩ := vcList_sound rest (x + 8) st1 h1
            refine ⟨st2, h3, lx_cons (fun X a w hr => by simp [Region.wanted, hg, hy X a w hr]) (st1 := st1) ?_ h4⟩
            exact fun X a w hr next Q hn => h2 X a w (hr.setT ht) next Q hn
          · have hb' : b = !want := by cases b <;> cases want <;> simp_all
            obtain ⟨hd, h2⟩ := h.2 hb'
            obtain ⟨st2, h3, h4⟩ := vcList_sound rest (x + 8) _ h2
            refine ⟨st2, h3, ?_⟩
            intro X a w hr Q hQ
            have hr' : RelA X (· < x) (st.setT t (!want)) a w := hr.setT (hb' ▸ ht)
            exact lx_skip (st := st.setT t (!want)) (fun X a w hr => by
              have hy' : yielded ops a.tmps j = some (!want) := yielded_of (v := .bool (!want)) hj (hr.tmp (t := t) (by simp [St.setT, lk]))
              simp [Region.wanted, hg, hy']) hd h4 X a w hr' Q hQ
        · rename_i vs ht
          obtain ⟨hd, h2⟩ := h
          obtain ⟨st2, h3, h4⟩ := vcList_sound rest (x + 8) _ h2
          refine ⟨st2, h3, lx_skip (fun X a w hr => ?_) hd h4⟩
          have hy' : yielded ops a.tmps j = none := yielded_of (v := .tuple vs) hj (hr.tmp ht)
          simp [Region.wanted, hg, hy']
        · exact h.elim
end Go.Abs
