import Derived.Test.YtmieklaakjabaaaGreatGAbs19
set_option linter.unusedSimpArgs false
set_option linter.unusedVariables false
namespace Go.Abs
open Go Go.RowKit
variable {P : Program}
def memN (x : Nat) : List Nat → Bool
  | [] => false
  | y :: ys => match Nat.beq y x with
    | true => true
    | false => memN x ys
theorem memN_iff (x : Nat) : ∀ l, memN x l = l.contains x
  | [] => rfl
  | y :: ys => by
    simp only [memN, List.contains_cons]
    by_cases h : y = x
    · subst h; rw [Nat.beq_refl]; simp
    · have h1 : Nat.beq y x = false := by rw [Bool.eq_false_iff]; intro q; exact h (Nat.eq_of_beq_eq_true q)
      have h2 : (x == y) = false := by rw [beq_eq_false_iff_ne]; exact fun q => h q.symm
      rw [h1, h2, Bool.false_or]
      exact memN_iff x ys
def opsT : List Operand → (List Nat → Prop) → Prop
  | [], K => K []
  | .tmp t :: xs, K => opsT xs fun l => K (t :: l)
  | _ :: xs, K => opsT xs K
theorem opsT_iff : ∀ (l : List Operand) (K : List Nat → Prop), opsT l K ↔ K (l.filterMap fun x => match x with
    | .tmp t => some t
    | _ => none)
  | [], K => Iff.rfl
  | x :: xs, K => by cases x <;> simp [opsT, opsT_iff xs]
def seeTK (ts : List Nat) : List (Nat × AV) → (List (Nat × AV) → Prop) → Prop
  | [], K => K []
  | (t, v) :: l, K => match memN t ts with
    | true => seeTK ts l fun l => K ((t, v) :: l)
    | false => seeTK ts l K
theorem seeTK_iff (ts : List Nat) : ∀ (l : List (Nat × AV)) (K : List (Nat × AV) → Prop), seeTK ts l K ↔ K (seeT ts l)
  | [], K => Iff.rfl
  | (t, v) :: l, K => by
    simp only [seeTK, memN_iff, seeT]
    cases h : ts.contains t with
    | true => simp only [seeTK_iff ts l]; rw [List.filter_cons_of_pos (by simpa using h)]; rfl
    | false => simp only [seeTK_iff ts l]; rw [List.filter_cons_of_neg (by simpa using h)]; rfl
def effTK (m : Nat) (ts : List Nat) (tm : List (Nat × AV)) : List Eff → (List (Nat × AV) → Prop) → Prop
  | [], K => seeTK ts tm K
  | ⟨i, d, v, _⟩ :: es, K => match m.testBit i with
    | false => effTK m ts tm es K
    | true => match d with
      | none => effTK m ts tm es K
      | some t => match memN t ts with
        | true => effTK m ts tm es fun l => K ((t, v) :: l)
        | false => effTK m ts tm es K
theorem effTK_iff (m : Nat) (ts : List Nat) (tm : List (Nat × AV)) : ∀ (es : List Eff) (K : List (Nat × AV) → Prop), effTK m ts tm es K ↔ K (seeT ts (effT (es.filter fun e => m.testBit e.i) tm))
  | [], K => seeTK_iff ts tm K
  | ⟨i, d, v, wr⟩ :: es, K => by
    simp only [effTK]
    cases h : m.testBit i with
    | false => rw [List.filter_cons_of_neg (by simpa using h)]; exact effTK_iff m ts tm es K
    | true =>
      rw [List.filter_cons_of_pos (by simpa using h), effT]
      cases d with
      | none => exact effTK_iff m ts tm es K
      | some t =>
        simp only [memN_iff, seeT]
        cases h2 : ts.contains t with
        | true => simp only [effTK_iff m ts tm es]; rw [List.filter_cons_of_pos (by simpa using h2)]; rfl
        | false => simp only [effTK_iff m ts tm es]; rw [List.filter_cons_of_neg (by simpa using h2)]; rfl
def seeBA (R : Reg) (i : Nat) : List (Nat × Option Blk) → List (Nat × Option Blk) → (List (Nat × Option Blk) → Prop) → Prop
  | [], r, K => K r
  | (b, k) :: l, r, K => match R.okB i b with
    | true => seeBA R i l r fun l => K ((b, k) :: l)
    | false => seeBA R i l r K
theorem seeBA_iff (R : Reg) (i : Nat) : ∀ (l r : List (Nat × Option Blk)) (K : List (Nat × Option Blk) → Prop), seeBA R i l r K ↔ K (seeB R i l ++ r)
  | [], r, K => Iff.rfl
  | (b, k) :: l, r, K => by
    simp only [seeBA, seeB]
    cases h : R.okB i b with
    | true => simp only [seeBA_iff R i l]; rw [List.filter_cons_of_pos (by simpa using h)]; rfl
    | false => simp only [seeBA_iff R i l]; rw [List.filter_cons_of_neg (by simpa using h)]; rfl
def effBK (R : Reg) (i m : Nat) (bl : List (Nat × Option Blk)) : List Eff → (List (Nat × Option Blk) → Prop) → Prop
  | [], K => seeBA R i bl [] K
  | ⟨j, _, _, wr⟩ :: es, K => match wr with
    | [] => effBK R i m bl es K
    | e :: wr => match m.testBit j with
      | false => effBK R i m bl es K
      | true => effBK R i m bl es fun l => seeBA R i (e :: wr) l K
theorem effBK_iff (R : Reg) (i m : Nat) (bl : List (Nat × Option Blk)) : ∀ (es : List Eff) (K : List (Nat × Option Blk) → Prop), effBK R i m bl es K ↔ K (seeB R i (effB (es.filter fun e => m.testBit e.i) bl))
  | [], K => by rw [effBK, seeBA_iff, List.append_nil]; rfl
  | ⟨j, d, v, wr⟩ :: es, K => by
    simp only [effBK]
    cases wr with
    | nil =>
      simp only
      rw [effBK_iff R i m bl es]
      cases h : m.testBit j with
      | false => rw [List.filter_cons_of_neg (by simpa using h)]
      | true => rw [List.filter_cons_of_pos (by simpa using h)]; rfl
    | cons e wr =>
      simp only
      cases h : m.testBit j with
      | false => rw [List.filter_cons_of_neg (by simpa using h)]; exact effBK_iff R i m bl es K
      | true =>
        rw [List.filter_cons_of_pos (by simpa using h), effB]
        simp only [effBK_iff R i m bl es, seeBA_iff, seeB, List.filter_append]
def fullT (tm : List (Nat × AV)) : List Eff → (List (Nat × AV) → Prop) → Prop
  | [], K => K tm
  | ⟨_, d, v, _⟩ :: es, K => match d with
    | some t => fullT tm es fun l => K ((t, v) :: l)
    | none => fullT tm es K
theorem fullT_iff (tm : List (Nat × AV)) : ∀ (es : List Eff) (K : List (Nat × AV) → Prop), fullT tm es K ↔ K (effT es tm)
  | [], K => Iff.rfl
  | ⟨i, d, v, wr⟩ :: es, K => by
    simp only [fullT, effT]
    cases d <;> simp only [fullT_iff tm es]
def appK : List (Nat × Option Blk) → List (Nat × Option Blk) → (List (Nat × Option Blk) → Prop) → Prop
  | [], r, K => K r
  | e :: l, r, K => appK l r fun l => K (e :: l)
theorem appK_iff : ∀ (l r : List (Nat × Option Blk)) (K : List (Nat × Option Blk) → Prop), appK l r K ↔ K (l ++ r)
  | [], r, K => Iff.rfl
  | e :: l, r, K => by rw [appK, appK_iff l]; rfl
def fullB (bl : List (Nat × Option Blk)) : List Eff → (List (Nat × Option Blk) → Prop) → Prop
  | [], K => K bl
  | ⟨_, _, _, wr⟩ :: es, K => fullB bl es fun l => appK wr l K
theorem fullB_iff (bl : List (Nat × Option Blk)) : ∀ (es : List Eff) (K : List (Nat × Option Blk) → Prop), fullB bl es K ↔ K (effB es bl)
  | [], K => Iff.rfl
  | ⟨i, d, v, wr⟩ :: es, K => by simp only [fullB, effB, fullB_iff bl es, appK_iff]
def findE (j : Nat) : List Eff → Option AV
  | [] => none
  | ⟨i, _, v, _⟩ :: es => match Nat.beq i j with
    | true => some v
    | false => findE j es
theorem findE_mem {j : Nat} {v : AV} : ∀ {es : List Eff}, findE j es = some v → ∃ e ∈ es, e.i = j ∧ e.v = v
  | [], h => by cases h
  | ⟨i, d, x, wr⟩ :: es, h => by
    simp only [findE] at h
    split at h
    · rename_i hb; cases h; exact ⟨_, List.mem_cons_self .., Nat.eq_of_beq_eq_true hb, rfl⟩
    · obtain ⟨e, h1, h2⟩ := findE_mem h
      exact ⟨e, List.mem_cons_of_mem _ h1, h2⟩
def setE (j : Nat) (b : Bool) : List Eff → (List Eff → Prop) → Prop
  | [], K => K []
  | ⟨i, d, v, wr⟩ :: es, K => match Nat.beq i j with
    | true => K (⟨i, d, lit (.bool b), wr⟩ :: es)
    | false => setE j b es fun es => K (⟨i, d, v, wr⟩ :: es)
theorem setE_id {j : Nat} {b : Bool} : ∀ {es : List Eff} {K : List Eff → Prop}, findE j es = some (lit (.bool b)) → setE j b es K → K es
  | [], K, h, _ => by cases h
  | ⟨i, d, x, wr⟩ :: es, K, h, hs => by
    simp only [findE] at h
    simp only [setE] at hs
    split at h
    · rename_i hb; cases h; simp only [hb] at hs; exact hs
    · rename_i hb; simp only [hb] at hs; exact setE_id (K := fun es => K (⟨i, d, x, wr⟩ :: es)) h hs
def uniqD : List Oper → Nat → Nat → Nat → Bool
  | [], _, _, _ => true
  | o :: os, k, j, t => match o.dst with
    | none => uniqD os (k + 1) j t
    | some d => match Nat.beq d t with
      | false => uniqD os (k + 1) j t
      | true => match Nat.beq k j with
        | true => uniqD os (k + 1) j t
        | false => false
theorem uniqD_spec {j t : Nat} : ∀ {os : List Oper} {k : Nat}, uniqD os k j t = true → ∀ i o, os[i]? = some o → o.dst = some t → k + i = j
  | [], k, _, i, o, ho, _ => by simp at ho
  | x :: xs, k, h, i, o, ho, hd => by
    simp only [uniqD] at h
    have rest : uniqD xs (k + 1) j t = true := by
      split at h
      · exact h
      · split at h
        · exact h
        · split at h
          · exact h
          · cases h
    cases i with
    | zero =>
      simp only [List.getElem?_cons_zero, Option.some.injEq] at ho
      subst ho
      simp only [hd, Nat.beq_refl] at h
      split at h
      · rename_i hb; exact Nat.eq_of_beq_eq_true hb
      · cases h
    | succ i =>
      simp only [List.getElem?_cons_succ] at ho
      have := uniqD_spec rest i o ho hd
      omega
def guardOk (ops : Array Oper) (R : Reg) (i j : Nat) : Bool := match (R.an.getD i 0).testBit j with
  | false => false
  | true => match ops[j]? with
    | none => false
    | some oj => match oj.dst with
      | none => false
      | some t => uniqD ops.toList 0 j t
theorem guardOk_spec {ops : Array Oper} {R : Reg} {i j : Nat} (h : guardOk ops R i j = true) : (R.an.getD i 0).testBit j = true ∧ ∃ t, (ops[j]?).bind (·.dst) = some t ∧ ∀ k o', ops[k]? = some o' → o'.dst = some t → k = j := by
  unfold guardOk at h
  split at h
  · cases h
  · rename_i h1
    split at h
    · cases h
    · rename_i oj hoj
      split at h
      · cases h
      · rename_i t ht
        refine ⟨h1, t, by rw [hoj]; exact ht, fun k o' hk hd => ?_⟩
        have := uniqD_spec h k o' (by simpa using hk) hd
        omega
def chkW (R : Reg) (i : Nat) : List (Nat × Option Blk) → Prop → Prop
  | [], p => p
  | (b, _) :: l, p => match R.mayW i b with
    | true => chkW R i l p
    | false => False
theorem chkW_iff {R : Reg} {i : Nat} {p : Prop} : ∀ {l : List (Nat × Option Blk)}, chkW R i l p → (∀ w ∈ l, R.mayW i w.1 = true) ∧ p
  | [], h => ⟨(fun w hw => by cases hw), h⟩
  | (b, k) :: l, h => by
    simp only [chkW] at h
    split at h
    · rename_i hb
      obtain ⟨h1, h2⟩ := chkW_iff h
      exact ⟨fun w hw => (List.mem_cons.1 hw).elim (fun q => q ▸ hb) (h1 w), h2⟩
    · exact h.elim
section
variable {ops : Array Oper} {R : Reg} {st0 : St} {M : FuncId → Bool}
/-- One operation of the region, seen alone. -/
def vone (P : Program) (M : FuncId → Bool) (R : Reg) (st0 : St) (i : Nat) (o : Oper) (es : List Eff) (K : List Eff → Prop) : Prop :=
  opsT o.op.operands.toList fun ts => effTK (R.an.getD i 0) (ownL st0.nl.own ts) st0.tm es fun tm => effBK R i (R.an.getD i 0) st0.bl es fun bl =>
    vstep P M (R.n0 + 8 * i) o ⟨st0.nt, st0.nl, tm, bl⟩ fun v wr => fA v fun v => fBs wr fun wr => chkW R i wr (K (⟨i, o.dst, v, wr⟩ :: es))
def vdraw (P : Program) (M : FuncId → Bool) (ops : Array Oper) (R : Reg) (st0 : St) (K : St → Prop) : Nat → List Oper → List Eff → Prop
  | _, [], es => fullT st0.tm es fun tm => fullB st0.bl es fun bl => K ⟨st0.nt, st0.nl, tm, bl⟩
  | i, o :: rest, es => match dstB st0 o with
    | false => False
    | true => match o.guard with
      | none => vone P M R st0 i o es (vdraw P M ops R st0 K (i + 1) rest)
      | some (j, want) => match guardOk ops R i j with
        | false => False
        | true => match findE j es with
          | some (.one (.p (.lit (.bool b)))) => match b with
            | true => setE j true es fun es => br want (vone P M R st0 i o es (vdraw P M ops R st0 K (i + 1) rest)) (vdraw P M ops R st0 K (i + 1) rest (⟨i, o.dst, lit undef, []⟩ :: es))
            | false => setE j false es fun es => br want (vdraw P M ops R st0 K (i + 1) rest (⟨i, o.dst, lit undef, []⟩ :: es)) (vone P M R st0 i o es (vdraw P M ops R st0 K (i + 1) rest))
          | some (.one (.p (.lit (.tuple _)))) => vdraw P M ops R st0 K (i + 1) rest (⟨i, o.dst, lit undef, []⟩ :: es)
          | _ => False
structure PreK (P : Program) (ops : Array Oper) (R : Reg) (st0 : St) (i : Nat) (es : List Eff) : Prop where
  all : ∀ k o, k < i → ops[k]? = some o → ∃ e ∈ es, e.i = k ∧ Known P ops R st0 es k o e
  one : ∀ e ∈ es, e.i < i ∧ ∃ o, ops[e.i]? = some o ∧ e.dst = o.dst ∧ ∀ w ∈ e.wr, R.mayW e.i w.1 = true
  sorted : List.Pairwise (fun a b => b.i < a.i) es
theorem uniq_sorted : ∀ {es : List Eff}, List.Pairwise (fun a b : Eff => b.i < a.i) es → ∀ e ∈ es, ∀ e' ∈ es, e.i = e'.i → e = e'
  | [], _, e, h, _, _, _ => by cases h
  | x :: xs, hp, e, he, e', he', hi => by
    obtain ⟨h1, h2⟩ := List.pairwise_cons.1 hp
    rcases List.mem_cons.1 he with q | q <;> rcases List.mem_cons.1 he' with q' | q'
    · rw [q, q']
    · have := h1 _ q'; rw [q] at hi; omega
    · have := h1 _ q; rw [q'] at hi; omega
    · exact uniq_sorted h2 e q e' q' hi
theorem sOf_cons (hR : R.Good ops) {k : Nat} (hk : k < ops.size) {e : Eff} (he : k ≤ e.i) {es : List Eff} {ts : List Tmp} : sOf R st0 (e :: es) k ts = sOf R st0 es k ts := by
  have : anE R k (e :: es) = anE R k es := by
    unfold anE
    rw [List.filter_cons_of_neg]
    intro h
    have := hR.low k hk e.i h
    omega
  unfold sOf
  rw [this]
theorem Known.cons (hR : R.Good ops) {es : List Eff} {k : Nat} {o : Oper} {e e' : Eff} (hk : ops[k]? = some o) (he : k ≤ e'.i) (h : Known P ops R st0 es k o e) : Known P ops R st0 (e' :: es) k o e := by
  cases h with
  | did hg hd hs =>
    refine .did ?_ hd (by rw [sOf_cons hR (Array.getElem?_eq_some_iff.1 hk).1 he]; exact hs)
    cases hq : o.guard with
    | none => trivial
    | some jw =>
      obtain ⟨j, want⟩ := jw
      simp only [hq] at hg ⊢
      obtain ⟨h1, t, h2, h3, x, h4, h5⟩ := hg
      exact ⟨h1, t, h2, h3, x, List.mem_cons_of_mem _ h4, h5⟩
  | not j want hg ha t ht hu1 u hl hu hd hv hw =>
    obtain ⟨x, h4, h5⟩ := hl
    exact .not j want hg ha t ht hu1 u ⟨x, List.mem_cons_of_mem _ h4, h5⟩ hu hd hv hw
theorem PreK.cons (hR : R.Good ops) {i : Nat} {es : List Eff} (h : PreK P ops R st0 i es) {o : Oper} (ho : ops[i]? = some o) {v : AV} {wr : List (Nat × Option Blk)} (hw : ∀ w ∈ wr, R.mayW i w.1 = true)
    (hk : Known P ops R st0 es i o ⟨i, o.dst, v, wr⟩) : PreK P ops R st0 (i + 1) (⟨i, o.dst, v, wr⟩ :: es) := by
  refine ⟨fun k o' hlt ho' => ?_, fun e he => ?_, List.pairwise_cons.2 ⟨fun e he => (h.one e he).1, h.sorted⟩⟩
  · by_cases e : k = i
    · subst e
      rw [ho] at ho'; cases ho'
      exact ⟨_, List.mem_cons_self .., rfl, hk.cons hR ho (Nat.le_refl _)⟩
    · obtain ⟨x, h1, h2, h3⟩ := h.all k o' (by omega) ho'
      exact ⟨x, List.mem_cons_of_mem _ h1, h2, h3.cons hR ho' (by show k ≤ i; omega)⟩
  · rcases List.mem_cons.1 he with rfl | he
    · exact ⟨Nat.lt_succ_self _, o, ho, rfl, hw⟩
    · obtain ⟨h1, h2⟩ := h.one e he
      exact ⟨by omega, h2⟩
theorem vone_sound {i : Nat} {o : Oper} {es : List Eff} {K : List Eff → Prop} (h : vone P M R st0 i o es K) : ∃ v wr, K (⟨i, o.dst, v, wr⟩ :: es) ∧ (∀ w ∈ wr, R.mayW i w.1 = true) ∧ Stp P (sOf R st0 es i (sees o)) (R.n0 + 8 * i) o v wr := by
  unfold vone at h
  rw [opsT_iff, effTK_iff, effBK_iff] at h
  obtain ⟨v, wr, h1, h2⟩ := vstep_stp h
  rw [fA_iff, fBs_iff] at h1
  obtain ⟨h3, h4⟩ := chkW_iff h1
  exact ⟨v, wr, h4, h3, h2⟩
/-- No operation writes the slot of the tag. -/
def ownB (ops : Array Oper) (st : St) : Bool := match st.nl.own with
  | none => true
  | some t => ops.toList.all fun o => match o.dst with
    | some d => !(Nat.beq d t)
    | none => true
theorem ownB_iff {t : Tmp} (h : ownB ops st0 = true) (ht : st0.nl.own = some t) {i : Nat} {o : Oper} (ho : ops[i]? = some o) : o.dst ≠ some t := by
  unfold ownB at h
  rw [ht] at h
  have := List.all_eq_true.1 h o (by simpa using Array.mem_of_getElem? ho)
  intro q
  rw [q] at this
  simp at this
theorem vdraw_sound (hR : R.Good ops) (hO : ownB ops st0 = true) {K : St → Prop} : ∀ (rest : List Oper) (i : Nat) (es : List Eff), (∀ k, rest[k]? = ops[i + k]?) → PreK P ops R st0 i es → vdraw P M ops R st0 K i rest es → ∃ es', K (stOf st0 es') ∧ AllKnown P ops R st0 es'
  | [], i, es, hrest, hp, h => by
    simp only [vdraw] at h
    rw [fullT_iff, fullB_iff] at h
    refine ⟨es, h, fun k o ho => ?_, fun e he => (hp.one e he).2, uniq_sorted hp.sorted, hp.sorted, fun t ht e he => ?_⟩
    rotate_left
    · obtain ⟨_, o, ho, hd, _⟩ := hp.one e he
      rw [hd]; exact ownB_iff hO ht ho
    refine hp.all k o ?_ ho
    rcases Nat.lt_or_ge k i with h' | h'
    · exact h'
    · have := hrest (k - i)
      rw [show i + (k - i) = k by omega, ho] at this
      simp at this
  | o :: rest, i, es, hrest, hp, h => by
    have ho : ops[i]? = some o := by have := hrest 0; simpa using this.symm
    have hrest' : ∀ k, rest[k]? = ops[i + 1 + k]? := fun k => by have := hrest (k + 1); rw [List.getElem?_cons_succ] at this; rw [this]; congr 1; omega
    unfold vdraw at h
    cases hdB : dstB st0 o with
    | false => rw [hdB] at h; exact h.elim
    | true =>
      rw [hdB] at h
      have hd := dstB_iff hdB
      cases hg : o.guard with
      | none =>
        simp only [hg] at h
        obtain ⟨v, wr, h1, h2, h3⟩ := vone_sound h
        exact vdraw_sound hR hO rest (i + 1) _ hrest' (hp.cons hR ho h2 (.did (by simp [hg]) hd h3)) h1
      | some jw =>
        obtain ⟨j, want⟩ := jw
        simp only [hg] at h
        cases hgo : guardOk ops R i j with
        | false => simp only [hgo] at h
        | true =>
          simp only [hgo] at h
          obtain ⟨ha, t, ht, hu1⟩ := guardOk_spec hgo
          have GO : ∀ b, b = want → findE j es = some (lit (.bool b)) → vone P M R st0 i o es (vdraw P M ops R st0 K (i + 1) rest) → ∃ es', K (stOf st0 es') ∧ AllKnown P ops R st0 es' := by
            intro b hb hf h'
            subst hb
            obtain ⟨v, wr, h1, h2, h3⟩ := vone_sound h'
            refine vdraw_sound hR hO rest (i + 1) _ hrest' (hp.cons hR ho h2 (.did ?_ hd h3)) h1
            simp only [hg]
            exact ⟨ha, t, ht, hu1, findE_mem hf⟩
          have SK : ∀ u, boolOf u ≠ some want → findE j es = some (lit u) → vdraw P M ops R st0 K (i + 1) rest (⟨i, o.dst, lit undef, []⟩ :: es) → ∃ es', K (stOf st0 es') ∧ AllKnown P ops R st0 es' := by
            intro u hu hf h
            exact vdraw_sound hR hO rest (i + 1) _ hrest' (hp.cons hR ho (fun w hw => by cases hw) (.not j want hg ha t ht hu1 u (findE_mem hf) hu hd rfl rfl)) h
          cases hf : findE j es with
          | none => simp only [hf] at h
          | some av =>
            cases av with
            | one c => cases c with
              | p y => cases y with
                | lit v => cases v with
                  | bool b =>
                    simp only [hf] at h
                    cases b with
                    | true =>
                      have h := setE_id hf h
                      cases want with
                      | true => exact GO true rfl hf h
                      | false => exact SK (.bool true) (by simp [boolOf]) hf h
                    | false =>
                      have h := setE_id hf h
                      cases want with
                      | true => exact SK (.bool false) (by simp [boolOf]) hf h
                      | false => exact GO false rfl hf h
                  | tuple vs =>
                    simp only [hf] at h
                    exact SK (.tuple vs) (by simp [boolOf]) hf h
                  | _ => simp only [hf] at h
                | _ => simp only [hf] at h
              | _ => simp only [hf] at h
            | _ => simp only [hf] at h
theorem VDraw.go {id : Nat} {Q : Exit → Nat → St → Prop} {n : Nat} (R : Reg) (hn : R.n0 = n) (hm : P.follows .mixedOrders = true) (hR : regB ops R = true)
    (h : vdraw P M ops R st0 (Q .normal (n + 8 * ops.size)) 0 ops.toList []) (hO : ownB ops st0 = true := by rfl) : VDraw P M id ops Q n st0 := by
  subst hn
  obtain ⟨es, h1, h2⟩ := vdraw_sound (regB_good hR) hO ops.toList 0 [] (fun k => by simp) ⟨(fun k o hk => by omega), (fun e he => by cases he), List.Pairwise.nil⟩ h
  exact ⟨⟨_, _, _, h1, region_any hm (regB_good hR) h2⟩⟩
end
end Go.Abs
