import Derived.Test.YtmieklaakjabaaaGreatGAbs16
set_option linter.unusedSimpArgs false
set_option linter.unusedVariables false
namespace Go.Abs
open Go Go.RowKit
variable {P : Program}
/-! ### A region whose order is drawn: whatever comes first, the same comes of it -/
structure Eff where
  i : Nat
  dst : Option Tmp
  v : AV
  wr : List (Nat × Option Blk)
def effT : List Eff → List (Nat × AV) → List (Nat × AV)
  | [], tm => tm
  | e :: es, tm => match e.dst with
    | some d => (d, e.v) :: effT es tm
    | none => effT es tm
def effB : List Eff → List (Nat × Option Blk) → List (Nat × Option Blk)
  | [], bl => bl
  | e :: es, bl => e.wr ++ effB es bl
/-- The state behind some effects; the latest is the first of the list. -/
def stOf (st0 : St) (es : List Eff) : St := ⟨st0.nt, st0.nl, effT es st0.tm, effB es st0.bl⟩
/-- What comes ahead of each operation, as bits. -/
def ancs : List Nat → List Oper → List Nat
  | acc, [] => acc
  | acc, o :: os => ancs (acc ++ [o.after.toList.foldl (fun s e => match Region.binds .any e with | true => s ||| 2 ^ e.on ||| acc.getD e.on 0 | false => s) 0]) os
def inc (an : List Nat) (i j : Nat) : Bool := i != j && !(an.getD i 0).testBit j && !(an.getD j 0).testBit i
def slotB (n0 i b : Nat) : Bool := Nat.ble (n0 + 8 * i) b && Nat.blt b (n0 + 8 * i + 8)
/-- The static data of the region: what comes ahead of what, the slots, the blocks that each may write. -/
structure Reg where
  n0 : Nat
  an : List Nat
  loud : List Nat
  W : List (Nat × List Nat)
def Reg.W' (R : Reg) (j : Nat) : List Nat := match lk R.W j with
  | some l => l
  | none => []
def Reg.mayW (R : Reg) (j b : Nat) : Bool := R.loud.contains j && ((R.W' j).contains b || slotB R.n0 j b)
/-- May op i look at block b? No other writes it out of order. -/
def Reg.okB (R : Reg) (i b : Nat) : Bool := R.loud.all fun j => !(inc R.an i j && R.mayW j b)
/-- The slots that an operation looks at. -/
def sees (o : Oper) : List Tmp := o.op.operands.toList.filterMap fun x => match x with
  | .tmp t => some t
  | _ => none
def anE (R : Reg) (i : Nat) (es : List Eff) : List Eff := es.filter fun e => (R.an.getD i 0).testBit e.i
/-- What op i sees. -/
def seeT (ts : List Tmp) (l : List (Nat × AV)) : List (Nat × AV) := l.filter fun q => ts.contains q.1
/-- With the slot of the tag, if there is one. -/
def ownL : Option Tmp → List Tmp → List Tmp
  | none, l => l
  | some t, l => t :: l
theorem ownL_mem {o : Option Tmp} {l : List Tmp} {t : Tmp} (h : t ∈ ownL o l) : o = some t ∨ t ∈ l := by
  cases o with
  | none => exact .inr h
  | some u => rcases List.mem_cons.1 h with h | h
              · exact .inl (by rw [h])
              · exact .inr h
def seeB (R : Reg) (i : Nat) (l : List (Nat × Option Blk)) : List (Nat × Option Blk) := l.filter fun q => R.okB i q.1
def sOf (R : Reg) (st0 : St) (es : List Eff) (i : Nat) (ts : List Tmp) : St := ⟨st0.nt, st0.nl, seeT (ownL st0.nl.own ts) (effT (anE R i es) st0.tm), seeB R i (effB (anE R i es) st0.bl)⟩
theorem lk_filter {α : Type} (f : Nat → Bool) : ∀ (l : List (Nat × α)) (t : Nat) (v : α), lk (l.filter fun q => f q.1) t = some v → f t = true ∧ lk l t = some v
  | [], t, v, h => by simp [lk] at h
  | (k, x) :: l, t, v, h => by
    by_cases hf : f k = true
    · rw [List.filter_cons_of_pos (by simpa using hf)] at h
      simp only [lk] at h ⊢
      by_cases e : k = t
      · rw [if_pos e] at h ⊢; exact ⟨e ▸ hf, h⟩
      · rw [if_neg e] at h ⊢; exact lk_filter f l t v h
    · rw [List.filter_cons_of_neg (by simpa using hf)] at h
      obtain ⟨h1, h2⟩ := lk_filter f l t v h
      refine ⟨h1, ?_⟩
      simp only [lk]
      rw [if_neg (fun e : k = t => hf (by rw [e]; exact h1))]
      exact h2
theorem lk_none_app {α : Type} : ∀ (l r : List (Nat × α)) (t : Nat), lk l t = none → lk (l ++ r) t = lk r t
  | [], r, t, _ => rfl
  | (k, x) :: l, r, t, h => by
    simp only [lk, List.cons_append] at h ⊢
    by_cases e : k = t
    · rw [if_pos e] at h; cases h
    · rw [if_neg e] at h ⊢; exact lk_none_app l r t h
theorem lk_app_eq {α : Type} : ∀ (l r r' : List (Nat × α)) (t : Nat), lk r t = lk r' t → lk (l ++ r) t = lk (l ++ r') t
  | [], r, r', t, h => h
  | (k, x) :: l, r, r', t, h => by
    simp only [lk, List.cons_append]
    by_cases e : k = t
    · rw [if_pos e, if_pos e]
    · rw [if_neg e, if_neg e]; exact lk_app_eq l r r' t h
theorem lk_none_of {α : Type} : ∀ (l : List (Nat × α)) (t : Nat), (∀ q ∈ l, q.1 ≠ t) → lk l t = none
  | [], t, _ => rfl
  | (k, x) :: l, t, h => by
    simp only [lk]
    rw [if_neg (h (k, x) (List.mem_cons_self ..))]
    exact lk_none_of l t fun q hq => h q (List.mem_cons_of_mem _ hq)
/-- Two choices of effects that agree on what writes t. -/
theorem effT_agree (p q : Eff → Bool) (t : Nat) : ∀ (es : List Eff) (tm : List (Nat × AV)), (∀ e ∈ es, e.dst = some t → p e = q e) → lk (effT (es.filter p) tm) t = lk (effT (es.filter q) tm) t
  | [], tm, _ => rfl
  | e :: es, tm, h => by
    have ih := effT_agree p q t es tm fun e' he' => h e' (List.mem_cons_of_mem _ he')
    have one : ∀ (r : Eff → Bool), lk (effT ((e :: es).filter r) tm) t = if r e = true ∧ e.dst = some t then some e.v else lk (effT (es.filter r) tm) t := by
      intro r
      by_cases hr : r e = true
      · rw [List.filter_cons_of_pos hr, effT]
        cases hd : e.dst with
        | none => simp
        | some d =>
          simp only [lk]
          by_cases e' : d = t
          · rw [if_pos e', if_pos ⟨hr, by rw [e']⟩]
          · rw [if_neg e', if_neg (by rintro ⟨_, q⟩; exact e' (Option.some.inj q))]
      · rw [List.filter_cons_of_neg hr, if_neg (fun q => hr q.1)]
    rw [one p, one q, ih]
    by_cases hd : e.dst = some t
    · rw [h e (List.mem_cons_self ..) hd]
    · rw [if_neg (fun q => hd q.2), if_neg (fun q => hd q.2)]
theorem effB_agree (p q : Eff → Bool) (b : Nat) : ∀ (es : List Eff) (bl : List (Nat × Option Blk)), (∀ e ∈ es, (∃ w ∈ e.wr, w.1 = b) → p e = q e) → lk (effB (es.filter p) bl) b = lk (effB (es.filter q) bl) b
  | [], bl, _ => rfl
  | e :: es, bl, h => by
    have ih := effB_agree p q b es bl fun e' he' => h e' (List.mem_cons_of_mem _ he')
    by_cases hw : ∃ w ∈ e.wr, w.1 = b
    · have hpq := h e (List.mem_cons_self ..) hw
      by_cases hp : p e = true
      · rw [List.filter_cons_of_pos hp, List.filter_cons_of_pos (hpq ▸ hp), effB, effB]
        exact lk_app_eq _ _ _ _ ih
      · rw [List.filter_cons_of_neg hp, List.filter_cons_of_neg (hpq ▸ hp)]
        exact ih
    · have hn : lk e.wr b = none := lk_none_of _ _ fun q hq e' => hw ⟨q, hq, e'⟩
      have one : ∀ (r : Eff → Bool), lk (effB ((e :: es).filter r) bl) b = lk (effB (es.filter r) bl) b := by
        intro r
        by_cases hr : r e = true
        · rw [List.filter_cons_of_pos hr, effB]; exact lk_none_app _ _ _ hn
        · rw [List.filter_cons_of_neg hr]
      rw [one p, one q, ih]
/-- The region is of good form. -/
structure Reg.Good (R : Reg) (ops : Array Oper) : Prop where
  low : ∀ i, i < ops.size → ∀ j, (R.an.getD i 0).testBit j = true → j < i
  dep : ∀ i o, ops[i]? = some o → ∀ j, (R.an.getD i 0).testBit j = true → ∃ e ∈ o.after, Region.binds .any e = true ∧ (e.on = j ∨ (R.an.getD e.on 0).testBit j = true)
  edge : ∀ i o, ops[i]? = some o → ∀ e ∈ o.after, Region.binds .any e = true → e.on < i
  seeT : ∀ i j o o', ops[i]? = some o → ops[j]? = some o' → inc R.an i j = true → ∀ d, o'.dst = some d → d ∉ sees o
  apartT : ∀ i j o o', ops[i]? = some o → ops[j]? = some o' → inc R.an i j = true → ∀ d, o.dst = some d → o'.dst ≠ some d
  apartB : ∀ i j, i < ops.size → j < ops.size → inc R.an i j = true → ∀ b, R.mayW i b = true → R.mayW j b = false
/-- What is known of one operation: it is done so, or it is passed over. -/
inductive Known (P : Program) (ops : Array Oper) (R : Reg) (st0 : St) (es : List Eff) (i : Nat) (o : Oper) (e : Eff) : Prop
  | did (hg : match o.guard with | none => True | some (j, want) => (R.an.getD i 0).testBit j = true ∧ ∃ t, (ops[j]?).bind (·.dst) = some t ∧ (∀ k o', ops[k]? = some o' → o'.dst = some t → k = j) ∧ ∃ e' ∈ es, e'.i = j ∧ e'.v = lit (.bool want)) (hd : dstOk st0 o) (hs : Stp P (sOf R st0 es i (sees o)) (R.n0 + 8 * i) o e.v e.wr)
  | not (j : Nat) (want : Bool) (hg : o.guard = some (j, want)) (ha : (R.an.getD i 0).testBit j = true) (t : Tmp) (ht : (ops[j]?).bind (·.dst) = some t) (hu1 : ∀ k o', ops[k]? = some o' → o'.dst = some t → k = j) (u : Value) (hl : ∃ e' ∈ es, e'.i = j ∧ e'.v = lit u) (hu : boolOf u ≠ some want) (hd : dstOk st0 o) (hv : e.v = lit undef) (hw : e.wr = [])
structure AllKnown (P : Program) (ops : Array Oper) (R : Reg) (st0 : St) (es : List Eff) : Prop where
  all : ∀ i o, ops[i]? = some o → ∃ e ∈ es, e.i = i ∧ Known P ops R st0 es i o e
  one : ∀ e ∈ es, ∃ o, ops[e.i]? = some o ∧ e.dst = o.dst ∧ ∀ w ∈ e.wr, R.mayW e.i w.1 = true
  uniq : ∀ e ∈ es, ∀ e' ∈ es, e.i = e'.i → e = e'
  sorted : List.Pairwise (fun a b => b.i < a.i) es
  own : ∀ t, st0.nl.own = some t → ∀ e ∈ es, e.dst ≠ some t
def inL (l : Array Bool) (e : Eff) : Bool := l.getD e.i false
def dAt (R : Reg) (l : Array Bool) : Nat → Prop := fun b => b < R.n0 ∨ ∃ j, l.getD j false = true ∧ slotB R.n0 j b = true
theorem RelOf.ext {X : Ctx} {A : Nat → Prop} {σ : Nat → Loc} {S : Kx → Prop} {st st' : St} {a : Act} {w : World} (h : RelOf X A σ S st a w) (hnt : st'.nt = st.nt) (hnl : st'.nl = st.nl) (ht : ∀ t, lk st'.tm t = lk st.tm t) (hb : ∀ b, st'.rd b = st.rd b) : RelOf X A σ S st' a w :=
  { h with
    tmps := fun t av q => h.tmps t av (ht t ▸ q)
    tmA := fun t av q => h.tmA t av (ht t ▸ q)
    blks := fun b k q => h.blks b k (hb b ▸ q)
    blA := fun b k q => h.blA b k (hb b ▸ q)
    apart := fun b b' k k' q q' => h.apart b b' k k' (hb b ▸ q) (hb b' ▸ q')
    notS := fun b k q => h.notS b k (hb b ▸ q)
    mine := fun b k q => h.mine b k (hb b ▸ q)
    nl := hnl.trans h.nl
    nt := h.nt.trans hnt.symm }
section
variable {ops : Array Oper} {R : Reg} {st0 : St} {es : List Eff}
/-- Closed: with an operation, all that come ahead of it. -/
def Closed (R : Reg) (l : Array Bool) : Prop := ∀ i, l.getD i false = true → ∀ j, (R.an.getD i 0).testBit j = true → l.getD j false = true
/-- What op i sees is there, whatever else has been done. -/
theorem see_le (hR : R.Good ops) (hK : AllKnown P ops R st0 es) {l : Array Bool} (hc : Closed R l) {i : Nat} {o : Oper} (ho : ops[i]? = some o) (hil : l.getD i false = false) (hanc : ∀ j, (R.an.getD i 0).testBit j = true → l.getD j false = true) :
    (sOf R st0 es i (sees o)).Le (stOf st0 (es.filter (inL l))) := by
  have key : ∀ e ∈ es, inc R.an i e.i = false → (R.an.getD i 0).testBit e.i = inL l e := by
    intro e he hn
    unfold inL
    by_cases h1 : (R.an.getD i 0).testBit e.i = true
    · rw [h1, hanc _ h1]
    · have h1' : (R.an.getD i 0).testBit e.i = false := by simpa using h1
      rw [h1']
      by_cases h2 : i = e.i
      · rw [← h2, hil]
      · have h3 : (R.an.getD e.i 0).testBit i = true := by
          unfold inc at hn
          rw [h1'] at hn
          simpa [h2] using hn
        by_cases h4 : l.getD e.i false = true
        · exact absurd (hc e.i h4 i h3) (by rw [hil]; simp)
        · exact (Bool.eq_false_iff.2 h4).symm
  refine ⟨rfl, rfl, ?_, ?_⟩
  · intro t v ht
    obtain ⟨h1, h2⟩ := lk_filter (fun t => (ownL st0.nl.own (sees o)).contains t) _ t v ht
    show lk (effT (es.filter (inL l)) st0.tm) t = some v
    rw [← h2]
    refine (effT_agree _ _ t es st0.tm fun e he hd => key e he ?_).symm
    obtain ⟨oe, hoe, hdo, _⟩ := hK.one e he
    cases hinc : inc R.an i e.i with
    | false => rfl
    | true =>
      rcases ownL_mem (List.contains_iff_mem.1 h1) with q | q
      · exact absurd hd (hK.own t q e he)
      · exact absurd q (hR.seeT i e.i o oe ho hoe hinc t (hdo ▸ hd))
  · intro b k hb
    unfold St.rd at hb ⊢
    simp only [sOf] at hb
    cases hq : lk (seeB R i (effB (anE R i es) st0.bl)) b with
    | none => simp [hq] at hb
    | some q =>
      obtain ⟨h1, h2⟩ := lk_filter (R.okB i) _ b q hq
      have : lk (effB (es.filter (inL l)) st0.bl) b = some q := by
        rw [← h2]
        refine (effB_agree _ _ b es st0.bl fun e he hw => key e he ?_).symm
        obtain ⟨oo, hoo, _, hmw⟩ := hK.one e he
        obtain ⟨w, hw1, hw2⟩ := hw
        have hm := hmw w hw1
        have hl : R.loud.contains e.i = true := by unfold Reg.mayW at hm; simp only [Bool.and_eq_true] at hm; exact hm.1
        have := List.all_eq_true.1 h1 e.i (List.contains_iff_mem.1 hl)
        rw [← hw2, hm] at this
        simpa using this
      simp only [stOf, this]
      rw [hq] at hb
      exact hb
/-- Done last, or in its place: the same. -/
theorem last_eq (hR : R.Good ops) (hK : AllKnown P ops R st0 es) {l : Array Bool} (hc : Closed R l) {i : Nat} {o : Oper} (ho : ops[i]? = some o) (hsz : l.size = ops.size) (hil : l.getD i false = false) {e : Eff} (he : e ∈ es) (hei : e.i = i) :
    (∀ t, lk (stOf st0 (es.filter (inL (l.setIfInBounds i true)))).tm t = lk ((stOf st0 (es.filter (inL l))).aft o.dst e.v e.wr).tm t) ∧
    ∀ b, (stOf st0 (es.filter (inL (l.setIfInBounds i true)))).rd b = ((stOf st0 (es.filter (inL l))).aft o.dst e.v e.wr).rd b := by
  have hi : i < ops.size := (Array.getElem?_eq_some_iff.1 ho).1
  have hin : ∀ e' : Eff, inL (l.setIfInBounds i true) e' = (inL l e' || e'.i == i) := by
    intro e'
    unfold inL
    rw [Array.getD_eq_getD_getElem?, Array.getD_eq_getD_getElem?]
    by_cases h : i = e'.i
    · rw [← h, Array.getElem?_setIfInBounds, if_pos rfl, if_pos (by omega)]; simp
    · have h' : (e'.i == i) = false := by rw [beq_eq_false_iff_ne]; exact fun q => h q.symm
      rw [Array.getElem?_setIfInBounds_ne h, h', Bool.or_false]
  -- whoever else is done does not touch what e touches, unless it comes ahead
  have hothers : ∀ e' ∈ es, inL l e' = true → (R.an.getD i 0).testBit e'.i = true ∨ inc R.an i e'.i = true := by
    intro e' he' hl'
    by_cases h1 : (R.an.getD i 0).testBit e'.i = true
    · exact .inl h1
    · right
      unfold inL at hl'
      have h2 : i ≠ e'.i := fun q => by rw [← q, hil] at hl'; cases hl'
      have h3 : ¬ (R.an.getD e'.i 0).testBit i = true := fun q => by have := hc e'.i hl' i q; rw [hil] at this; cases this
      unfold inc
      rw [Bool.eq_false_iff.2 h1, Bool.eq_false_iff.2 h3]
      simp [h2]
  obtain ⟨oe, hoe, hde, hwe⟩ := hK.one e he
  rw [hei] at hoe hwe
  rw [ho] at hoe
  cases hoe
  constructor
  · intro t
    simp only [stOf, St.aft]
    cases hd : o.dst with
    | none =>
      simp only [Option.toList, List.map_nil, List.nil_append]
      refine effT_agree _ _ t es st0.tm fun e' he' hd' => ?_
      rw [hin]
      have : (e'.i == i) = false := by
        rw [beq_eq_false_iff_ne]
        intro q
        have := hK.uniq e' he' e he (q.trans hei.symm)
        rw [this, hde, hd] at hd'
        cases hd'
      rw [this, Bool.or_false]
    | some d =>
      simp only [Option.toList, List.map_cons, List.map_nil, List.cons_append, List.nil_append, lk]
      by_cases e1 : d = t
      · rw [if_pos e1]
        subst e1
        -- the latest that writes d among those done is e
        have gen : ∀ (es' : List Eff), (∀ x ∈ es', x ∈ es) → e ∈ es' → List.Pairwise (fun a b => b.i < a.i) es' → lk (effT (es'.filter (inL (l.setIfInBounds i true))) st0.tm) d = some e.v := by
          intro es'
          induction es' with
          | nil => intro _ h; cases h
          | cons x xs ih =>
            intro hsub hmem hpw
            by_cases hx : x = e
            · subst hx
              have : inL (l.setIfInBounds i true) x = true := by rw [hin, hei]; simp
              rw [List.filter_cons_of_pos this, effT, hde, hd]
              simp [lk]
            · have hxe : e ∈ xs := (List.mem_cons.1 hmem).resolve_left (fun q => hx q.symm)
              have hgt : e.i < x.i := (List.pairwise_cons.1 hpw).1 e hxe
              have ih' := ih (fun y hy => hsub y (List.mem_cons_of_mem _ hy)) hxe (List.pairwise_cons.1 hpw).2
              by_cases hp : inL (l.setIfInBounds i true) x = true
              · rw [List.filter_cons_of_pos hp, effT]
                have hxl : inL l x = true := by
                  rw [hin] at hp
                  have : (x.i == i) = false := by rw [beq_eq_false_iff_ne]; omega
                  rwa [this, Bool.or_false] at hp
                have hxes := hsub x (List.mem_cons_self ..)
                obtain ⟨ox, hox, hdx, _⟩ := hK.one x hxes
                have hxi : x.i < ops.size := (Array.getElem?_eq_some_iff.1 hox).1
                have hincx : inc R.an i x.i = true := (hothers x hxes hxl).resolve_left (fun q => by have := hR.low i hi x.i q; omega)
                have hne := hR.apartT i x.i o ox ho hox hincx d hd
                rw [← hdx] at hne
                cases hxd : x.dst with
                | none => exact ih'
                | some d' =>
                  simp only [lk]
                  rw [if_neg (fun q => hne (by rw [hxd, q]))]
                  exact ih'
              · rw [List.filter_cons_of_neg hp]; exact ih'
        exact gen es (fun _ h => h) he hK.sorted
      · rw [if_neg e1]
        refine effT_agree _ _ t es st0.tm fun e' he' hd' => ?_
        rw [hin]
        have : (e'.i == i) = false := by
          rw [beq_eq_false_iff_ne]
          intro q
          have := hK.uniq e' he' e he (q.trans hei.symm)
          rw [this, hde, hd] at hd'
          exact e1 (Option.some.inj hd')
        rw [this, Bool.or_false]
  · intro b
    unfold St.rd
    simp only [stOf, St.aft]
    congr 1
    by_cases hb : ∃ w ∈ e.wr, w.1 = b
    · have gen : ∀ (es' : List Eff), (∀ x ∈ es', x ∈ es) → e ∈ es' → List.Pairwise (fun a b => b.i < a.i) es' → lk (effB (es'.filter (inL (l.setIfInBounds i true))) st0.bl) b = lk (e.wr ++ effB (es'.filter (inL l)) st0.bl) b := by
        intro es'
        induction es' with
        | nil => intro _ h; cases h
        | cons x xs ih =>
          intro hsub hmem hpw
          by_cases hx : x = e
          · subst hx
            have h1 : inL (l.setIfInBounds i true) x = true := by rw [hin, hei]; simp
            have h2 : inL l x = false := by unfold inL; rw [hei]; exact hil
            rw [List.filter_cons_of_pos h1, effB, List.filter_cons_of_neg (by rw [h2]; simp)]
            refine lk_app_eq _ _ _ _ (effB_agree _ _ b xs st0.bl fun y hy _ => ?_)
            rw [hin]
            have : (y.i == i) = false := by rw [beq_eq_false_iff_ne]; have := (List.pairwise_cons.1 hpw).1 y hy; omega
            rw [this, Bool.or_false]
          · have hxe : e ∈ xs := (List.mem_cons.1 hmem).resolve_left (fun q => hx q.symm)
            have hgt : e.i < x.i := (List.pairwise_cons.1 hpw).1 e hxe
            have ih' := ih (fun y hy => hsub y (List.mem_cons_of_mem _ hy)) hxe (List.pairwise_cons.1 hpw).2
            have hxeq : inL (l.setIfInBounds i true) x = inL l x := by
              rw [hin]
              have : (x.i == i) = false := by rw [beq_eq_false_iff_ne]; omega
              rw [this, Bool.or_false]
            by_cases hp : inL l x = true
            · rw [List.filter_cons_of_pos (hxeq ▸ hp), List.filter_cons_of_pos hp, effB, effB]
              have hxes := hsub x (List.mem_cons_self ..)
              obtain ⟨ox, hox, _, hwx⟩ := hK.one x hxes
              have hxi : x.i < ops.size := (Array.getElem?_eq_some_iff.1 hox).1
              have hincx : inc R.an i x.i = true := (hothers x hxes hp).resolve_left (fun q => by have := hR.low i hi x.i q; omega)
              obtain ⟨w, hw1, hw2⟩ := hb
              have hmine : R.mayW i b = true := hw2 ▸ hwe w hw1
              have hnot := hR.apartB i x.i hi hxi hincx b hmine
              have hnone : lk x.wr b = none := lk_none_of _ _ fun q hq e' => by have := hwx q hq; rw [e', hnot] at this; cases this
              rw [lk_none_app _ _ _ hnone, ih']
              refine lk_app_eq _ _ _ _ ?_
              rw [lk_none_app _ _ _ hnone]
            · rw [List.filter_cons_of_neg (hxeq ▸ hp), List.filter_cons_of_neg hp]; exact ih'
      exact gen es (fun _ h => h) he hK.sorted
    · have hn : lk e.wr b = none := lk_none_of _ _ fun q hq e' => hb ⟨q, hq, e'⟩
      rw [lk_none_app _ _ _ hn]
      refine effB_agree _ _ b es st0.bl fun e' he' hw' => ?_
      rw [hin]
      have : (e'.i == i) = false := by
        rw [beq_eq_false_iff_ne]
        intro q
        have := hK.uniq e' he' e he (q.trans hei.symm)
        rw [this] at hw'
        exact hb hw'
      rw [this, Bool.or_false]
end
end Go.Abs
