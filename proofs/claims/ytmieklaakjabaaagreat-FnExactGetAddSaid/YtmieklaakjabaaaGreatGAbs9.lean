import Derived.Test.YtmieklaakjabaaaGreatGAbs8
set_option linter.unusedSimpArgs false
set_option linter.unusedVariables false
namespace Go.Abs
open Go Go.RowKit
def PostO (own : Bool) (w : World) (nl : Nat) (σ : Nat → Loc) (S : Kx → Prop) (r : AV) (out : List Blk) (v : Value) (w' : World) : Prop :=
  ∃ (σ' : Nat → Loc) (S' : Kx → Prop), RepV w' S' σ' r v ∧ r.InA (· < out.length) ∧ nl ≤ out.length ∧
    (∀ b blk, out[b]? = some blk → BlkRep w' S' σ' b blk ∧ blk.inA (· < out.length) ∧ ∀ x, S' x → x.b ≠ (σ' b).k) ∧ (∀ b b', b < out.length → b' < out.length → b ≠ b' → (σ' b).k ≠ (σ' b').k) ∧
    (∀ b, b < nl → σ' b = σ b) ∧ (∀ b, nl ≤ b → b < out.length → w.heap.size ≤ (σ' b).k) ∧
    (∀ k, S' k → k.b < w'.heap.size) ∧ (∀ k, S' k → k.b < w.heap.size → S k) ∧ w'.os = w.os ∧ w'.tape = w.tape ∧ w'.output = w.output ∧ w.heap.size ≤ w'.heap.size ∧
    (∀ k, k < w.heap.size → (∀ b, b < nl → (σ b).k ≠ k) → w'.heap[k]? = w.heap[k]?) ∧ SOk S' ∧ (own = false → Free S')
/-- The function f at these arguments, these blocks lent to it, hands back r, with these blocks behind it (the lent ones first). own: what it hands back may hold rows of its own. -/
def GoodO (own : Bool) (P : Program) (f : FuncId) (args : List AV) (lent : List Blk) (r : AV) (out : List Blk) : Prop :=
  ∀ (w : World) (vs : Array Value) (σ : Nat → Loc) (S : Kx → Prop),
    args.length = vs.size → (∀ (i : Nat) av v, args[i]? = some av → vs[i]? = some v → RepV w S σ av v) → (∀ av ∈ args, av.InA (· < lent.length)) →
    (∀ (b : Nat) blk, lent[b]? = some blk → BlkRep w S σ b blk ∧ blk.inA (· < lent.length) ∧ ∀ x, S x → x.b ≠ (σ b).k) →
    (∀ b b', b < lent.length → b' < lent.length → b ≠ b' → (σ b).k ≠ (σ b').k) → (∀ k, S k → k.b < w.heap.size) → Glob w S → Free S →
    Calls P f vs w fun en w' => ∃ v, en = .returned v ∧ PostO own w lent.length σ S r out v w'
@[reducible] def Good (P : Program) (f : FuncId) (args : List AV) (lent : List Blk) (r : AV) (out : List Blk) : Prop := GoodO false P f args lent r out
theorem GoodO.up {own : Bool} {P : Program} {f : FuncId} {args : List AV} {lent : List Blk} {r : AV} {out : List Blk} (h : GoodO own P f args lent r out) : GoodO true P f args lent r out := by
  intro w vs σ S h1 h2 h3 h4 h5 h6 h7 h8
  refine (h w vs σ S h1 h2 h3 h4 h5 h6 h7 h8).mono ?_
  rintro en w' ⟨v, rfl, σ', S', p⟩
  obtain ⟨p1, p2, p3, p4, p5, p6, p7, p8, p9, p10, p11, p12, p13, p14, p15, _⟩ := p
  exact ⟨v, rfl, σ', S', p1, p2, p3, p4, p5, p6, p7, p8, p9, p10, p11, p12, p13, p14, p15, fun q => by cases q⟩
/-- The function f hands back a row of m elements: in a new block, or in one of those that were lent to it; none of these is used any more. -/
def GoodE (P : Program) (f : FuncId) (args : List AV) (lent : List Blk) (m sz : Nat) (els : List (List PV)) : Prop :=
  ∀ (own : Bool) (w : World) (vs : Array Value) (σ : Nat → Loc) (S : Kx → Prop),
    args.length = vs.size → (∀ (i : Nat) av v, args[i]? = some av → vs[i]? = some v → RepV w S σ av v) → (∀ av ∈ args, av.InA (· < lent.length)) →
    (∀ (b : Nat) blk, lent[b]? = some blk → BlkRep w S σ b blk ∧ blk.inA (· < lent.length) ∧ ∀ x, S x → x.b ≠ (σ b).k) →
    (∀ b b', b < lent.length → b' < lent.length → b ≠ b' → (σ b).k ≠ (σ b').k) → (∀ k, S k → k.b < w.heap.size) → Glob w S → SOk S → (own = false → Free S) →
    Calls P f vs w fun en w' => ∃ v, en = .returned v ∧ ∃ (j : Nat) (out : List Blk), out[j]? = some (.arr sz els) ∧ out.length ≤ lent.length + 1 ∧ (j = lent.length ∨ out.length = lent.length) ∧ PostO own w lent.length σ S (.one (.hs j 0 m)) out v w'
/-- As PostO; what is somebody's own there (S tells it) may have been changed. -/
def PostX (own : Bool) (w : World) (nl : Nat) (σ : Nat → Loc) (S : Kx → Prop) (r : AV) (out : List Blk) (v : Value) (w' : World) : Prop :=
  ∃ (σ' : Nat → Loc) (S' : Kx → Prop), RepV w' S' σ' r v ∧ r.InA (· < out.length) ∧ nl ≤ out.length ∧
    (∀ b blk, out[b]? = some blk → BlkRep w' S' σ' b blk ∧ blk.inA (· < out.length) ∧ ∀ x, S' x → x.b ≠ (σ' b).k) ∧ (∀ b b', b < out.length → b' < out.length → b ≠ b' → (σ' b).k ≠ (σ' b').k) ∧
    (∀ b, b < nl → σ' b = σ b) ∧ (∀ b, nl ≤ b → b < out.length → w.heap.size ≤ (σ' b).k) ∧
    (∀ k, S' k → k.b < w'.heap.size) ∧ (∀ k, S' k → k.b < w.heap.size → S k) ∧ w'.os = w.os ∧ w'.tape = w.tape ∧ w'.output = w.output ∧ w.heap.size ≤ w'.heap.size ∧
    (∀ k, k < w.heap.size → (∀ b, b < nl → (σ b).k ≠ k) → (∀ t, ¬ S (.t k t)) → w'.heap[k]? = w.heap[k]?) ∧ SOk S' ∧ (own = false → Free S')
/-- The function f, that may change what is somebody's own. -/
def GoodM (P : Program) (f : FuncId) (args : List AV) (lent : List Blk) (r : AV) (out : List Blk) : Prop :=
  ∀ (w : World) (vs : Array Value) (σ : Nat → Loc) (S : Kx → Prop),
    args.length = vs.size → (∀ (i : Nat) av v, args[i]? = some av → vs[i]? = some v → RepV w S σ av v) → (∀ av ∈ args, av.InA (· < lent.length)) →
    (∀ (b : Nat) blk, lent[b]? = some blk → BlkRep w S σ b blk ∧ blk.inA (· < lent.length) ∧ ∀ x, S x → x.b ≠ (σ b).k) →
    (∀ b b', b < lent.length → b' < lent.length → b ≠ b' → (σ b).k ≠ (σ b').k) → (∀ k, S k → k.b < w.heap.size) → Glob w S → SOk S →
    Calls P f vs w fun en w' => ∃ v, en = .returned v ∧ PostX true w lent.length σ S r out v w'
def Callable (P : Program) (f : FuncId) : Prop := ∀ args w, (callFunc f args).run P w = .ok (.enter f args) w
/-! ### renaming -/
def AC.ren (g : Nat → Nat) : AC → AC
  | .p x => .p x
  | .hs b lo n => .hs (g b) lo n
  | .hp b i j => .hp (g b) i j
  | .fp el j => .fp el j
mutual
def AV.ren (g : Nat → Nat) : AV → AV
  | .one c => .one (c.ren g)
  | .agg cs => .agg (cs.map (AC.ren g))
  | .tup vs => .tup (AV.rens g vs)
  | .clo f cs => .clo f (cs.map (AC.ren g))
  | .unk => .unk
def AV.rens (g : Nat → Nat) : List AV → List AV
  | [] => []
  | v :: vs => AV.ren g v :: AV.rens g vs
end
theorem AV.rens_map (g : Nat → Nat) : ∀ vs : List AV, AV.rens g vs = vs.map (AV.ren g)
  | [] => rfl
  | v :: vs => by rw [AV.rens, AV.rens_map g vs]; rfl
theorem AV.ren_tup (g : Nat → Nat) (vs : List AV) : AV.ren g (.tup vs) = .tup (vs.map (AV.ren g)) := by
  rw [AV.ren, AV.rens_map]
/-- Each but once, in the order in which they come. -/
def once (acc : List Nat) : List Nat → List Nat
  | [] => acc.reverse
  | x :: xs => match acc.contains x with
    | true => once acc xs
    | false => once (x :: acc) xs
def Blk.ren (g : Nat → Nat) : Blk → Blk
  | .arr sz els => .arr sz els
  | .box cs => .box (cs.map (AC.ren g))
theorem RepC.ren {w w' : World} {S S' : Kx → Prop} {σ τ : Nat → Loc} {A : Nat → Prop} {g : Nat → Nat} {c : AC} {v : Value} (h : RepC w S σ c v) (hA : c.inA A) (hw : ∀ k, S k → w'.heap[k.b]? = w.heap[k.b]?) (hS : ∀ k, S k → S' k)
    (hg : ∀ b, A b → τ (g b) = σ b) : RepC w' S' τ (c.ren g) v := by
  cases h with
  | p h => exact .p (h.mono hw hS)
  | hs b lo n cap h hn => have e := hg b hA; rw [← e] at h ⊢; exact .hs (g b) lo n cap h hn
  | hs0 b lo a => exact .hs0 (g b) lo a
  | hp b i j => have e := hg b hA; rw [← e]; exact .hp (g b) i j
  | fp el j k o hk h => exact .fp el j k o (hS _ hk) fun i x hi => let ⟨v, h1, h2⟩ := h i x hi; ⟨v, (World.cell?_of_block (w := w) (hw _ hk)).trans h1, h2.mono hw hS⟩
theorem RepV.ren {w w' : World} {S S' : Kx → Prop} {σ τ : Nat → Loc} {A : Nat → Prop} {g : Nat → Nat} {x : AV} {v : Value} (h : RepV w S σ x v) (hA : x.InA A) (hw : ∀ k, S k → w'.heap[k.b]? = w.heap[k.b]?) (hS : ∀ k, S k → S' k)
    (hg : ∀ b, A b → τ (g b) = σ b) : RepV w' S' τ (x.ren g) v := by
  induction h with
  | one h => cases hA with | one hA => rw [AV.ren]; exact .one (h.ren hA hw hS hg)
  | agg cs vs hl h =>
    cases hA with
    | agg hA =>
      rw [AV.ren]
      refine .agg _ vs (by simpa using hl) fun i c v h1 h2 => ?_
      rw [List.getElem?_map] at h1
      cases hc : cs[i]? with
      | none => simp [hc] at h1
      | some d => simp only [hc, Option.map_some, Option.some.injEq] at h1; subst h1; exact (h i d v hc h2).ren (hA d (List.mem_of_getElem? hc)) hw hS hg
  | tup as vs hl h ih =>
    cases hA with
    | tup hA =>
      rw [AV.ren_tup]
      refine .tup _ vs (by simpa using hl) fun i c v h1 h2 => ?_
      rw [List.getElem?_map] at h1
      cases hc : as[i]? with
      | none => simp [hc] at h1
      | some d => simp only [hc, Option.map_some, Option.some.injEq] at h1; subst h1; exact ih i d v hc h2 (hA d (List.mem_of_getElem? hc))
  | clo f cs vs hl h =>
    cases hA with
    | clo hA =>
      rw [AV.ren]
      refine .clo f _ vs (by simpa using hl) fun i c v h1 h2 => ?_
      rw [List.getElem?_map] at h1
      cases hc : cs[i]? with
      | none => simp [hc] at h1
      | some d => simp only [hc, Option.map_some, Option.some.injEq] at h1; subst h1; exact (h i d v hc h2).ren (hA d (List.mem_of_getElem? hc)) hw hS hg
  | unk v => rw [AV.ren]; exact .unk v
theorem AC.inA_ren {A A' : Nat → Prop} {g : Nat → Nat} {c : AC} (h : c.inA A) (hg : ∀ b, A b → A' (g b)) : (c.ren g).inA A' := by cases c <;> first | trivial | exact hg _ h
theorem AV.InA.ren {A A' : Nat → Prop} {g : Nat → Nat} {x : AV} (h : x.InA A) (hg : ∀ b, A b → A' (g b)) : (x.ren g).InA A' := by
  induction h with
  | one h => rw [AV.ren]; exact .one (AC.inA_ren h hg)
  | agg h => rw [AV.ren]; exact .agg fun c hc => by obtain ⟨d, hd, rfl⟩ := List.mem_map.1 hc; exact AC.inA_ren (h d hd) hg
  | tup h ih => rw [AV.ren_tup]; exact .tup fun c hc => by obtain ⟨d, hd, rfl⟩ := List.mem_map.1 hc; exact ih d hd
  | clo h => rw [AV.ren]; exact .clo fun c hc => by obtain ⟨d, hd, rfl⟩ := List.mem_map.1 hc; exact AC.inA_ren (h d hd) hg
  | unk => rw [AV.ren]; exact .unk
theorem Blk.inA_ren {A A' : Nat → Prop} {g : Nat → Nat} {x : Blk} (h : x.inA A) (hg : ∀ b, A b → A' (g b)) : (x.ren g).inA A' := by
  cases x with
  | arr => trivial
  | box cs => intro c hc; obtain ⟨d, hd, rfl⟩ := List.mem_map.1 hc; exact AC.inA_ren (h d hd) hg
theorem BlkRep.ren {w w' : World} {S S' : Kx → Prop} {σ τ : Nat → Loc} {A : Nat → Prop} {g : Nat → Nat} {b : Nat} {blk : Blk} (h : BlkRep w S σ b blk) (hA : blk.inA A) (hb : τ (g b) = σ b) (hw : ∀ k, S k → w'.heap[k.b]? = w.heap[k.b]?) (hS : ∀ k, S k → S' k)
    (hg : ∀ b, A b → τ (g b) = σ b) (hsame : w'.heap[(σ b).k]? = w.heap[(σ b).k]?) : BlkRep w' S' τ (g b) (blk.ren g) := by
  obtain ⟨c, ty, fr, h1, h0, h2, h3, h4⟩ := h
  refine ⟨c, ty, fr, ?_, by rw [hb]; exact h0, ?_, h3, ?_⟩
  · rw [hb, hsame]; exact h1
  · rw [hb]; exact h2
  · cases blk with
    | arr sz els => simp only [Blk.ren]; rw [hb]; exact ⟨h4.1, h4.2.1, fun i el hi => ⟨(h4.2.2 i el hi).1, fun j x hj => let ⟨v, q1, q2⟩ := (h4.2.2 i el hi).2 j x hj; ⟨v, q1, q2.mono hw hS⟩⟩⟩
    | box cs =>
      simp only [Blk.ren]
      rw [hb]
      refine ⟨h4.1, by simpa using h4.2.1, fun j x hj => ?_⟩
      rw [List.getElem?_map] at hj
      cases hc : cs[j]? with
      | none => simp [hc] at hj
      | some d =>
        simp only [hc, Option.map_some, Option.some.injEq] at hj
        subst hj
        obtain ⟨v, q1, q2⟩ := h4.2.2 j d hc
        exact ⟨v, q1, q2.ren (hA d (List.mem_of_getElem? hc)) hw hS hg⟩
/-! ### what is handed to a callee -/
/-- A cell as the callee sees it: a slice of ours as a plain one, unless its block is lent; Ls: the lent names. The list: what was borrowed. -/
def passC (st : St) (Ls : List Nat) : AC → Option (AC × List Nat × Prop)
  | .p x => some (.p x, [], True)
  | .fp el j => some (.fp el j, [], True)
  | .hs b lo n => if Ls.contains b then some (.hs (Ls.idxOf b) lo n, [], True) else match st.rd b with
    | some (.arr _ els) => some (.p (.sl ((els.drop lo).take n)), [b], lo + n ≤ els.length)
    | _ => none
  | .hp b i j => if Ls.contains b then some (.hp (Ls.idxOf b) i j, [], True) else none
def passCs (st : St) (Ls : List Nat) : List AC → Option (List AC × List Nat × Prop)
  | [] => some ([], [], True)
  | c :: cs => match passC st Ls c, passCs st Ls cs with
    | some (d, k, p), some (ds, ks, q) => some (d :: ds, k ++ ks, p ∧ q)
    | _, _ => none
def passV (st : St) (Ls : List Nat) : AV → Option (AV × List Nat × Prop)
  | .one c => match passC st Ls c with
    | some (d, k, p) => some (.one d, k, p)
    | none => none
  | .agg cs => match passCs st Ls cs with
    | some (ds, k, p) => some (.agg ds, k, p)
    | none => none
  | .clo f cs => match passCs st Ls cs with
    | some (ds, k, p) => some (.clo f ds, k, p)
    | none => none
  | _ => none
def passVs (st : St) (Ls : List Nat) : List AV → Option (List AV × List Nat × Prop)
  | [] => some ([], [], True)
  | c :: cs => match passV st Ls c, passVs st Ls cs with
    | some (d, k, p), some (ds, ks, q) => some (d :: ds, k ++ ks, p ∧ q)
    | _, _ => none
variable {P : Program} {X : Ctx} {A A' : Nat → Prop} {σ : Nat → Loc} {S : Kx → Prop} {st : St} {a : Act} {w w' : World}
def addS (S : Kx → Prop) (σ : Nat → Loc) (bs : List Nat) : Kx → Prop := fun k => S k ∨ ∃ b ∈ bs, k = .m (σ b).k
theorem idx_get {Ls : List Nat} {b : Nat} (h : Ls.contains b = true) : Ls.idxOf b < Ls.length ∧ Ls[Ls.idxOf b]? = some b := by
  have hm : b ∈ Ls := List.contains_iff_mem.1 h
  have hlt := List.idxOf_lt_length_of_mem hm
  exact ⟨hlt, by rw [List.getElem?_eq_getElem hlt, List.getElem_idxOf hlt]⟩
def lentσ (σ : Nat → Loc) (Ls : List Nat) : Nat → Loc := fun i => σ (Ls.getD i 0)
theorem lentσ_idx {Ls : List Nat} {b : Nat} (h : Ls.contains b = true) : lentσ σ Ls (Ls.idxOf b) = σ b := by
  unfold lentσ
  rw [List.getD_eq_getElem?_getD, (idx_get h).2]
  rfl
theorem passC_sound (h : RelOf X A σ S st a w) {bs : List Nat} (hF : bs = [] ∨ Free S) {Ls : List Nat} {c d : AC} {k : List Nat} {p : Prop} {v : Value} (hp : passC st Ls c = some (d, k, p)) (hpre : p) (hk : ∀ b ∈ k, b ∈ bs) (hc : RepC w S σ c v) :
    RepC w (addS S σ bs) (lentσ σ Ls) d v ∧ d.inA (· < Ls.length) := by
  cases c with
  | p x =>
    simp only [passC, Option.some.injEq, Prod.mk.injEq] at hp
    obtain ⟨rfl, _, _⟩ := hp
    cases hc with | p hx => exact ⟨.p (hx.mono (fun _ _ => rfl) (fun _ q => .inl q)), trivial⟩
  | fp el j =>
    simp only [passC, Option.some.injEq, Prod.mk.injEq] at hp
    obtain ⟨rfl, _, _⟩ := hp
    exact ⟨hc.mono (A := fun _ => False) trivial (fun _ _ => rfl) (fun _ q => .inl q) (fun b hb => hb.elim), trivial⟩
  | hs b lo n =>
    simp only [passC] at hp
    split at hp
    · rename_i hin
      simp only [Option.some.injEq, Prod.mk.injEq] at hp
      obtain ⟨rfl, _, _⟩ := hp
      refine ⟨?_, (idx_get hin).1⟩
      cases hc with
      | hs _ _ _ cap h1 h2 => have e := lentσ_idx (σ := σ) hin; rw [← e] at h1 ⊢; exact .hs _ lo n cap h1 h2
      | hs0 _ _ a' => exact .hs0 _ _ _
    · split at hp
      · rename_i sz els hr
        simp only [Option.some.injEq, Prod.mk.injEq] at hp
        obtain ⟨rfl, rfl, rfl⟩ := hp
        refine ⟨?_, trivial⟩
        cases hc with
        | hs _ _ _ cap h1 h2 => exact .p ((h.blks b _ hr).slice (hF.elim (fun e => by subst e; exact absurd (hk b (by simp)) (by simp)) id) (fun _ q => .inl q) (.inr ⟨b, hk b (by simp), rfl⟩) lo n cap hpre h2)
        | hs0 _ _ a' => rw [List.take_zero]; exact .p (.nil a' 0)
      · cases hp
  | hp b i j =>
    simp only [passC] at hp
    split at hp
    · rename_i hin
      simp only [Option.some.injEq, Prod.mk.injEq] at hp
      obtain ⟨rfl, _, _⟩ := hp
      refine ⟨?_, (idx_get hin).1⟩
      cases hc with
      | hp => have e := lentσ_idx (σ := σ) hin; rw [← e]; exact .hp _ i j
    · cases hp
theorem passCs_sound (h : RelOf X A σ S st a w) {Ls : List Nat} (bs : List Nat) (hF : bs = [] ∨ Free S) : ∀ {cs ds : List AC} {k : List Nat} {p : Prop} {vs : List Value} (_ : passCs st Ls cs = some (ds, k, p)) (_ : p) (_ : ∀ b ∈ k, b ∈ bs) (_ : cs.length = vs.length)
    (_ : ∀ (i : Nat) c v, cs[i]? = some c → vs[i]? = some v → RepC w S σ c v), ds.length = vs.length ∧ (∀ (i : Nat) d v, ds[i]? = some d → vs[i]? = some v → RepC w (addS S σ bs) (lentσ σ Ls) d v) ∧ ∀ d ∈ ds, d.inA (· < Ls.length)
  | [], ds, k, p, vs, hp, _, _, hl, _ => by
    simp only [passCs, Option.some.injEq, Prod.mk.injEq] at hp
    obtain ⟨rfl, _, _⟩ := hp
    exact ⟨hl, fun i d v h1 => by simp at h1, fun d hd => by cases hd⟩
  | c :: cs, ds, k, p, vs, hp, hpre, hk, hl, hr => by
    cases vs with
    | nil => cases hl
    | cons v vs =>
      simp only [passCs] at hp
      split at hp
      · rename_i d k1 p1 ds' k2 p2 h1 h2
        simp only [Option.some.injEq, Prod.mk.injEq] at hp
        obtain ⟨rfl, rfl, rfl⟩ := hp
        obtain ⟨g1, g2⟩ := passC_sound h hF h1 hpre.1 (fun b hb => hk b (List.mem_append_left _ hb)) (hr 0 c v rfl rfl)
        obtain ⟨f1, f2, f3⟩ := passCs_sound h bs hF (vs := vs) h2 hpre.2 (fun b hb => hk b (List.mem_append_right _ hb)) (by simpa using hl) (fun i c' v' e1 e2 => hr (i + 1) c' v' e1 e2)
        refine ⟨by simpa using f1, ?_, ?_⟩
        · intro i d' v' e1 e2
          cases i with
          | zero => cases e1; cases e2; exact g1
          | succ i => exact f2 i d' v' e1 e2
        · intro d' hd'
          rcases List.mem_cons.1 hd' with rfl | hd'
          · exact g2
          · exact f3 d' hd'
      · cases hp
theorem passV_sound (h : RelOf X A σ S st a w) {Ls : List Nat} (bs : List Nat) (hF : bs = [] ∨ Free S) {x y : AV} {k : List Nat} {p : Prop} {v : Value} (hp : passV st Ls x = some (y, k, p)) (hpre : p) (hk : ∀ b ∈ k, b ∈ bs) (hv : RepV w S σ x v) :
    RepV w (addS S σ bs) (lentσ σ Ls) y v ∧ y.InA (· < Ls.length) := by
  cases hv with
  | one hv =>
    simp only [passV] at hp
    split at hp
    · rename_i d k1 p1 h1
      simp only [Option.some.injEq, Prod.mk.injEq] at hp
      obtain ⟨rfl, rfl, rfl⟩ := hp
      obtain ⟨g1, g2⟩ := passC_sound h hF h1 hpre hk hv
      exact ⟨.one g1, .one g2⟩
    · cases hp
  | agg cs vs hl hh =>
    simp only [passV] at hp
    split at hp
    · rename_i d k1 p1 h1
      simp only [Option.some.injEq, Prod.mk.injEq] at hp
      obtain ⟨rfl, rfl, rfl⟩ := hp
      obtain ⟨g1, g2, g3⟩ := passCs_sound h bs hF (vs := vs.toList) h1 hpre hk (by simpa using hl) (fun i c v e1 e2 => hh i c v e1 (by simpa using e2))
      exact ⟨.agg _ _ (by simpa using g1) (fun i c v e1 e2 => g2 i c v e1 (by simpa using e2)), .agg g3⟩
    · cases hp
  | clo f cs vs hl hh =>
    simp only [passV] at hp
    split at hp
    · rename_i d k1 p1 h1
      simp only [Option.some.injEq, Prod.mk.injEq] at hp
      obtain ⟨rfl, rfl, rfl⟩ := hp
      obtain ⟨g1, g2, g3⟩ := passCs_sound h bs hF (vs := vs.toList) h1 hpre hk (by simpa using hl) (fun i c v e1 e2 => hh i c v e1 (by simpa using e2))
      exact ⟨.clo _ _ _ (by simpa using g1) (fun i c v e1 e2 => g2 i c v e1 (by simpa using e2)), .clo g3⟩
    · cases hp
  | tup => cases hp
  | unk => cases hp
theorem passVs_sound (h : RelOf X A σ S st a w) {Ls : List Nat} (bs : List Nat) (hF : bs = [] ∨ Free S) : ∀ {cs ds : List AV} {k : List Nat} {p : Prop} {vs : List Value} (_ : passVs st Ls cs = some (ds, k, p)) (_ : p) (_ : ∀ b ∈ k, b ∈ bs) (_ : cs.length = vs.length)
    (_ : ∀ (i : Nat) c v, cs[i]? = some c → vs[i]? = some v → RepV w S σ c v), ds.length = vs.length ∧ (∀ (i : Nat) d v, ds[i]? = some d → vs[i]? = some v → RepV w (addS S σ bs) (lentσ σ Ls) d v) ∧ ∀ d ∈ ds, d.InA (· < Ls.length)
  | [], ds, k, p, vs, hp, _, _, hl, _ => by
    simp only [passVs, Option.some.injEq, Prod.mk.injEq] at hp
    obtain ⟨rfl, _, _⟩ := hp
    exact ⟨hl, fun i d v h1 => by simp at h1, fun d hd => by cases hd⟩
  | c :: cs, ds, k, p, vs, hp, hpre, hk, hl, hr => by
    cases vs with
    | nil => cases hl
    | cons v vs =>
      simp only [passVs] at hp
      split at hp
      · rename_i d k1 p1 ds' k2 p2 h1 h2
        simp only [Option.some.injEq, Prod.mk.injEq] at hp
        obtain ⟨rfl, rfl, rfl⟩ := hp
        obtain ⟨g1, g2⟩ := passV_sound h bs hF h1 hpre.1 (fun b hb => hk b (List.mem_append_left _ hb)) (hr 0 c v rfl rfl)
        obtain ⟨f1, f2, f3⟩ := passVs_sound h bs hF (vs := vs) h2 hpre.2 (fun b hb => hk b (List.mem_append_right _ hb)) (by simpa using hl) (fun i c' v' e1 e2 => hr (i + 1) c' v' e1 e2)
        refine ⟨by simpa using f1, ?_, ?_⟩
        · intro i d' v' e1 e2
          cases i with
          | zero => cases e1; cases e2; exact g1
          | succ i => exact f2 i d' v' e1 e2
        · intro d' hd'
          rcases List.mem_cons.1 hd' with rfl | hd'
          · exact g2
          · exact f3 d' hd'
      · cases hp
/-! ### the call -/
/-- Nothing in it is a slice that others hold. -/
def PV.noSl : PV → Prop
  | .lit _ => True
  | .sl _ => False
  | .own _ _ => True
def AC.noSl : AC → Prop
  | .p x => x.noSl
  | .fp _ _ => False
  | _ => True
inductive AV.NoSl : AV → Prop
  | one {c : AC} (h : c.noSl) : NoSl (.one c)
  | agg {cs : List AC} (h : ∀ c ∈ cs, c.noSl) : NoSl (.agg cs)
  | tup {vs : List AV} (h : ∀ v ∈ vs, NoSl v) : NoSl (.tup vs)
  | unk : NoSl .unk
def Blk.noSl : Blk → Prop
  | .arr _ els => ∀ el ∈ els, ∀ x ∈ el, x.noSl
  | .box cs => ∀ c ∈ cs, c.noSl
theorem RepP.noSl {S' : Kx → Prop} (hT : ∀ k t, S (.t k t) → S' (.t k t)) {x : PV} {v : Value} (h : RepP w S x v) (hn : x.noSl) : RepP w S' x v := by
  cases h with
  | lit v => exact .lit v
  | own0 t k hk a cap => exact .own0 t k (hT _ _ hk) a cap
  | own t els k sz n cap tot c ty fr hl hcap hct hk hb hfr hcs hone hsz hc => exact .own t els k sz n cap tot c ty fr hl hcap hct (hT _ _ hk) hb hfr hcs hone hsz hc
  | _ => exact hn.elim
theorem RepC.noSl {S' : Kx → Prop} (hT : ∀ k t, S (.t k t) → S' (.t k t)) {x : AC} {v : Value} (h : RepC w S σ x v) (hn : x.noSl) : RepC w S' σ x v := by
  cases h with
  | p h => exact .p (h.noSl hT hn)
  | hs b lo n cap h1 h2 => exact .hs b lo n cap h1 h2
  | hs0 b lo a => exact .hs0 b lo a
  | hp b i j => exact .hp b i j
  | fp => exact hn.elim
theorem RepV.noSl {S' : Kx → Prop} (hT : ∀ k t, S (.t k t) → S' (.t k t)) {x : AV} {v : Value} (h : RepV w S σ x v) (hn : x.NoSl) : RepV w S' σ x v := by
  induction h with
  | one h => cases hn with | one hn => exact .one (h.noSl hT hn)
  | agg cs vs hl h => cases hn with | agg hn => exact .agg cs vs hl fun i c v h1 h2 => (h i c v h1 h2).noSl hT (hn c (List.mem_of_getElem? h1))
  | tup as vs hl h ih => cases hn with | tup hn => exact .tup as vs hl fun i c v h1 h2 => ih i c v h1 h2 (hn c (List.mem_of_getElem? h1))
  | clo => cases hn
  | unk v => exact .unk v
theorem BlkRep.noSl {S' : Kx → Prop} (hT : ∀ k t, S (.t k t) → S' (.t k t)) {b : Nat} {blk : Blk} (h : BlkRep w S σ b blk) (hn : blk.noSl) : BlkRep w S' σ b blk := by
  obtain ⟨c, ty, fr, h1, h0, h2, h3, h4⟩ := h
  refine ⟨c, ty, fr, h1, h0, h2, h3, ?_⟩
  cases blk with
  | arr sz els => exact ⟨h4.1, h4.2.1, fun i el hi => ⟨(h4.2.2 i el hi).1, fun j x hj => let ⟨v, q1, q2⟩ := (h4.2.2 i el hi).2 j x hj; ⟨v, q1, q2.noSl hT (hn el (List.mem_of_getElem? hi) x (List.mem_of_getElem? hj))⟩⟩⟩
  | box cs => exact ⟨h4.1, h4.2.1, fun j x hj => let ⟨v, q1, q2⟩ := h4.2.2 j x hj; ⟨v, q1, q2.noSl hT (hn x (List.mem_of_getElem? hj))⟩⟩
def rds (st : St) : List Nat → Option (List Blk)
  | [] => some []
  | b :: bs => match st.rd b, rds st bs with
    | some k, some ks => some (k :: ks)
    | _, _ => none
theorem rds_get {st : St} : ∀ {bs : List Nat} {ks : List Blk} (_ : rds st bs = some ks), ks.length = bs.length ∧ ∀ (i : Nat) k, ks[i]? = some k → ∃ b, bs[i]? = some b ∧ st.rd b = some k
  | [], ks, h => by cases h; exact ⟨rfl, fun i k hi => by simp at hi⟩
  | b :: bs, ks, h => by
    simp only [rds] at h
    split at h
    · rename_i k ks' h1 h2
      cases h
      obtain ⟨g1, g2⟩ := rds_get h2
      refine ⟨by simpa using g1, fun i q hi => ?_⟩
      cases i with
      | zero => cases hi; exact ⟨b, rfl, h1⟩
      | succ i => exact g2 i q hi
    · cases h
/-- The caller's name of a callee's block. -/
def backN (Ls : List Nat) (x : Nat) (i : Nat) : Nat := if i < Ls.length then Ls.getD i 0 else x + (i - Ls.length)
/-- The blocks behind a call, under the caller's names. -/
def backB (Ls : List Nat) (x : Nat) : Nat → List Blk → List (Nat × Option Blk)
  | _, [] => []
  | i, b :: bs => (backN Ls x i, some (b.ren (backN Ls x))) :: backB Ls x (i + 1) bs
def killB (bs : List Nat) : List (Nat × Option Blk) := bs.map fun b => (b, none)
/-! ### rows of one's own, seen as settled ones -/
inductive FgtP : PV → PV → Prop
  | lit (v : Value) : FgtP (.lit v) (.lit v)
  | own (t : Nat) (els : List (List PV)) : FgtP (.own t els) (.sl els)
  | sl (els els' : List (List PV)) (f : Nat → Nat → PV) (hl : els'.length = els.length) (he : ∀ (i : Nat) (el' : List PV), els'[i]? = some el' → ∃ el, els[i]? = some el ∧ el'.length = el.length)
      (hx : ∀ (i : Nat) (el el' : List PV) (j : Nat) (x' : PV), els[i]? = some el → els'[i]? = some el' → el'[j]? = some x' → el[j]? = some (f i j))
      (h : ∀ (i : Nat) (el' : List PV) (j : Nat) (x' : PV), els'[i]? = some el' → el'[j]? = some x' → FgtP (f i j) x') : FgtP (.sl els) (.sl els')
inductive FgtC : AC → AC → Prop
  | p {x y : PV} (h : FgtP x y) : FgtC (.p x) (.p y)
inductive FgtCs : List AC → List AC → Prop
  | nil : FgtCs [] []
  | cons {c d : AC} {cs ds : List AC} (h : FgtC c d) (t : FgtCs cs ds) : FgtCs (c :: cs) (d :: ds)
inductive FgtV : AV → AV → Prop
  | one {c d : AC} (h : FgtC c d) : FgtV (.one c) (.one d)
  | agg {cs ds : List AC} (h : FgtCs cs ds) : FgtV (.agg cs) (.agg ds)
inductive FgtVs : List AV → List AV → Prop
  | nil : FgtVs [] []
  | cons {c d : AV} {cs ds : List AV} (h : FgtV c d) (t : FgtVs cs ds) : FgtVs (c :: cs) (d :: ds)
def allM (S : Kx → Prop) : Kx → Prop := fun y => ∃ z, S z ∧ y = .m z.b
theorem allM_free (S : Kx → Prop) : Free (allM S) := by rintro k t ⟨z, _, e⟩; cases e
theorem FgtP.notOwn {x x' : PV} (h : FgtP x x') : x'.notOwn = true := by cases h <;> rfl
theorem FgtP.rep {x x' : PV} (h : FgtP x x') : ∀ {v : Value}, RepP w S x v → RepP w (allM S) x' v := by
  induction h with
  | lit v => intro u hr; cases hr; exact .lit v
  | own t els =>
    intro v hr
    cases hr with
    | own0 _ k hk a cap => exact .nil a cap
    | own _ _ k sz n cap tot c ty fr hn hcap hct hk hb hfr hcs hone hsz hc =>
      refine .sl els k 0 sz n cap (fun i j => (c[i * sz + j]?).getD undef) hn hcap ⟨_, hk, rfl⟩ hsz (fun i el j x q1 q2 => ?_) (fun i el j x q1 q2 => ?_) (fun i el j x q1 q2 => by obtain ⟨v, rfl, _⟩ := hc i el j x q1 q2; rfl)
      · obtain ⟨v, rfl, e⟩ := hc i el j x q1 q2
        rw [World.cell_of hb, Nat.zero_add, e]
        exact ⟨rfl, hone v (Array.mem_of_getElem? e)⟩
      · obtain ⟨v, rfl, e⟩ := hc i el j x q1 q2
        rw [e]; exact .lit v
  | sl els els' f hl he hx hh ih =>
    intro v hr
    cases hr with
    | nil a cap =>
      have : els' = [] := List.eq_nil_of_length_eq_zero hl
      subst this; exact .nil a cap
    | sl _ k off sz n cap cf hn hcap hk hsz hc hr ho =>
      refine .sl els' k off sz n cap cf (hl.trans hn) hcap ⟨_, hk, rfl⟩ (fun i el' q => ?_) (fun i el' j x' q1 q2 => ?_) (fun i el' j x' q1 q2 => ?_) (fun i el' j x' q1 q2 => (hh i el' j x' q1 q2).notOwn)
      · obtain ⟨el, e1, e2⟩ := he i el' q
        exact e2.trans (hsz i el e1)
      · obtain ⟨el, e1, e2⟩ := he i el' q1
        exact hc i el j _ e1 (hx i el el' j x' e1 q1 q2)
      · obtain ⟨el, e1, e2⟩ := he i el' q1
        exact ih i el' j x' q1 q2 (hr i el j _ e1 (hx i el el' j x' e1 q1 q2))
theorem FgtC.rep {c d : AC} (h : FgtC c d) (τ : Nat → Loc) {v : Value} (hr : RepC w S σ c v) : RepC w (allM S) τ d v := by
  cases h with | p h => cases hr with | p hr => exact .p (h.rep hr)
theorem FgtCs.get {cs ds : List AC} (h : FgtCs cs ds) : cs.length = ds.length ∧ ∀ (i : Nat) d, ds[i]? = some d → ∃ c, cs[i]? = some c ∧ FgtC c d := by
  induction h with
  | nil => exact ⟨rfl, fun i d h => by simp at h⟩
  | cons h t ih =>
    refine ⟨by rw [List.length_cons, List.length_cons, ih.1], fun i d hd => ?_⟩
    rcases i with _ | i
    · cases hd; exact ⟨_, rfl, h⟩
    · exact ih.2 i d hd
theorem FgtVs.get {cs ds : List AV} (h : FgtVs cs ds) : cs.length = ds.length ∧ ∀ (i : Nat) d, ds[i]? = some d → ∃ c, cs[i]? = some c ∧ FgtV c d := by
  induction h with
  | nil => exact ⟨rfl, fun i d h => by simp at h⟩
  | cons h t ih =>
    refine ⟨by rw [List.length_cons, List.length_cons, ih.1], fun i d hd => ?_⟩
    rcases i with _ | i
    · cases hd; exact ⟨_, rfl, h⟩
    · exact ih.2 i d hd
theorem FgtV.rep {x y : AV} (h : FgtV x y) (τ : Nat → Loc) {v : Value} (hr : RepV w S σ x v) : RepV w (allM S) τ y v := by
  cases h with
  | one h => cases hr with | one hr => exact .one (h.rep τ hr)
  | agg h =>
    cases hr with
    | agg _ vs hl hr =>
      refine .agg _ vs (h.get.1.symm.trans hl) fun i d v e1 e2 => ?_
      obtain ⟨c, g1, g2⟩ := h.get.2 i d e1
      exact g2.rep τ (hr i c v g1 e2)
theorem FgtV.inA {x y : AV} (h : FgtV x y) (B : Nat → Prop) : y.InA B := by
  cases h with
  | one h => cases h; exact .one trivial
  | agg h =>
    refine .agg fun d hd => ?_
    obtain ⟨i, hi⟩ := List.mem_iff_getElem?.1 hd
    obtain ⟨c, _, g2⟩ := h.get.2 i d hi
    cases g2; trivial
/-- A row of a block of ours, as the callee sees it. -/
theorem BlkRep.sliceF {b sz : Nat} {els els' : List (List PV)} (h : BlkRep w S σ b (.arr sz els)) {S2 : Kx → Prop} (hS : ∀ k, S k → S2 k) (hk : S2 (.m (σ b).k)) (lo n cap : Nat) (hl : lo + n ≤ els.length) (hn : n ≤ cap) (hf : FgtP (.sl ((els.drop lo).take n)) (.sl els')) :
    RepP w (allM S2) (.sl els') (.slice (some ⟨(σ b).k, lo * (σ b).sz, none⟩) n cap) := by
  obtain ⟨c, ty, fr, g1, g0, g2, g3, _, g4, g5⟩ := h
  have hg : ∀ i el, ((els.drop lo).take n)[i]? = some el → els[lo + i]? = some el := by
    intro i el hi
    rw [List.getElem?_take] at hi
    split at hi
    · rwa [List.getElem?_drop] at hi
    · cases hi
  cases hf with
  | sl _ _ f hl2 he hx hh =>
    refine .sl _ _ _ (σ b).sz n cap (fun i j => (c[(lo + i) * (σ b).sz + j]?).getD undef) (by rw [hl2]; simp; omega) hn ⟨_, hk, rfl⟩ ?_ ?_ ?_ (fun i el' j x' q1 q2 => (hh i el' j x' q1 q2).notOwn)
    · intro i el' hi
      obtain ⟨el, e1, e2⟩ := he i el' hi
      exact e2.trans (g5 _ el (hg i el e1)).1
    · intro i el' j x' hi hj
      obtain ⟨el, e1, e2⟩ := he i el' hi
      obtain ⟨v, q1, q2⟩ := (g5 _ el (hg i el e1)).2 j _ (hx i el el' j x' e1 hi hj)
      rw [World.cell_of g1, show lo * (σ b).sz + (i * (σ b).sz + j) = (lo + i) * (σ b).sz + j by rw [Nat.add_mul]; omega, q1]
      exact ⟨rfl, g3 v (Array.mem_of_getElem? q1)⟩
    · intro i el' j x' hi hj
      obtain ⟨el, e1, e2⟩ := he i el' hi
      obtain ⟨v, q1, q2⟩ := (g5 _ el (hg i el e1)).2 j _ (hx i el el' j x' e1 hi hj)
      rw [q1]
      exact (hh i el' j x' hi hj).rep (q2.mono (fun _ _ => rfl) hS)
theorem passC_own (h : RelOf X A σ S st a w) (bs : List Nat) (τ : Nat → Loc) {c d d' : AC} {k : List Nat} {p : Prop} {v : Value} (hp : passC st [] c = some (d, k, p)) (hpre : p) (hk : ∀ b ∈ k, b ∈ bs) (hf : FgtC d d') (hc : RepC w S σ c v) :
    RepC w (allM (addS S σ bs)) τ d' v := by
  cases c with
  | p x =>
    simp only [passC, Option.some.injEq, Prod.mk.injEq] at hp
    obtain ⟨rfl, _, _⟩ := hp
    cases hf with | p hf => cases hc with | p hx => exact .p (hf.rep (hx.mono (fun _ _ => rfl) (fun _ q => .inl q)))
  | fp el j =>
    simp only [passC, Option.some.injEq, Prod.mk.injEq] at hp
    obtain ⟨rfl, _, _⟩ := hp
    cases hf
  | hs b lo n =>
    simp only [passC] at hp
    split at hp
    · rename_i hin; simp at hin
    · split at hp
      · rename_i sz els hr
        simp only [Option.some.injEq, Prod.mk.injEq] at hp
        obtain ⟨rfl, rfl, rfl⟩ := hp
        cases hf with | p hf =>
        cases hf with
        | sl _ els' f hl2 he hx hh =>
          cases hc with
          | hs _ _ _ cap h1 h2 => exact .p ((h.blks b _ hr).sliceF (fun _ q => .inl q) (.inr ⟨b, hk b (by simp), rfl⟩) lo n cap hpre h2 (.sl _ els' f hl2 he hx hh))
          | hs0 _ _ a' =>
            have : els' = [] := List.eq_nil_of_length_eq_zero (by rw [hl2, List.take_zero]; rfl)
            subst this; exact .p (.nil a' 0)
      · cases hp
  | hp b i j =>
    simp only [passC] at hp
    split at hp
    · rename_i hin; simp at hin
    · cases hp
theorem passCs_own (h : RelOf X A σ S st a w) (bs : List Nat) (τ : Nat → Loc) : ∀ {cs ds ds' : List AC} {k : List Nat} {p : Prop} {vs : List Value} (_ : passCs st [] cs = some (ds, k, p)) (_ : p) (_ : ∀ b ∈ k, b ∈ bs) (_ : FgtCs ds ds') (_ : cs.length = vs.length)
    (_ : ∀ (i : Nat) c v, cs[i]? = some c → vs[i]? = some v → RepC w S σ c v), ds'.length = vs.length ∧ ∀ (i : Nat) d v, ds'[i]? = some d → vs[i]? = some v → RepC w (allM (addS S σ bs)) τ d v
  | [], ds, ds', k, p, vs, hp, _, _, hf, hl, _ => by
    simp only [passCs, Option.some.injEq, Prod.mk.injEq] at hp
    obtain ⟨rfl, _, _⟩ := hp
    cases hf
    exact ⟨hl, fun i d v h1 => by simp at h1⟩
  | c :: cs, ds, ds', k, p, vs, hp, hpre, hk, hf, hl, hr => by
    cases vs with
    | nil => cases hl
    | cons v vs =>
      simp only [passCs] at hp
      split at hp
      · rename_i d k1 p1 ds1 k2 p2 h1 h2
        simp only [Option.some.injEq, Prod.mk.injEq] at hp
        obtain ⟨rfl, rfl, rfl⟩ := hp
        cases hf with
        | cons hf1 hf2 =>
          have g1 := passC_own h bs τ h1 hpre.1 (fun b hb => hk b (List.mem_append_left _ hb)) hf1 (hr 0 c v rfl rfl)
          obtain ⟨f1, f2⟩ := passCs_own h bs τ (vs := vs) h2 hpre.2 (fun b hb => hk b (List.mem_append_right _ hb)) hf2 (by simpa using hl) (fun i c' v' e1 e2 => hr (i + 1) c' v' e1 e2)
          refine ⟨by simpa using f1, ?_⟩
          intro i d' v' e1 e2
          cases i with
          | zero => cases e1; cases e2; exact g1
          | succ i => exact f2 i d' v' e1 e2
      · cases hp
theorem passV_own (h : RelOf X A σ S st a w) (bs : List Nat) (τ : Nat → Loc) {x y y' : AV} {k : List Nat} {p : Prop} {v : Value} (hp : passV st [] x = some (y, k, p)) (hpre : p) (hk : ∀ b ∈ k, b ∈ bs) (hf : FgtV y y') (hv : RepV w S σ x v) :
    RepV w (allM (addS S σ bs)) τ y' v := by
  cases hv with
  | one hv =>
    simp only [passV] at hp
    split at hp
    · rename_i d k1 p1 h1
      simp only [Option.some.injEq, Prod.mk.injEq] at hp
      obtain ⟨rfl, rfl, rfl⟩ := hp
      cases hf with | one hf => exact .one (passC_own h bs τ h1 hpre hk hf hv)
    · cases hp
  | agg cs vs hl hh =>
    simp only [passV] at hp
    split at hp
    · rename_i d k1 p1 h1
      simp only [Option.some.injEq, Prod.mk.injEq] at hp
      obtain ⟨rfl, rfl, rfl⟩ := hp
      cases hf with
      | agg hf =>
        obtain ⟨f1, f2⟩ := passCs_own h bs τ (vs := vs.toList) h1 hpre hk hf (by simpa using hl) (fun i c v e1 e2 => hh i c v e1 (by simpa using e2))
        exact .agg _ vs (by simpa using f1) fun i c v e1 e2 => f2 i c v e1 (by simpa using e2)
    · cases hp
  | tup => simp [passV] at hp
  | clo f cs vs hl hh =>
    simp only [passV] at hp
    split at hp
    · simp only [Option.some.injEq, Prod.mk.injEq] at hp
      obtain ⟨rfl, rfl, rfl⟩ := hp
      cases hf
    · cases hp
  | unk => simp [passV] at hp
theorem passVs_own (h : RelOf X A σ S st a w) (bs : List Nat) (τ : Nat → Loc) : ∀ {cs ds ds' : List AV} {k : List Nat} {p : Prop} {vs : List Value} (_ : passVs st [] cs = some (ds, k, p)) (_ : p) (_ : ∀ b ∈ k, b ∈ bs) (_ : FgtVs ds ds') (_ : cs.length = vs.length)
    (_ : ∀ (i : Nat) c v, cs[i]? = some c → vs[i]? = some v → RepV w S σ c v), ds'.length = vs.length ∧ ∀ (i : Nat) d v, ds'[i]? = some d → vs[i]? = some v → RepV w (allM (addS S σ bs)) τ d v
  | [], ds, ds', k, p, vs, hp, _, _, hf, hl, _ => by
    simp only [passVs, Option.some.injEq, Prod.mk.injEq] at hp
    obtain ⟨rfl, _, _⟩ := hp
    cases hf
    exact ⟨hl, fun i d v h1 => by simp at h1⟩
  | c :: cs, ds, ds', k, p, vs, hp, hpre, hk, hf, hl, hr => by
    cases vs with
    | nil => cases hl
    | cons v vs =>
      simp only [passVs] at hp
      split at hp
      · rename_i d k1 p1 ds1 k2 p2 h1 h2
        simp only [Option.some.injEq, Prod.mk.injEq] at hp
        obtain ⟨rfl, rfl, rfl⟩ := hp
        cases hf with
        | cons hf1 hf2 =>
          have g1 := passV_own h bs τ h1 hpre.1 (fun b hb => hk b (List.mem_append_left _ hb)) hf1 (hr 0 c v rfl rfl)
          obtain ⟨f1, f2⟩ := passVs_own h bs τ (vs := vs) h2 hpre.2 (fun b hb => hk b (List.mem_append_right _ hb)) hf2 (by simpa using hl) (fun i c' v' e1 e2 => hr (i + 1) c' v' e1 e2)
          refine ⟨by simpa using f1, ?_⟩
          intro i d' v' e1 e2
          cases i with
          | zero => cases e1; cases e2; exact g1
          | succ i => exact f2 i d' v' e1 e2
      · cases hp
end Go.Abs
