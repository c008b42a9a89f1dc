import Derived.Test.YtmieklaakjabaaaGreatGAbs11
import Derived.LoopN
set_option linter.unusedSimpArgs false
set_option linter.unusedVariables false
namespace Go.Abs
open Go Go.RowKit
variable {P : Program} {X : Ctx} {A A' : Nat → Prop} {σ : Nat → Loc} {S : Kx → Prop} {st : St} {a : Act} {w w' : World}
/-- Code, from state to state, with the way it ends; names below n are taken. -/
def AX (P : Program) (c : Code) (n : Nat) (st : St) (e : Exit) (n' : Nat) (st' : St) : Prop :=
  ∀ X a w, RelA X (· < n) st a w → c.wp P (fun e' a' w' => e' = e ∧ RelA X (· < n') st' a' w') a w
def AWp (P : Program) (c : Code) (Q : Exit → Nat → St → Prop) (n : Nat) (st : St) : Prop := ∃ e n' st', Q e n' st' ∧ AX P c n st e n' st'
theorem AWp.mono {c : Code} {Q Q' : Exit → Nat → St → Prop} {n : Nat} (h : AWp P c Q n st) (hq : ∀ e n s, Q e n s → Q' e n s) : AWp P c Q' n st :=
  let ⟨e, n', st', h1, h2⟩ := h; ⟨e, n', st', hq _ _ _ h1, h2⟩
def andThen (next : Nat → St → Prop) (Q : Exit → Nat → St → Prop) : Exit → Nat → St → Prop
  | .normal, n, s => next n s
  | e, n, s => Q e n s
theorem andThen_other {next : Nat → St → Prop} {Q : Exit → Nat → St → Prop} {e : Exit} {n : Nat} {s : St} (h : andThen next Q e n s) (he : e ≠ .normal) : Q e n s := by cases e <;> first | exact absurd rfl he | exact h
theorem awp_seq {x y : Code} {Q : Exit → Nat → St → Prop} {n : Nat} (h : AWp P x (andThen (AWp P y Q) Q) n st) : AWp P (.seq x y) Q n st := by
  obtain ⟨e, n1, st1, h1, h2⟩ := h
  by_cases he : e = .normal
  · subst he
    obtain ⟨e2, n2, st2, h3, h4⟩ := h1
    refine ⟨e2, n2, st2, h3, fun X a w hr => wp_seq (wp_mono (h2 X a w hr) ?_)⟩
    rintro e' a' w' ⟨rfl, hr'⟩
    exact h4 X a' w' hr'
  · refine ⟨e, n1, st1, andThen_other h1 he, fun X a w hr => wp_seq (wp_mono (h2 X a w hr) ?_)⟩
    rintro e' a' w' ⟨rfl, hr'⟩
    cases e' <;> first | exact absurd rfl he | exact ⟨rfl, hr'⟩
def inBlk (id : Nat) (Q : Exit → Nat → St → Prop) : Exit → Nat → St → Prop
  | .exit id', n, s => if id' = id then Q .normal n s else Q (.exit id') n s
  | e, n, s => Q e n s
theorem awp_block {id : Nat} {c : Code} {Q : Exit → Nat → St → Prop} {n : Nat} (h : AWp P c (inBlk id Q) n st) : AWp P (.block id c) Q n st := by
  obtain ⟨e, n1, st1, h1, h2⟩ := h
  by_cases hid : e = .exit id
  · subst hid
    refine ⟨.normal, n1, st1, by simpa [inBlk] using h1, fun X a w hr => wp_block (wp_mono (h2 X a w hr) ?_)⟩
    rintro e' a' w' ⟨rfl, hr'⟩
    simp only [Exit.inBlock, if_true]
    exact ⟨trivial, hr'⟩
  · refine ⟨e, n1, st1, ?_, fun X a w hr => wp_block (wp_mono (h2 X a w hr) ?_)⟩
    · cases e <;> first | exact h1 | (rename_i i; have hne : i ≠ id := fun q => hid (q ▸ rfl); simpa [inBlk, hne] using h1)
    · rintro e' a' w' ⟨rfl, hr'⟩
      cases e' <;> first | exact ⟨rfl, hr'⟩ | (rename_i i; have hne : i ≠ id := fun q => hid (q ▸ rfl); simp only [Exit.inBlock, if_neg hne]; exact ⟨trivial, hr'⟩)
theorem awp_leaf {c : Code} {e : Exit} {Q : Exit → Nat → St → Prop} {n : Nat} (hc : ∀ (Q' : Exit → Act → World → Prop) a w, Q' e a w → c.wp P Q' a w) (h : Q e n st) : AWp P c Q n st :=
  ⟨e, n, st, h, fun _ a w hr => hc _ a w ⟨rfl, hr⟩⟩
/-- A loop: so many rounds, then it ends that way. -/
def ALoop (P : Program) (c : Code) (Q : Exit → Nat → St → Prop) (n : Nat) (st : St) : Prop :=
  ∃ N e n' st', Q e n' st' ∧ ∀ X a w, RelA X (· < n) st a w → Code.rounds P c (fun e' a' w' => e' = e ∧ RelA X (· < n') st' a' w') N a w
theorem aloop_step {c : Code} {Q : Exit → Nat → St → Prop} {n : Nat} (h : AWp P c (andThen (ALoop P c Q) Q) n st) : ALoop P c Q n st := by
  obtain ⟨e, n1, st1, h1, h2⟩ := h
  by_cases he : e = .normal
  · subst he
    obtain ⟨N, e2, n2, st2, h3, h4⟩ := h1
    refine ⟨N + 1, e2, n2, st2, h3, fun X a w hr => wp_mono (h2 X a w hr) ?_⟩
    rintro e' a' w' ⟨rfl, hr'⟩
    exact h4 X a' w' hr'
  · refine ⟨1, e, n1, st1, andThen_other h1 he, fun X a w hr => wp_mono (h2 X a w hr) ?_⟩
    rintro e' a' w' ⟨rfl, hr'⟩
    cases e' <;> first | exact absurd rfl he | exact ⟨rfl, hr'⟩
theorem awp_loop {c : Code} {Q : Exit → Nat → St → Prop} {n : Nat} (h : ALoop P c Q n st) : AWp P (.loop c) Q n st := by
  obtain ⟨N, e, n', st', h1, h2⟩ := h
  exact ⟨e, n', st', h1, fun X a w hr => wp_loop_rounds N (h2 X a w hr)⟩
theorem ALoop.mono {c : Code} {Q Q' : Exit → Nat → St → Prop} {n : Nat} (h : ALoop P c Q n st) (hq : ∀ e n s, Q e n s → Q' e n s) : ALoop P c Q' n st :=
  let ⟨N, e, n', st', h1, h2⟩ := h; ⟨N, e, n', st', hq _ _ _ h1, h2⟩
theorem ALoop.sub {c : Code} {Q : Exit → Nat → St → Prop} {n n0 : Nat} {st0 : St} (hs : ∀ X a w, RelA X (· < n) st a w → RelA X (· < n0) st0 a w) (h : ALoop P c Q n0 st0) : ALoop P c Q n st :=
  let ⟨N, e, n', st', h1, h2⟩ := h; ⟨N, e, n', st', h1, fun X a w hr => h2 X a w (hs X a w hr)⟩
theorem AWp.sub {c : Code} {Q : Exit → Nat → St → Prop} {n n0 : Nat} {st0 : St} (hs : ∀ X a w, RelA X (· < n) st a w → RelA X (· < n0) st0 a w) (h : AWp P c Q n0 st0) : AWp P c Q n st :=
  let ⟨e, n', st', h1, h2⟩ := h; ⟨e, n', st', h1, fun X a w hr => h2 X a w (hs X a w hr)⟩
theorem awp_region {M : FuncId → Bool} {id : Nat} {ops : Array Oper} {Q : Exit → Nat → St → Prop} {n : Nat} (h : vcList P M ops (Q .normal (n + 8 * ops.size)) n ops.toList st) : AWp P (.region id ops false) Q n st := by
  obtain ⟨st', h1, h2⟩ := vcList_sound ops.toList n st h
  refine ⟨.normal, _, st', h1, fun X a w hr => wp_region_list (h2 X a w hr _ fun a' w' hr' => ⟨rfl, ?_⟩)⟩
  have : ops.toList.length = ops.size := Array.length_toList
  rwa [this] at hr'
theorem awp_cond {c : Operand} {x y : Code} {Q : Exit → Nat → St → Prop} {n : Nat} {b : Bool} (hc : ev st c = some (lit (.bool b))) (h1 : b = true → AWp P x Q n st) (h2 : b = false → AWp P y Q n st) : AWp P (.cond c x y) Q n st := by
  have hev : ∀ X a w, RelA X (· < n) st a w → a.eval c = .bool b := fun X a w ⟨σ, S, h⟩ => lit_inv (ev_sound h hc).1 rfl
  cases b with
  | true =>
    obtain ⟨e, n1, st1, q1, q2⟩ := h1 rfl
    exact ⟨e, n1, st1, q1, fun X a w hr => wp_cond_true (hev X a w hr) (q2 X a w hr)⟩
  | false =>
    obtain ⟨e, n1, st1, q1, q2⟩ := h2 rfl
    exact ⟨e, n1, st1, q1, fun X a w hr => wp_cond_false (hev X a w hr) (q2 X a w hr)⟩
/-- What there is to show of a code; loops and regions that draw are left. -/
def vc (P : Program) (M : FuncId → Bool) : Code → (Exit → Nat → St → Prop) → Nat → St → Prop
  | .skip, Q, n, s => Q .normal n s
  | .seq x y, Q, n, s => vc P M x (andThen (vc P M y Q) Q) n s
  | .cond c x y, Q, n, s => match ev s c with
    | some (.one (.p (.lit (.bool b)))) => match c with
      | .tmp t => (b = true → vc P M x Q n (s.setT t true)) ∧ (b = false → vc P M y Q n (s.setT t false))
      | _ => (b = true → vc P M x Q n s) ∧ (b = false → vc P M y Q n s)
    | _ => False
  | .block id c, Q, n, s => vc P M c (inBlk id Q) n s
  | .loop c, Q, n, s => ALoop P c Q n s
  | .exit id, Q, n, s => Q (.exit id) n s
  | .ret, Q, n, s => Q .ret n s
  | .region id ops draw, Q, n, s => match draw with
    | false => vcList P M ops (Q .normal (n + 8 * ops.size)) n ops.toList s
    | true => AWp P (.region id ops true) Q n s
  | _, _, _, _ => False
theorem andThen_mono {f g : Nat → St → Prop} {Q : Exit → Nat → St → Prop} (h : ∀ n s, f n s → g n s) : ∀ e n s, andThen f Q e n s → andThen g Q e n s := by
  intro e n s hq
  cases e <;> first | exact h _ _ hq | exact hq
theorem vc_sound {M : FuncId → Bool} : ∀ (c : Code) {Q : Exit → Nat → St → Prop} {n : Nat} {st : St}, vc P M c Q n st → AWp P c Q n st
  | .skip, Q, n, st, h => awp_leaf (fun _ _ _ q => wp_skip q) h
  | .seq x y, Q, n, st, h => awp_seq ((vc_sound x h).mono (andThen_mono fun n s q => vc_sound y q))
  | .cond c x y, Q, n, st, h => by
    simp only [vc] at h
    split at h
    · rename_i b hc
      refine awp_cond hc (fun hb => ?_) (fun hb => ?_)
      · split at h
        · rename_i t
          subst hb
          exact AWp.sub (fun X a w hr => hr.setT hc) (vc_sound x (h.1 rfl))
        · exact vc_sound x (h.1 hb)
      · split at h
        · rename_i t
          subst hb
          exact AWp.sub (fun X a w hr => hr.setT hc) (vc_sound y (h.2 rfl))
        · exact vc_sound y (h.2 hb)
    · exact h.elim
  | .block id c, Q, n, st, h => awp_block (vc_sound c h)
  | .loop c, Q, n, st, h => awp_loop h
  | .exit id, Q, n, st, h => awp_leaf (fun _ _ _ q => wp_exit q) h
  | .ret, Q, n, st, h => awp_leaf (fun _ _ _ q => wp_ret q) h
  | .region id ops draw, Q, n, st, h => by
    simp only [vc] at h
    split at h
    · exact awp_region h
    · exact h
  | .rangeFunc .., _, _, _, h => by simp [vc] at h
  | .scope _, _, _, _, h => by simp [vc] at h
  | .label _, _, _, _, h => by simp [vc] at h
  | .goto _, _, _, _, h => by simp [vc] at h
  | .refuse _, _, _, _, h => by simp [vc] at h
/-! ### names put in order -/
def AC.nm : AC → List Nat
  | .hs b _ _ => [b]
  | .hp b _ _ => [b]
  | _ => []
mutual
def AV.nm : AV → List Nat
  | .one c => c.nm
  | .agg cs => cs.flatMap AC.nm
  | .clo _ cs => cs.flatMap AC.nm
  | .tup vs => AV.nms vs
  | .unk => []
def AV.nms : List AV → List Nat
  | [] => []
  | v :: vs => AV.nm v ++ AV.nms vs
end
def Blk.nm : Blk → List Nat
  | .arr _ _ => []
  | .box cs => cs.flatMap AC.nm
theorem AV.nms_map : ∀ vs : List AV, AV.nms vs = vs.flatMap AV.nm
  | [] => rfl
  | v :: vs => by rw [AV.nms, AV.nms_map vs]; rfl
theorem AV.nm_tup (vs : List AV) : AV.nm (.tup vs) = vs.flatMap AV.nm := by
  rw [AV.nm, AV.nms_map]
theorem AC.nm_inA {B : Nat → Prop} {c : AC} (h : ∀ b ∈ c.nm, B b) : c.inA B := by cases c <;> first | trivial | exact h _ (by simp [AC.nm])
theorem AV.nm_InA {B : Nat → Prop} {v : AV} (hA : v.InA A) (h : ∀ b ∈ v.nm, B b) : v.InA B := by
  induction hA with
  | one _ => rw [AV.nm] at h; exact .one (AC.nm_inA h)
  | agg _ => rw [AV.nm] at h; exact .agg fun c hc => AC.nm_inA fun b hb => h b (List.mem_flatMap.2 ⟨c, hc, hb⟩)
  | clo _ => rw [AV.nm] at h; exact .clo fun c hc => AC.nm_inA fun b hb => h b (List.mem_flatMap.2 ⟨c, hc, hb⟩)
  | tup _ ih => rw [AV.nm_tup] at h; exact .tup fun v hv => ih v hv fun b hb => h b (List.mem_flatMap.2 ⟨v, hv, hb⟩)
  | unk => exact .unk
theorem Blk.nm_inA {B : Nat → Prop} {k : Blk} (h : ∀ b ∈ k.nm, B b) : k.inA B := by
  cases k with
  | arr => trivial
  | box cs => exact fun c hc => AC.nm_inA fun b hb => h b (List.mem_flatMap.2 ⟨c, hc, hb⟩)
def idxN (Ns : List Nat) (b : Nat) : Nat := Ns.idxOf b
/-- The blocks of some names, renamed. -/
def orderB (Ns : List Nat) : Nat → List Blk → List (Nat × Option Blk)
  | _, [] => []
  | i, b :: bs => (i, some (b.ren (idxN Ns))) :: orderB Ns (i + 1) bs
theorem orderB_lk (Ns : List Nat) : ∀ (bs : List Blk) (i q : Nat) (o : Option Blk), lk (orderB Ns i bs) q = some o → ∃ j blk, bs[j]? = some blk ∧ q = i + j ∧ o = some (blk.ren (idxN Ns))
  | [], i, q, o, h => by simp [orderB, lk] at h
  | b :: bs, i, q, o, h => by
    simp only [orderB, lk] at h
    by_cases e : i = q
    · rw [if_pos e] at h; cases h; exact ⟨0, b, rfl, e.symm, rfl⟩
    · rw [if_neg e] at h
      obtain ⟨j, blk, h1, h2, h3⟩ := orderB_lk Ns bs (i + 1) q o h
      exact ⟨j + 1, blk, h1, by omega, h3⟩
def liveT (st : St) : List Tmp → List (Nat × AV)
  | [] => []
  | t :: ts => match lk st.tm t with
    | some v => (t, v) :: liveT st ts
    | none => liveT st ts
theorem liveT_lk : ∀ (ts : List Tmp) (t : Nat) (v : AV), lk (liveT st ts) t = some v → lk st.tm t = some v
  | [], t, v, h => by simp [liveT, lk] at h
  | u :: ts, t, v, h => by
    simp only [liveT] at h
    split at h
    · rename_i v' hv
      simp only [lk] at h
      by_cases e : u = t
      · rw [if_pos e] at h; cases h; exact e ▸ hv
      · rw [if_neg e] at h; exact liveT_lk ts t v h
    · exact liveT_lk ts t v h
def renT (Ns : List Nat) (l : List (Nat × AV)) : List (Nat × AV) := l.map fun q => (q.1, q.2.ren (idxN Ns))
theorem renT_lk (Ns : List Nat) : ∀ (l : List (Nat × AV)) (t : Nat) (v : AV), lk (renT Ns l) t = some v → ∃ u, lk l t = some u ∧ v = u.ren (idxN Ns)
  | [], t, v, h => by simp [renT, lk] at h
  | (k, x) :: l, t, v, h => by
    simp only [renT, List.map_cons, lk] at h ⊢
    by_cases e : k = t
    · rw [if_pos e] at h ⊢; cases h; exact ⟨x, rfl, rfl⟩
    · rw [if_neg e] at h ⊢; exact renT_lk Ns l t v h
def namesOf (st : St) (l : List (Nat × AV)) : List Nat :=
  let n1 := List.range st.nl.n ++ l.flatMap fun q => q.2.nm
  once [] (n1 ++ n1.flatMap fun b => match st.rd b with | some k => k.nm | none => [])
/-- The state cut down to some slots, its names put in order. -/
def canon (st : St) (ts : List Tmp) : Option (Nat × St) :=
  let l := liveT st ts
  let Ns := namesOf st l
  match rds st Ns with
  | some bs => if (Ns.Nodup ∧ Ns.take st.nl.n = List.range st.nl.n) ∧ (∀ q ∈ l, ∀ b ∈ q.2.nm, b ∈ Ns) ∧ (∀ k ∈ bs, ∀ b ∈ k.nm, b ∈ Ns) then
      some (Ns.length, { st with tm := renT Ns l, bl := orderB Ns 0 bs }) else none
  | none => none
theorem order_rel (h : RelOf X A σ S st a w) {Ns : List Nat} {bs : List Blk} (hbs : rds st Ns = some bs) (hnd : Ns.Nodup) (hnl : Ns.take st.nl.n = List.range st.nl.n) {l : List (Nat × AV)} (hl : ∀ t v, lk l t = some v → lk st.tm t = some v)
    (hA1 : ∀ t v, lk l t = some v → ∀ b ∈ v.nm, b ∈ Ns) (hA2 : ∀ k ∈ bs, ∀ b ∈ k.nm, b ∈ Ns) :
    RelOf X (· < Ns.length) (lentσ σ Ns) S { st with tm := renT Ns l, bl := orderB Ns 0 bs } a w := by
  obtain ⟨k1, k2⟩ := rds_get hbs
  have hidx : ∀ b, b ∈ Ns → lentσ σ Ns (idxN Ns b) = σ b := fun b hb => lentσ_idx (List.contains_iff_mem.2 hb)
  have hidl : ∀ b, b ∈ Ns → idxN Ns b < Ns.length := fun b hb => (idx_get (List.contains_iff_mem.2 hb)).1
  have hrd : ∀ q blk', St.rd { st with tm := renT Ns l, bl := orderB Ns 0 bs } q = some blk' → ∃ b blk, Ns[q]? = some b ∧ st.rd b = some blk ∧ blk ∈ bs ∧ blk' = blk.ren (idxN Ns) ∧ lentσ σ Ns q = σ b ∧ q < Ns.length := by
    intro q blk' hq
    unfold St.rd at hq
    cases ho : lk (orderB Ns 0 bs) q with
    | none => simp [ho] at hq
    | some o =>
      obtain ⟨j, blk, h1, h2, rfl⟩ := orderB_lk Ns bs 0 q o ho
      simp only [ho, Option.join_some, Option.some.injEq] at hq
      rw [Nat.zero_add] at h2
      subst h2
      obtain ⟨b, e1, e2⟩ := k2 q blk h1
      exact ⟨b, blk, e1, e2, List.mem_of_getElem? h1, hq.symm, by unfold lentσ; rw [List.getD_eq_getElem?_getD, e1]; rfl, (List.getElem?_eq_some_iff.1 e1).1⟩
  have hlow : ∀ b, b < st.nl.n → Ns[b]? = some b := by
    intro b hb
    have : (Ns.take st.nl.n)[b]? = some b := by rw [hnl, List.getElem?_range hb]
    rw [List.getElem?_take, if_pos hb] at this
    exact this
  refine { tmps := ?_, tmA := ?_, blks := ?_, blA := ?_, apart := ?_, notS := ?_, mine := ?_, nl := h.nl, nt := h.nt, lentA := ?_, inS := h.inS, sok := h.sok, free := h.free, tg := h.tg, glob := h.glob, oldS := h.oldS, os := h.os, tape := h.tape, output := h.output, size := h.size, old := h.old, defers := h.defers }
  · intro t av ht
    obtain ⟨u, h1, rfl⟩ := renT_lk Ns l t av ht
    obtain ⟨v, e1, e2⟩ := h.tmps t u (hl t u h1)
    exact ⟨v, e1, e2.ren (AV.nm_InA (h.tmA t u (hl t u h1)) (hA1 t u h1)) (fun _ _ => rfl) (fun _ q => q) hidx⟩
  · intro t av ht
    obtain ⟨u, h1, rfl⟩ := renT_lk Ns l t av ht
    exact (AV.nm_InA (h.tmA t u (hl t u h1)) (hA1 t u h1)).ren hidl
  · intro q blk' hq
    obtain ⟨b, blk, e1, e2, e3, rfl, e5, e6⟩ := hrd q blk' hq
    have hb : b ∈ Ns := List.mem_of_getElem? e1
    have hq' : idxN Ns b = q := nodup_inj hnd (idx_get (List.contains_iff_mem.2 hb)).2 e1
    have := (h.blks b blk e2).ren (w' := w) (S' := S) (τ := lentσ σ Ns) (g := idxN Ns) (Blk.nm_inA (hA2 blk e3)) (hidx b hb) (fun _ _ => rfl) (fun _ q => q) hidx rfl
    rwa [hq'] at this
  · intro q blk' hq
    obtain ⟨b, blk, e1, e2, e3, rfl, e5, e6⟩ := hrd q blk' hq
    exact ⟨Blk.inA_ren (Blk.nm_inA (hA2 blk e3)) hidl, e6⟩
  · intro q q' k k' hq hq' hne
    obtain ⟨b, blk, e1, e2, e3, rfl, e5, e6⟩ := hrd q k hq
    obtain ⟨b', blk', e1', e2', e3', rfl, e5', e6'⟩ := hrd q' k' hq'
    rw [e5, e5']
    exact h.apart b b' blk blk' e2 e2' fun e => hne (nodup_inj hnd e1 (e ▸ e1'))
  · intro q k hq
    obtain ⟨b, blk, e1, e2, e3, rfl, e5, e6⟩ := hrd q k hq
    rw [e5]
    exact h.notS b blk e2
  · intro q k hq
    obtain ⟨b, blk, e1, e2, e3, rfl, e5, e6⟩ := hrd q k hq
    rw [e5]
    rcases h.mine b blk e2 with hm | hm
    · exact .inl hm
    · right
      have hlt : b < st.nl.n := by have := h.nln; omega
      have := nodup_inj hnd (hlow b hlt) e1
      omega
  · intro b hb
    have hlt : b < st.nl.n := by have := h.nln; omega
    have hg := hlow b hlt
    refine ⟨(List.getElem?_eq_some_iff.1 hg).1, ?_⟩
    unfold lentσ
    rw [List.getD_eq_getElem?_getD, hg]
    exact (h.lentA b hb).2
theorem lk_mem {α : Type} : ∀ {l : List (Nat × α)} {t : Nat} {v : α}, lk l t = some v → (t, v) ∈ l
  | [], t, v, h => by simp [lk] at h
  | (k, x) :: l, t, v, h => by
    simp only [lk] at h
    by_cases e : k = t
    · rw [if_pos e] at h; cases h; subst e; exact List.mem_cons_self ..
    · rw [if_neg e] at h; exact List.mem_cons_of_mem _ (lk_mem h)
theorem canon_sub {ts : List Tmp} {n n0 : Nat} {st0 : St} (hc : canon st ts = some (n0, st0)) : ∀ X a w, RelA X (· < n) st a w → RelA X (· < n0) st0 a w := by
  rintro X a w ⟨σ, S, h⟩
  unfold canon at hc
  simp only at hc
  split at hc
  · rename_i bs hbs
    split at hc
    · rename_i hh
      simp only [Option.some.injEq, Prod.mk.injEq] at hc
      obtain ⟨rfl, rfl⟩ := hc
      exact ⟨_, _, order_rel h hbs hh.1.1 hh.1.2 (fun t v q => liveT_lk ts t v q) (fun t v q b hb => hh.2.1 (t, v) (lk_mem q) b hb) hh.2.2⟩
    · cases hc
  · cases hc
theorem ALoop.canon {c : Code} {Q : Exit → Nat → St → Prop} {n : Nat} (ts : List Tmp) (h : match canon st ts with | some (n0, st0) => ALoop P c Q n0 st0 | none => False) : ALoop P c Q n st := by
  split at h
  · rename_i n0 st0 hc; exact ALoop.sub (canon_sub hc) h
  · exact h.elim
theorem AWp.canon {c : Code} {Q : Exit → Nat → St → Prop} {n : Nat} (ts : List Tmp) (h : match canon st ts with | some (n0, st0) => AWp P c Q n0 st0 | none => False) : AWp P c Q n st := by
  split at h
  · rename_i n0 st0 hc; exact AWp.sub (canon_sub hc) h
  · exact h.elim
/-! ### a function -/
def resVs (P : Program) (st : St) : List ResultVar → Option (List AV × Prop)
  | [] => some ([], True)
  | .tmp t :: rs => match lk st.tm t, resVs P st rs with
    | some v, some (vs, p) => some (v :: vs, p)
    | _, _ => none
  | .cell t ty :: rs => match aload0 P st ty (.tmp t), resVs P st rs with
    | some e, some (vs, p) => some (e.v :: vs, e.pre ∧ p)
    | _, _ => none
theorem loadVar_of {ad : Addr} {ty : TypeId} : Instr.loadAt ty (.pointer (some ad)) = loadVar ty ad := rfl
def resOne (tmps : Array Value) : ResultVar → Sem Value
  | .tmp t => pure (tmps.getD t undef)
  | .cell c t => do loadVar t (← asAddr (tmps.getD c undef))
theorem resVs_sound (h : RelOf X A σ S st a w) : ∀ (rs : List ResultVar) {vs : List AV} {p : Prop} (_ : resVs P st rs = some (vs, p)) (_ : p),
    ∃ us : List Value, (rs.mapM (resOne a.tmps)).run P w = .ok us w ∧ vs.length = us.length ∧
      (∀ (i : Nat) v u, vs[i]? = some v → us[i]? = some u → RepV w S σ v u) ∧ ∀ v ∈ vs, v.InA A
  | [], vs, p, hr, _ => by
    simp only [resVs, Option.some.injEq, Prod.mk.injEq] at hr
    obtain ⟨rfl, _⟩ := hr
    exact ⟨[], by simp, rfl, fun i v u h1 => by simp at h1, fun v hv => by cases hv⟩
  | .tmp t :: rs, vs, p, hr, hp => by
    simp only [resVs] at hr
    split at hr
    · rename_i v vs' p' hv hrec
      simp only [Option.some.injEq, Prod.mk.injEq] at hr
      obtain ⟨rfl, rfl⟩ := hr
      obtain ⟨us, g1, g2, g3, g4⟩ := resVs_sound h rs hrec hp
      obtain ⟨u, q1, q2⟩ := h.tmps t v hv
      refine ⟨u :: us, ?_, by simpa using g2, ?_, ?_⟩
      · have hu : a.tmps.getD t undef = u := by rw [Array.getD_eq_getD_getElem?, q1]; rfl
        rw [List.mapM_cons, Sem.run_bind]
        simp only [resOne, Sem.run_pure, Result.andThen_ok, hu, Sem.run_bind, g1]
      · intro i x y h1 h2
        cases i with
        | zero => cases h1; cases h2; exact q2
        | succ i => exact g3 i x y h1 h2
      · intro x hx
        rcases List.mem_cons.1 hx with rfl | hx
        · exact h.tmA t x hv
        · exact g4 x hx
    · cases hr
  | .cell t ty :: rs, vs, p, hr, hp => by
    simp only [resVs] at hr
    split at hr
    · rename_i e vs' p' he hrec
      simp only [Option.some.injEq, Prod.mk.injEq] at hr
      obtain ⟨rfl, rfl⟩ := hr
      obtain ⟨us, g1, g2, g3, g4⟩ := resVs_sound h rs hrec hp.2
      unfold aload0 at he
      split at he
      · rename_i c hc
        split at he
        · rename_i cs j d hq hu
          cases he
          obtain ⟨hv, hA⟩ := ev_sound h hc
          cases hv with
          | one hv =>
            cases hA with
            | one hA =>
              obtain ⟨k, o, hvo, hcs, hcA⟩ := ptrAt_sound h hv hA hq
              obtain ⟨u, q1, q2⟩ := run_load hu hp.1.1 hcs hp.1.2
              rw [loadVar_of] at q1
              have hvo' : a.tmps.getD t undef = .pointer (some ⟨k, o + j, none⟩) := hvo
              refine ⟨u :: us, ?_, by simpa using g2, ?_, ?_⟩
              · rw [List.mapM_cons, Sem.run_bind]
                simp only [resOne, hvo', asAddr, Sem.run_bind, Sem.run_pure, Result.andThen_ok, q1, g1]
              · intro i x y h1 h2
                cases i with
                | zero => cases h1; cases h2; exact q2
                | succ i => exact g3 i x y h1 h2
              · intro x hx
                rcases List.mem_cons.1 hx with rfl | hx
                · exact partOf_inA hcA
                · exact g4 x hx
        · cases he
      · cases he
    · cases hr
def tupV : List AV → AV
  | [v] => v
  | vs => .tup vs
theorem results_run (h : RelOf X A σ S st a w) (fn : Func) {vs : List AV} {p : Prop} (hr : resVs P st fn.results.toList = some (vs, p)) (hp : p) : ∃ v, (results fn a.tmps).run P w = .ok v w ∧ RepV w S σ (tupV vs) v ∧ (tupV vs).InA A := by
  obtain ⟨us, g1, g2, g3, g4⟩ := resVs_sound h fn.results.toList hr hp
  have hm : (fn.results.mapM (resOne a.tmps)).run P w = .ok us.toArray w := by
    rw [Array.mapM_eq_mapM_toList]
    simp only [map_eq_pure_bind, Sem.run_bind, g1, Result.andThen_ok, Sem.run_pure]
  refine ⟨if h : us.toArray.size = 1 then us.toArray[0] else .tuple us.toArray, ?_, ?_⟩
  · have : results fn a.tmps = (do let vs ← fn.results.mapM (resOne a.tmps); pure (if h : vs.size = 1 then vs[0] else .tuple vs)) := by
      unfold results
      congr 1
    rw [this, Sem.run_bind, hm]
    rfl
  · match vs, us, g2, g3, g4 with
    | [], [], _, g3, g4 => exact ⟨.tup _ _ rfl (fun i a v h1 => by simp at h1), .tup (fun v hv => by cases hv)⟩
    | [v], [u], _, g3, g4 => exact ⟨g3 0 v u rfl rfl, g4 v (by simp)⟩
    | v :: v' :: vs, u :: u' :: us, g2, g3, g4 =>
      have : ¬ (u :: u' :: us).toArray.size = 1 := by simp
      rw [dif_neg this]
      exact ⟨.tup _ _ (by simpa using g2) (fun i a v h1 h2 => g3 i a v h1 (by simpa using h2)), .tup g4⟩
/-- How a function ends: its results, and the blocks behind them, under names in order. -/
def fin (P : Program) (rs : List ResultVar) (Qf : AV → List Blk → Prop) : Exit → Nat → St → Prop
  | .ret, _, st | .normal, _, st => match resVs P st rs with
    | none => False
    | some (vs, p) => match rds st (namesOf st [(0, tupV vs)]) with
      | none => False
      | some bs => p ∧ ((namesOf st [(0, tupV vs)]).Nodup ∧ (namesOf st [(0, tupV vs)]).take st.nl.n = List.range st.nl.n) ∧ (∀ b ∈ (tupV vs).nm, b ∈ namesOf st [(0, tupV vs)]) ∧ (∀ k ∈ bs, ∀ b ∈ k.nm, b ∈ namesOf st [(0, tupV vs)]) ∧
          Qf ((tupV vs).ren (idxN (namesOf st [(0, tupV vs)]))) (bs.map (Blk.ren (idxN (namesOf st [(0, tupV vs)]))))
  | _, _, _ => False
def argT : Nat → List AV → List (Nat × AV)
  | _, [] => []
  | i, v :: vs => (i, v) :: argT (i + 1) vs
def lentB : Nat → List Blk → List (Nat × Option Blk)
  | _, [] => []
  | i, b :: bs => (i, some b) :: lentB (i + 1) bs
theorem argT_lk : ∀ (vs : List AV) (i t : Nat) (v : AV), lk (argT i vs) t = some v → i ≤ t ∧ vs[t - i]? = some v
  | [], i, t, v, h => by simp [argT, lk] at h
  | x :: vs, i, t, v, h => by
    simp only [argT, lk] at h
    by_cases e : i = t
    · rw [if_pos e] at h; cases h; subst e; simp
    · rw [if_neg e] at h
      obtain ⟨h1, h2⟩ := argT_lk vs (i + 1) t v h
      exact ⟨by omega, by rw [show t - i = (t - (i + 1)) + 1 by omega]; exact h2⟩
theorem lentB_lk : ∀ (bs : List Blk) (i q : Nat) (o : Option Blk), lk (lentB i bs) q = some o → ∃ blk, i ≤ q ∧ bs[q - i]? = some blk ∧ o = some blk
  | [], i, q, o, h => by simp [lentB, lk] at h
  | b :: bs, i, q, o, h => by
    simp only [lentB, lk] at h
    by_cases e : i = q
    · rw [if_pos e] at h; cases h; subst e; exact ⟨b, by omega, by simp, rfl⟩
    · rw [if_neg e] at h
      obtain ⟨blk, h1, h2, h3⟩ := lentB_lk bs (i + 1) q o h
      exact ⟨blk, by omega, by rw [show q - i = (q - (i + 1)) + 1 by omega]; exact h2, h3⟩
def startX (own : Option Tmp) (tg : List Ex) (fn : Func) (args : List AV) (lent : List Blk) : St := { nt := fn.ntmps, nl := ⟨lent.length, own, tg⟩, tm := argT 0 args, bl := lentB 0 lent }
@[reducible] def startO (own : Option Tmp) (fn : Func) (args : List AV) (lent : List Blk) : St := startX own [] fn args lent
@[reducible] def start (fn : Func) (args : List AV) (lent : List Blk) : St := startO none fn args lent
/-- From what there is to show of the body to the contract. -/
theorem calls_ofX (own : Option Tmp) (tg : List Ex) {f : FuncId} {fn : Func} {c : Code} (hf : P.funcs[f]? = some fn) (hb : fn.body = some c) {args : List AV} {lent : List Blk} (hn : args.length ≤ fn.ntmps) {Qf : AV → List Blk → Prop}
    (h : AWp P c (fin P fn.results.toList Qf) lent.length (startX own tg fn args lent)) : ∃ r out, Qf r out ∧ ∀ (w : World) (vs : Array Value) (σ : Nat → Loc) (S : Kx → Prop),
    args.length = vs.size → (∀ (i : Nat) av v, args[i]? = some av → vs[i]? = some v → RepV w S σ av v) → (∀ av ∈ args, av.InA (· < lent.length)) →
    (∀ (b : Nat) blk, lent[b]? = some blk → BlkRep w S σ b blk ∧ blk.inA (· < lent.length) ∧ ∀ x, S x → x.b ≠ (σ b).k) →
    (∀ b b', b < lent.length → b' < lent.length → b ≠ b' → (σ b).k ≠ (σ b').k) → (∀ k, S k → k.b < w.heap.size) → Glob w S → SOk S → (own = none → Free S) → (∀ e ∈ tg, S (.t e.k e.t) ∧ e.ok w) →
    Calls P f vs w fun en w' => ∃ v, en = .returned v ∧ PostX own.isSome w lent.length σ S r out v w' := by
  obtain ⟨e, n', st', hq, hax⟩ := h
  have key : ∃ vs p bs, resVs P st' fn.results.toList = some (vs, p) ∧ rds st' (namesOf st' [(0, tupV vs)]) = some bs ∧ (e = .ret ∨ e = .normal) ∧ p ∧ ((namesOf st' [(0, tupV vs)]).Nodup ∧ (namesOf st' [(0, tupV vs)]).take st'.nl.n = List.range st'.nl.n) ∧ (∀ b ∈ (tupV vs).nm, b ∈ namesOf st' [(0, tupV vs)]) ∧ (∀ k ∈ bs, ∀ b ∈ k.nm, b ∈ namesOf st' [(0, tupV vs)]) ∧
      Qf ((tupV vs).ren (idxN (namesOf st' [(0, tupV vs)]))) (bs.map (Blk.ren (idxN (namesOf st' [(0, tupV vs)])))) := by
    cases e <;> simp only [fin] at hq <;> first | exact hq.elim | skip
    all_goals
      split at hq
      · exact hq.elim
      · rename_i vs p hr
        split at hq
        · exact hq.elim
        · rename_i bs hbs
          exact ⟨vs, p, bs, hr, hbs, by simp, hq⟩
  obtain ⟨vs, p, bs, hr, hbs, he, hp, ⟨hnd, htake⟩, hA1, hA2, hQ⟩ := key
  refine ⟨_, _, hQ, ?_⟩
  intro w us σ S hl hrep hin hlent hap hS hG hok hFr htg
  refine calls_of_wp hf hb (wp_mono (hax ⟨w, ⟨lent.length, own, tg⟩, σ, S⟩ _ w ⟨σ, S, ?_⟩) ?_)
  · refine { tmps := ?_, tmA := ?_, blks := ?_, blA := ?_, apart := ?_, notS := ?_, mine := ?_, nl := rfl, nt := ?_, lentA := ?_, inS := hS, sok := hok, free := hFr, tg := htg, glob := hG, oldS := fun k q _ => q, os := rfl, tape := rfl, output := rfl, size := Nat.le_refl _, old := fun _ _ _ _ => rfl, defers := rfl }
    · intro t av ht
      obtain ⟨_, h2⟩ := argT_lk args 0 t av ht
      rw [Nat.sub_zero] at h2
      have hlt : t < us.size := hl ▸ (List.getElem?_eq_some_iff.1 h2).1
      exact ⟨us[t], by rw [Array.getElem?_append_left hlt, Array.getElem?_eq_getElem hlt], hrep t av _ h2 (Array.getElem?_eq_getElem hlt)⟩
    · intro t av ht
      obtain ⟨_, h2⟩ := argT_lk args 0 t av ht
      exact hin av (List.mem_of_getElem? h2)
    · intro b blk hb
      unfold St.rd startX at hb
      cases ho : lk (lentB 0 lent) b with
      | none => simp [ho] at hb
      | some o =>
        obtain ⟨k, _, h2, rfl⟩ := lentB_lk lent 0 b o ho
        simp only [ho, Option.join_some, Option.some.injEq] at hb
        subst hb
        exact (hlent b k (by simpa using h2)).1
    · intro b blk hb
      unfold St.rd startX at hb
      cases ho : lk (lentB 0 lent) b with
      | none => simp [ho] at hb
      | some o =>
        obtain ⟨k, _, h2, rfl⟩ := lentB_lk lent 0 b o ho
        simp only [ho, Option.join_some, Option.some.injEq] at hb
        subst hb
        exact ⟨(hlent b k (by simpa using h2)).2.1, (List.getElem?_eq_some_iff.1 (show lent[b]? = some k by simpa using h2)).1⟩
    · intro b b' k k' hb hb' hne
      have g : ∀ q blk, St.rd (startX own tg fn args lent) q = some blk → q < lent.length := by
        intro q blk hb
        unfold St.rd startX at hb
        cases ho : lk (lentB 0 lent) q with
        | none => simp [ho] at hb
        | some o =>
          obtain ⟨k, _, h2, rfl⟩ := lentB_lk lent 0 q o ho
          exact (List.getElem?_eq_some_iff.1 (show lent[q]? = some k by simpa using h2)).1
      exact hap b b' (g b k hb) (g b' k' hb') hne
    · intro b blk hb
      unfold St.rd startX at hb
      cases ho : lk (lentB 0 lent) b with
      | none => simp [ho] at hb
      | some o =>
        obtain ⟨k, _, h2, rfl⟩ := lentB_lk lent 0 b o ho
        exact (hlent b k (by simpa using h2)).2.2
    · intro b blk hb
      unfold St.rd startX at hb
      cases ho : lk (lentB 0 lent) b with
      | none => simp [ho] at hb
      | some o =>
        obtain ⟨k, _, h2, rfl⟩ := lentB_lk lent 0 b o ho
        exact .inr (List.getElem?_eq_some_iff.1 (show lent[b]? = some k by simpa using h2)).1
    · show (us ++ Array.replicate (fn.ntmps - us.size) undef).size = fn.ntmps
      rw [Array.size_append, Array.size_replicate]
      omega
    · exact fun b hb => ⟨hb, rfl⟩
  · rintro e' a' w' ⟨rfl, σ', S', h'⟩
    obtain ⟨v, hrun, hrv, hrA⟩ := results_run h' fn hr hp
    have hord := order_rel h' (l := []) hbs hnd htake (fun t v q => by simp [lk] at q) (fun t v q => by simp [lk] at q) hA2
    obtain ⟨k1, k2⟩ := rds_get hbs
    have hnl := h'.nln
    have hlenN : lent.length ≤ (namesOf st' [(0, tupV vs)]).length := by
      have h1 : ((namesOf st' [(0, tupV vs)]).take st'.nl.n).length = st'.nl.n := by rw [htake]; simp
      rw [List.length_take] at h1
      have : st'.nl.n = lent.length := hnl
      omega
    have hidx : ∀ b, b ∈ namesOf st' [(0, tupV vs)] → lentσ σ' (namesOf st' [(0, tupV vs)]) (idxN (namesOf st' [(0, tupV vs)]) b) = σ' b := fun b hb => lentσ_idx (List.contains_iff_mem.2 hb)
    have hidl : ∀ b, b ∈ namesOf st' [(0, tupV vs)] → idxN (namesOf st' [(0, tupV vs)]) b < (namesOf st' [(0, tupV vs)]).length := fun b hb => (idx_get (List.contains_iff_mem.2 hb)).1
    have hrd : ∀ b blk, (bs.map (Blk.ren (idxN (namesOf st' [(0, tupV vs)]))))[b]? = some blk → St.rd { st' with tm := renT (namesOf st' [(0, tupV vs)]) [], bl := orderB (namesOf st' [(0, tupV vs)]) 0 bs } b = some blk := by
      have gen : ∀ (Ns : List Nat) (l : List Blk) (i b : Nat) (blk : Blk), (l.map (Blk.ren (idxN Ns)))[b]? = some blk → lk (orderB Ns i l) (i + b) = some (some blk) := by
        intro Ns l
        induction l with
        | nil => intro i b blk h; simp at h
        | cons x l ih =>
          intro i b blk h
          cases b with
          | zero => simp only [List.map_cons, List.getElem?_cons_zero, Option.some.injEq] at h; subst h; simp [orderB, lk]
          | succ b =>
            simp only [List.map_cons, List.getElem?_cons_succ] at h
            simp only [orderB, lk]
            rw [if_neg (by omega), show i + (b + 1) = i + 1 + b by omega]
            exact ih (i + 1) b blk h
      intro b blk hb
      unfold St.rd
      have := gen _ bs 0 b blk hb
      rw [Nat.zero_add] at this
      simp only
      rw [this]
      rfl
    have hlenB : (bs.map (Blk.ren (idxN (namesOf st' [(0, tupV vs)])))).length = (namesOf st' [(0, tupV vs)]).length := by rw [List.length_map]; exact k1
    have hpost : PostX own.isSome w lent.length σ S ((tupV vs).ren (idxN (namesOf st' [(0, tupV vs)]))) (bs.map (Blk.ren (idxN (namesOf st' [(0, tupV vs)])))) v w' := by
      refine ⟨lentσ σ' (namesOf st' [(0, tupV vs)]), S', hrv.ren (AV.nm_InA hrA hA1) (fun _ _ => rfl) (fun _ q => q) hidx, ?_, ?_, ?_, ?_, ?_, ?_, h'.inS, h'.oldS, h'.os, h'.tape, h'.output, h'.size, fun k hk hn hx => h'.old k hk hn hx, h'.sok, fun q => h'.free (by cases own with | none => rfl | some t => cases q)⟩
      · rw [hlenB]; exact (AV.nm_InA hrA hA1).ren hidl
      · rw [hlenB]; exact hlenN
      · intro b blk hb
        have h1 := hrd b blk hb
        exact ⟨hord.blks b blk h1, by rw [hlenB]; exact (hord.blA b blk h1).1, hord.notS b blk h1⟩
      · intro b b' hb hb' hne
        exact hord.apart b b' _ _ (hrd b _ (List.getElem?_eq_getElem hb)) (hrd b' _ (List.getElem?_eq_getElem hb')) hne
      · intro b hb; exact (hord.lentA b hb).2
      · intro b hb hlt
        rcases hord.mine b _ (hrd b _ (List.getElem?_eq_getElem hlt)) with hm | hm
        · exact hm
        · exact absurd hm (by show ¬ b < lent.length; omega)
    rcases he with rfl | rfl <;> exact ⟨h'.defers, v, hrun, v, rfl, hpost⟩
theorem good_ofO (own : Option Tmp) {f : FuncId} {fn : Func} {c : Code} (hf : P.funcs[f]? = some fn) (hb : fn.body = some c) {args : List AV} {lent : List Blk} (hn : args.length ≤ fn.ntmps) {Qf : AV → List Blk → Prop}
    (h : AWp P c (fin P fn.results.toList Qf) lent.length (startO own fn args lent)) : ∃ r out, Qf r out ∧ GoodO own.isSome P f args lent r out := by
  obtain ⟨r, out, hq, hg⟩ := calls_ofX own [] hf hb hn h
  refine ⟨r, out, hq, fun w us σ S h1 h2 h3 h4 h5 h6 h7 h8 => ?_⟩
  refine (hg w us σ S h1 h2 h3 h4 h5 h6 h7 h8.ok (fun _ => h8) (fun e he => by cases he)).mono ?_
  rintro en w' ⟨v, rfl, σ', S', p1, p2, p3, p4, p5, p6, p7, p8, p9, p10, p11, p12, p13, p14, p⟩
  exact ⟨v, rfl, σ', S', p1, p2, p3, p4, p5, p6, p7, p8, p9, p10, p11, p12, p13, fun k hk hn => p14 k hk hn (h8 k), p⟩
theorem good_ofM (t : Tmp) {f : FuncId} {fn : Func} {c : Code} (hf : P.funcs[f]? = some fn) (hb : fn.body = some c) {args : List AV} {lent : List Blk} (hn : args.length ≤ fn.ntmps) {Qf : AV → List Blk → Prop}
    (h : AWp P c (fin P fn.results.toList Qf) lent.length (startO (some t) fn args lent)) : ∃ r out, Qf r out ∧ GoodM P f args lent r out := by
  obtain ⟨r, out, hq, hg⟩ := calls_ofX (some t) [] hf hb hn h
  exact ⟨r, out, hq, fun w us σ S h1 h2 h3 h4 h5 h6 h7 h8 => hg w us σ S h1 h2 h3 h4 h5 h6 h7 h8 (fun e => by cases e) (fun e he => by cases he)⟩
theorem good_of {f : FuncId} {fn : Func} {c : Code} (hf : P.funcs[f]? = some fn) (hb : fn.body = some c) {args : List AV} {lent : List Blk} (hn : args.length ≤ fn.ntmps) {Qf : AV → List Blk → Prop}
    (h : AWp P c (fin P fn.results.toList Qf) lent.length (start fn args lent)) : ∃ r out, Qf r out ∧ Good P f args lent r out := good_ofO none hf hb hn h
end Go.Abs
