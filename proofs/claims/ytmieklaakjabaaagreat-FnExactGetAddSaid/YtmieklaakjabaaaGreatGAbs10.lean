import Derived.Test.YtmieklaakjabaaaGreatGAbs9
set_option linter.unusedSimpArgs false
set_option linter.unusedVariables false
namespace Go.Abs
open Go Go.RowKit
variable {P : Program} {X : Ctx} {A A' : Nat → Prop} {σ : Nat → Loc} {S : Kx → Prop} {st : St} {a : Act} {w w' : World}
theorem Blk.ren_plain {blk : Blk} (h : blk.inA (fun _ => False)) (g : Nat → Nat) : blk.ren g = blk := by
  cases blk with
  | arr => rfl
  | box cs =>
    simp only [Blk.ren]
    congr 1
    conv => rhs; rw [← List.map_id cs]
    apply List.map_congr_left
    intro c hc
    have := h c hc
    cases c <;> first | rfl | exact this.elim
theorem back_lk (Ls : List Nat) (x : Nat) : ∀ (bs : List Blk) (i : Nat) (rest : List (Nat × Option Blk)) (q : Nat),
    (∃ j blk, bs[j]? = some blk ∧ q = backN Ls x (i + j) ∧ lk (backB Ls x i bs ++ rest) q = some (some (blk.ren (backN Ls x)))) ∨ ((∀ j, j < bs.length → q ≠ backN Ls x (i + j)) ∧ lk (backB Ls x i bs ++ rest) q = lk rest q)
  | [], i, rest, q => .inr ⟨fun j hj => by simp at hj, rfl⟩
  | b :: bs, i, rest, q => by
    simp only [backB, List.cons_append, lk]
    by_cases e : backN Ls x i = q
    · rw [if_pos e]
      exact .inl ⟨0, b, rfl, e.symm, rfl⟩
    · rw [if_neg e]
      rcases back_lk Ls x bs (i + 1) rest q with ⟨j, blk, h1, h2, h3⟩ | ⟨h1, h2⟩
      · exact .inl ⟨j + 1, blk, h1, by rw [h2]; congr 1; omega, h3⟩
      · refine .inr ⟨fun j hj => ?_, h2⟩
        cases j with
        | zero => exact fun q' => e q'.symm
        | succ j => have := h1 j (by simpa using hj); rw [show i + (j + 1) = i + 1 + j by omega]; exact this
theorem nodup_inj {l : List Nat} (h : l.Nodup) {i j b : Nat} (hi : l[i]? = some b) (hj : l[j]? = some b) : i = j := by
  obtain ⟨h1, e1⟩ := List.getElem?_eq_some_iff.1 hi
  obtain ⟨h2, e2⟩ := List.getElem?_eq_some_iff.1 hj
  have hp := List.pairwise_iff_getElem.1 h
  rcases Nat.lt_trichotomy i j with q | q | q
  · exact absurd (e1.trans e2.symm) (hp i j h1 h2 q)
  · exact q
  · exact absurd (e2.trans e1.symm) (hp j i h2 h1 q)
def slots (A : Nat → Prop) (x : Nat) : Nat → Prop := fun b => A b ∨ (x ≤ b ∧ b < x + 8)
/-- Back from a call; Ext: the blocks that may have changed, though they were not lent. -/
theorem call_backX (Ext : Nat → Prop) (S1 : Kx → Prop) (h : RelOf X A σ S st a w) (x : Nat) (hx : ∀ b, x ≤ b → b < x + 8 → ¬ A b) (Ls : List Nat)
    (h1S : ∀ k, S1 k → S k) (htm1 : ∀ t av u, lk st.tm t = some av → RepV w S σ av u → RepV w S1 σ av u) (hbl1 : ∀ q blk, st.rd q = some blk → ¬ Ls.contains q = true → BlkRep w S σ q blk → BlkRep w S1 σ q blk) (hgl1 : Glob w S1) (htg1 : ∀ e ∈ X.nl.tg, S1 (.t e.k e.t))
    (hnd : Ls.Nodup) (hal : ∀ b ∈ Ls, ∃ blk, st.rd b = some blk) (r : AV) (out : List Blk) (v : Value) (hol : out.length ≤ Ls.length + 8)
    (σc : Nat → Loc) (S2 : Kx → Prop) (hrA : r.InA (· < out.length)) (hnl : Ls.length ≤ out.length) (hv : RepV w' S2 σc r v)
    (hout : ∀ (b : Nat) blk, out[b]? = some blk → BlkRep w' S2 σc b blk ∧ blk.inA (· < out.length) ∧ ∀ y, S2 y → y.b ≠ (σc b).k) (hap : ∀ b b', b < out.length → b' < out.length → b ≠ b' → (σc b).k ≠ (σc b').k)
    (hlent : ∀ b, b < Ls.length → σc b = lentσ σ Ls b) (hfresh : ∀ b, Ls.length ≤ b → b < out.length → w.heap.size ≤ (σc b).k)
    (hS1 : ∀ k, S1 k → S2 k) (hS2 : ∀ k, S2 k → k.b < w'.heap.size) (hS3 : ∀ b blk, st.rd b = some blk → ¬ Ls.contains b = true → ∀ y, S2 y → y.b ≠ (σ b).k) (hS4 : ∀ k, S2 k → k.b < X.w0.heap.size → X.S0 k) (hok : SOk S2) (hfr : X.nl.own = none → Free S2)
    (hos : w'.os = w.os) (htape : w'.tape = w.tape) (houtp : w'.output = w.output) (hsize : w.heap.size ≤ w'.heap.size)
    (hframe : ∀ k, k < w.heap.size → (∀ b, b < Ls.length → (lentσ σ Ls b).k ≠ k) → ¬ Ext k → w'.heap[k]? = w.heap[k]?)
    (hE1 : ∀ y, S1 y → ¬ Ext y.b) (hE2 : ∀ b blk, st.rd b = some blk → ¬ Ext (σ b).k) (hE3 : ∀ k, Ext k → k < X.w0.heap.size → ∃ t, X.S0 (.t k t)) :
    ∃ σ', RelOf X (slots A x) σ' S2 { st with bl := backB Ls x 0 out ++ st.bl } a w' ∧ RepV w' S2 σ' (r.ren (backN Ls x)) v ∧ (r.ren (backN Ls x)).InA (slots A x) := by
  have hLA : ∀ i, i < Ls.length → ∃ b blk, Ls[i]? = some b ∧ Ls.getD i 0 = b ∧ st.rd b = some blk ∧ A b := by
    intro i hi
    have hg := List.getElem?_eq_getElem hi
    obtain ⟨blk, hb⟩ := hal _ (List.getElem_mem hi)
    exact ⟨_, blk, hg, by rw [List.getD_eq_getElem?_getD, hg]; rfl, hb, (h.blA _ _ hb).2⟩
  let σ2 : Nat → Loc := fun b => if x ≤ b ∧ b < x + 8 then σc (Ls.length + (b - x)) else σ b
  have hσA : ∀ b, A b → σ2 b = σ b := fun b hb => if_neg fun q => hx b q.1 q.2 hb
  have hback : ∀ j, j < out.length → σ2 (backN Ls x j) = σc j ∧ slots A x (backN Ls x j) := by
    intro j hj
    unfold backN
    by_cases hlt : j < Ls.length
    · rw [if_pos hlt]
      obtain ⟨b, blk, h1, h2, h3, h4⟩ := hLA j hlt
      rw [h2, hσA b h4, hlent j hlt]
      exact ⟨by unfold lentσ; rw [h2], .inl h4⟩
    · rw [if_neg hlt]
      have hr : x ≤ x + (j - Ls.length) ∧ x + (j - Ls.length) < x + 8 := by omega
      exact ⟨by show (if _ then _ else _) = _; rw [if_pos hr]; congr 1; omega, .inr hr⟩
  have hbinj : ∀ j j', j < out.length → j' < out.length → backN Ls x j = backN Ls x j' → j = j' := by
    intro j j' hj hj' e
    unfold backN at e
    by_cases h1 : j < Ls.length <;> by_cases h2 : j' < Ls.length
    · rw [if_pos h1, if_pos h2] at e
      obtain ⟨b, _, g1, g2, _⟩ := hLA j h1
      obtain ⟨b', _, g1', g2', _⟩ := hLA j' h2
      rw [g2, g2'] at e
      subst e
      exact nodup_inj hnd g1 g1'
    · rw [if_pos h1, if_neg h2] at e
      obtain ⟨b, _, _, g2, _, g4⟩ := hLA j h1
      exact absurd g4 (hx b (by omega) (by omega))
    · rw [if_neg h1, if_pos h2] at e
      obtain ⟨b, _, _, g2, _, g4⟩ := hLA j' h2
      exact absurd g4 (hx b (by omega) (by omega))
    · rw [if_neg h1, if_neg h2] at e; omega
  have hSfr : ∀ k, S1 k → w'.heap[k.b]? = w.heap[k.b]? := by
    intro k hk
    refine hframe _ (h.inS k (h1S k hk)) (fun i hi e => ?_) (hE1 k hk)
    obtain ⟨b, blk, g1, g2, g3, g4⟩ := hLA i hi
    unfold lentσ at e
    rw [g2] at e
    exact h.notS b blk g3 k (h1S k hk) e.symm
  have hold : ∀ q blk, st.rd q = some blk → ¬ Ls.contains q = true → w'.heap[(σ q).k]? = w.heap[(σ q).k]? := by
    intro q blk hq hn
    refine hframe _ (h.blkIn hq) (fun i hi e => ?_) (hE2 q blk hq)
    obtain ⟨b, blk', g1, g2, g3, g4⟩ := hLA i hi
    unfold lentσ at e
    rw [g2] at e
    refine h.apart b q blk' blk g3 hq (fun e' => hn ?_) e
    rw [← e']
    exact List.contains_iff_mem.2 (List.mem_of_getElem? g1)
  have hrd : ∀ q blk', St.rd { st with bl := backB Ls x 0 out ++ st.bl } q = some blk' → (∃ j blk, out[j]? = some blk ∧ q = backN Ls x j ∧ blk' = blk.ren (backN Ls x)) ∨ (st.rd q = some blk' ∧ ¬ Ls.contains q = true) := by
    intro q blk' hq
    simp only [St.rd] at hq
    rcases back_lk Ls x out 0 st.bl q with ⟨j, blk, h1, h2, h3⟩ | ⟨h1, h2⟩
    · rw [h3] at hq
      simp only [Option.join_some, Option.some.injEq] at hq
      exact .inl ⟨j, blk, h1, by rw [h2, Nat.zero_add], hq.symm⟩
    · rw [h2] at hq
      refine .inr ⟨hq, fun hc => ?_⟩
      have hm := List.contains_iff_mem.1 hc
      obtain ⟨i, hi, rfl⟩ := List.mem_iff_getElem.1 hm
      refine h1 i (by omega) ?_
      rw [Nat.zero_add]
      unfold backN
      rw [if_pos hi, List.getD_eq_getElem?_getD, List.getElem?_eq_getElem hi]
      rfl
  have hlt : ∀ {j : Nat} {blk : Blk}, out[j]? = some blk → j < out.length := fun e => (List.getElem?_eq_some_iff.1 e).1
  refine ⟨σ2, ?_, ?_, ?_⟩
  · refine { tmps := ?_, tmA := ?_, blks := ?_, blA := ?_, apart := ?_, notS := ?_, mine := ?_, nl := h.nl, nt := h.nt, lentA := ?_, inS := hS2, sok := hok, free := hfr, tg := fun e he => ⟨hS1 _ (htg1 e he), (h.tg e he).2.mono (hSfr _ (htg1 e he))⟩, glob := hgl1.mono hSfr hS1, oldS := hS4, os := hos.trans h.os, tape := htape.trans h.tape, output := houtp.trans h.output, size := Nat.le_trans h.size hsize, old := ?_, defers := h.defers }
    · intro t av hl
      obtain ⟨u, h1, h2⟩ := h.tmps t av hl
      exact ⟨u, h1, (htm1 t av u hl h2).mono (h.tmA t av hl) hSfr hS1 hσA⟩
    · exact fun t av hl => (h.tmA t av hl).mono fun b hb => .inl hb
    · intro q blk' hq
      rcases hrd q blk' hq with ⟨j, blk, h1, rfl, rfl⟩ | ⟨h1, h2⟩
      · obtain ⟨g1, g2, g3⟩ := hout j blk h1
        exact g1.ren g2 (hback j (hlt h1)).1 (fun _ _ => rfl) (fun _ q => q) (fun b hb => (hback b hb).1) rfl
      · exact (hbl1 q blk' h1 h2 (h.blks q blk' h1)).mono (h.blA q blk' h1).1 (h.blA q blk' h1).2 hSfr hS1 hσA (hold q blk' h1 h2)
    · intro q blk' hq
      rcases hrd q blk' hq with ⟨j, blk, h1, rfl, rfl⟩ | ⟨h1, h2⟩
      · exact ⟨Blk.inA_ren (hout j blk h1).2.1 (fun b hb => (hback b hb).2), (hback j (hlt h1)).2⟩
      · exact ⟨Blk.inA_mono (fun b hb => .inl hb) (h.blA q blk' h1).1, .inl (h.blA q blk' h1).2⟩
    · have hcross : ∀ j blk q blk', out[j]? = some blk → st.rd q = some blk' → ¬ Ls.contains q = true → (σc j).k ≠ (σ q).k := by
        intro j blk q blk' h1 h2 h3
        by_cases hj : j < Ls.length
        · obtain ⟨b, k, g1, g2, g3, g4⟩ := hLA j hj
          rw [hlent j hj]
          unfold lentσ
          rw [g2]
          exact h.apart b q k blk' g3 h2 fun e => h3 (e ▸ List.contains_iff_mem.2 (List.mem_of_getElem? g1))
        · have := hfresh j (by omega) (hlt h1)
          have := h.blkIn h2
          omega
      intro q q' k k' hq hq' hne
      rcases hrd q k hq with ⟨j, blk, h1, rfl, rfl⟩ | ⟨h1, h2⟩ <;> rcases hrd q' k' hq' with ⟨j', blk', h1', rfl, rfl⟩ | ⟨h1', h2'⟩
      · rw [(hback j (hlt h1)).1, (hback j' (hlt h1')).1]
        exact hap j j' (hlt h1) (hlt h1') fun e => hne (e ▸ rfl)
      · rw [(hback j (hlt h1)).1, hσA q' (h.blA q' k' h1').2]
        exact hcross j blk q' k' h1 h1' h2'
      · rw [(hback j' (hlt h1')).1, hσA q (h.blA q k h1).2]
        exact (hcross j' blk' q k h1' h1 h2).symm
      · rw [hσA q (h.blA q k h1).2, hσA q' (h.blA q' k' h1').2]
        exact h.apart q q' k k' h1 h1' hne
    · intro q blk' hq
      rcases hrd q blk' hq with ⟨j, blk, h1, rfl, rfl⟩ | ⟨h1, h2⟩
      · rw [(hback j (hlt h1)).1]; exact (hout j blk h1).2.2
      · rw [hσA q (h.blA q blk' h1).2]; exact hS3 q blk' h1 h2
    · intro q blk' hq
      rcases hrd q blk' hq with ⟨j, blk, h1, rfl, rfl⟩ | ⟨h1, h2⟩
      · rw [(hback j (hlt h1)).1]
        by_cases hj : j < Ls.length
        · obtain ⟨b, k, g1, g2, g3, g4⟩ := hLA j hj
          have hb : backN Ls x j = b := by unfold backN; rw [if_pos hj, g2]
          rw [hlent j hj, hb]
          unfold lentσ
          rw [g2]
          exact h.mine b k g3
        · exact .inl (Nat.le_trans h.size (hfresh j (by omega) (hlt h1)))
      · rw [hσA q (h.blA q blk' h1).2]; exact h.mine q blk' h1
    · intro b hb; exact ⟨.inl (h.lentA b hb).1, (hσA b (h.lentA b hb).1).trans (h.lentA b hb).2⟩
    · intro k hk hn hx0
      rw [hframe k (Nat.lt_of_lt_of_le hk h.size) ?_ (fun q => let ⟨t, ht⟩ := hE3 k q hk; hx0 t ht)]
      · exact h.old k hk hn hx0
      · intro i hi e
        obtain ⟨b, blk, g1, g2, g3, g4⟩ := hLA i hi
        unfold lentσ at e
        rw [g2] at e
        rcases h.mine b blk g3 with hm | hm
        · omega
        · exact hn b hm (by rw [← (h.lentA b hm).2]; exact e)
  · exact hv.ren hrA (fun _ _ => rfl) (fun _ q => q) (fun b hb => (hback b hb).1)
  · exact hrA.ren fun b hb => (hback b hb).2
/-- Back from a call. -/
theorem call_back (h : RelOf X A σ S st a w) (x : Nat) (hx : ∀ b, x ≤ b → b < x + 8 → ¬ A b) (Ls : List Nat) (hnd : Ls.Nodup) (hal : ∀ b ∈ Ls, ∃ blk, st.rd b = some blk) (r : AV) (out : List Blk) (v : Value) (hol : out.length ≤ Ls.length + 8)
    (σc : Nat → Loc) (S2 : Kx → Prop) (hrA : r.InA (· < out.length)) (hnl : Ls.length ≤ out.length) (hv : RepV w' S2 σc r v)
    (hout : ∀ (b : Nat) blk, out[b]? = some blk → BlkRep w' S2 σc b blk ∧ blk.inA (· < out.length) ∧ ∀ y, S2 y → y.b ≠ (σc b).k) (hap : ∀ b b', b < out.length → b' < out.length → b ≠ b' → (σc b).k ≠ (σc b').k)
    (hlent : ∀ b, b < Ls.length → σc b = lentσ σ Ls b) (hfresh : ∀ b, Ls.length ≤ b → b < out.length → w.heap.size ≤ (σc b).k)
    (hS1 : ∀ k, S k → S2 k) (hS2 : ∀ k, S2 k → k.b < w'.heap.size) (hS3 : ∀ b blk, st.rd b = some blk → ¬ Ls.contains b = true → ∀ y, S2 y → y.b ≠ (σ b).k) (hS4 : ∀ k, S2 k → k.b < X.w0.heap.size → X.S0 k) (hok : SOk S2) (hfr : X.nl.own = none → Free S2)
    (hos : w'.os = w.os) (htape : w'.tape = w.tape) (houtp : w'.output = w.output) (hsize : w.heap.size ≤ w'.heap.size)
    (hframe : ∀ k, k < w.heap.size → (∀ b, b < Ls.length → (lentσ σ Ls b).k ≠ k) → w'.heap[k]? = w.heap[k]?) :
    ∃ σ', RelOf X (slots A x) σ' S2 { st with bl := backB Ls x 0 out ++ st.bl } a w' ∧ RepV w' S2 σ' (r.ren (backN Ls x)) v ∧ (r.ren (backN Ls x)).InA (slots A x) :=
  call_backX (fun _ => False) S h x hx Ls (fun _ q => q) (fun _ _ _ _ q => q) (fun _ _ _ _ q => q) h.glob (fun e he => (h.tg e he).1) hnd hal r out v hol σc S2 hrA hnl hv hout hap hlent hfresh hS1 hS2 hS3 hS4 hok hfr hos htape houtp hsize (fun k h1 h2 _ => hframe k h1 h2) (fun _ _ => id) (fun _ _ _ => id) (fun _ q => q.elim)
theorem RelOf.kills (h : RelOf X A σ S st a w) : ∀ bs : List Nat, RelOf X A σ S { st with bl := killB bs ++ st.bl } a w
  | [] => h
  | b :: bs => (RelOf.kills h bs).kill b
theorem kills_rd (st : St) : ∀ (bs : List Nat) (q : Nat) (blk : Blk), St.rd { st with bl := killB bs ++ st.bl } q = some blk → q ∉ bs ∧ st.rd q = some blk
  | [], q, blk, h => ⟨by simp, h⟩
  | b :: bs, q, blk, h => by
    rw [show ({ st with bl := killB (b :: bs) ++ st.bl } : St) = { ({ st with bl := killB bs ++ st.bl } : St) with bl := (b, none) :: ({ st with bl := killB bs ++ st.bl } : St).bl } from rfl, St.rd_cons] at h
    by_cases e : b = q
    · rw [if_pos e] at h; cases h
    · rw [if_neg e] at h
      obtain ⟨h1, h2⟩ := kills_rd st bs q blk h
      exact ⟨fun hm => (List.mem_cons.1 hm).elim (fun q' => e q'.symm) h1, h2⟩
theorem kills_keep (st : St) : ∀ (bs : List Nat) (q : Nat) (blk : Blk), q ∉ bs → st.rd q = some blk → St.rd { st with bl := killB bs ++ st.bl } q = some blk
  | [], q, blk, _, h => h
  | b :: bs, q, blk, hn, h => by
    rw [show ({ st with bl := killB (b :: bs) ++ st.bl } : St) = { ({ st with bl := killB bs ++ st.bl } : St) with bl := (b, none) :: ({ st with bl := killB bs ++ st.bl } : St).bl } from rfl, St.rd_cons, if_neg (fun e => hn (by simp [e]))]
    exact kills_keep st bs q blk (fun e => hn (by simp [e])) h
/-- What was borrowed is alive and not lent. -/
theorem passC_bor {Ls : List Nat} {c d : AC} {k : List Nat} {p : Prop} (hp : passC st Ls c = some (d, k, p)) : ∀ b ∈ k, ¬ Ls.contains b = true ∧ ∃ blk, st.rd b = some blk := by
  cases c <;> simp only [passC] at hp
  · simp only [Option.some.injEq, Prod.mk.injEq] at hp; obtain ⟨_, rfl, _⟩ := hp; simp
  · split at hp
    · simp only [Option.some.injEq, Prod.mk.injEq] at hp; obtain ⟨_, rfl, _⟩ := hp; simp
    · rename_i hn
      split at hp
      · rename_i hr
        simp only [Option.some.injEq, Prod.mk.injEq] at hp
        obtain ⟨_, rfl, _⟩ := hp
        intro b hb
        simp only [List.mem_singleton] at hb
        subst hb
        exact ⟨hn, _, hr⟩
      · cases hp
  · split at hp
    · simp only [Option.some.injEq, Prod.mk.injEq] at hp; obtain ⟨_, rfl, _⟩ := hp; simp
    · cases hp
  · simp only [Option.some.injEq, Prod.mk.injEq] at hp; obtain ⟨_, rfl, _⟩ := hp; simp
theorem passCs_bor {Ls : List Nat} : ∀ {cs ds : List AC} {k : List Nat} {p : Prop} (_ : passCs st Ls cs = some (ds, k, p)), ∀ b ∈ k, ¬ Ls.contains b = true ∧ ∃ blk, st.rd b = some blk
  | [], ds, k, p, hp => by simp only [passCs, Option.some.injEq, Prod.mk.injEq] at hp; obtain ⟨_, rfl, _⟩ := hp; simp
  | c :: cs, ds, k, p, hp => by
    simp only [passCs] at hp
    split at hp
    · rename_i d k1 p1 ds' k2 p2 h1 h2
      simp only [Option.some.injEq, Prod.mk.injEq] at hp
      obtain ⟨_, rfl, _⟩ := hp
      intro b hb
      rcases List.mem_append.1 hb with hb | hb
      · exact passC_bor h1 b hb
      · exact passCs_bor h2 b hb
    · cases hp
theorem passV_bor {Ls : List Nat} {x y : AV} {k : List Nat} {p : Prop} (hp : passV st Ls x = some (y, k, p)) : ∀ b ∈ k, ¬ Ls.contains b = true ∧ ∃ blk, st.rd b = some blk := by
  cases x <;> simp only [passV] at hp
  · split at hp
    · rename_i h1; simp only [Option.some.injEq, Prod.mk.injEq] at hp; obtain ⟨_, rfl, _⟩ := hp; exact passC_bor h1
    · cases hp
  · split at hp
    · rename_i h1; simp only [Option.some.injEq, Prod.mk.injEq] at hp; obtain ⟨_, rfl, _⟩ := hp; exact passCs_bor h1
    · cases hp
  · cases hp
  · split at hp
    · rename_i h1; simp only [Option.some.injEq, Prod.mk.injEq] at hp; obtain ⟨_, rfl, _⟩ := hp; exact passCs_bor h1
    · cases hp
  · cases hp
theorem passVs_bor {Ls : List Nat} : ∀ {cs ds : List AV} {k : List Nat} {p : Prop} (_ : passVs st Ls cs = some (ds, k, p)), ∀ b ∈ k, ¬ Ls.contains b = true ∧ ∃ blk, st.rd b = some blk
  | [], ds, k, p, hp => by simp only [passVs, Option.some.injEq, Prod.mk.injEq] at hp; obtain ⟨_, rfl, _⟩ := hp; simp
  | c :: cs, ds, k, p, hp => by
    simp only [passVs] at hp
    split at hp
    · rename_i d k1 p1 ds' k2 p2 h1 h2
      simp only [Option.some.injEq, Prod.mk.injEq] at hp
      obtain ⟨_, rfl, _⟩ := hp
      intro b hb
      rcases List.mem_append.1 hb with hb | hb
      · exact passV_bor h1 b hb
      · exact passVs_bor h2 b hb
    · cases hp
/-- A call. -/
theorem call_sound (h : RelOf X A σ S st a w) (ho : X.nl.own = none) (x : Nat) (hx : ∀ b, x ≤ b → b < x + 8 → ¬ A b) {f : FuncId} {avs cargs : List AV} {vs : Array Value} (hl : avs.length = vs.toList.length) (hrep : ∀ (i : Nat) v u, avs[i]? = some v → vs.toList[i]? = some u → RepV w S σ v u)
    (Ls bor : List Nat) (p : Prop) (hpass : passVs st Ls avs = some (cargs, bor, p)) (hp : p) (hnd : Ls.Nodup) (lent : List Blk) (hlent : rds st Ls = some lent) (hplain : ∀ blk ∈ lent, blk.inA (fun _ => False))
    (r : AV) (out : List Blk) (hgood : Good P f cargs lent r out) (hol : out.length ≤ Ls.length + 8) (kl : Bool)
    (hkl : match kl with | true => ∀ b ∈ bor, st.nl.n ≤ b | false => bor = [] ∨ (r.NoSl ∧ ∀ k ∈ out, k.noSl)) :
    Calls P f vs w fun en w' => ∃ v, en = .returned v ∧ ∃ σ' S', RelOf X (slots A x) σ' S' { st with bl := backB Ls x 0 out ++ ((if kl = true then killB bor else []) ++ st.bl) } a w' ∧ RepV w' S' σ' (r.ren (backN Ls x)) v ∧ (r.ren (backN Ls x)).InA (slots A x) := by
  have hfree := h.free ho
  obtain ⟨g1, g2, g3⟩ := passVs_sound h bor (.inr hfree) hpass hp (fun b hb => hb) hl hrep
  obtain ⟨k1, k2⟩ := rds_get hlent
  have hbor := passVs_bor hpass
  have haddF : Free (addS S σ bor) := by
    rintro k t (q | ⟨b, _, e⟩)
    · exact hfree k t q
    · cases e
  have hLsrd : ∀ b ∈ Ls, ∃ blk, st.rd b = some blk := by
    intro b hb
    obtain ⟨i, hi, rfl⟩ := List.mem_iff_getElem.1 hb
    obtain ⟨b', e1, e2⟩ := k2 i _ (List.getElem?_eq_getElem (by omega))
    rw [List.getElem?_eq_getElem hi] at e1
    cases e1
    exact ⟨_, e2⟩
  have hget : ∀ i, i < Ls.length → ∃ b blk, Ls[i]? = some b ∧ lent[i]? = some blk ∧ st.rd b = some blk ∧ lentσ σ Ls i = σ b := by
    intro i hi
    obtain ⟨b, e1, e2⟩ := k2 i _ (List.getElem?_eq_getElem (show i < lent.length by omega))
    exact ⟨b, _, e1, List.getElem?_eq_getElem (by omega), e2, by unfold lentσ; rw [List.getD_eq_getElem?_getD, e1]; rfl⟩
  have hcall := hgood w vs (lentσ σ Ls) (addS S σ bor) (by simpa using g1) (fun i v u e1 e2 => g2 i v u e1 (by simpa using e2)) (fun v hv => by rw [k1]; exact g3 v hv) ?_ ?_ ?_ (h.glob.mono (fun _ _ => rfl) (fun _ q => .inl q)) haddF
  rotate_left
  · intro i blk hi
    have hi' : i < Ls.length := k1 ▸ (List.getElem?_eq_some_iff.1 hi).1
    obtain ⟨b, blk', e1, e2, e3, e4⟩ := hget i hi'
    rw [hi] at e2; cases e2
    have hpl := hplain blk (List.mem_of_getElem? hi)
    refine ⟨?_, Blk.inA_mono (fun _ q => q.elim) hpl, ?_⟩
    · have := (h.blks b blk e3).ren (w' := w) (S' := addS S σ bor) (τ := lentσ σ Ls) (g := fun _ => i) hpl e4 (fun _ _ => rfl) (fun _ q => .inl q) (fun _ q => q.elim) rfl
      rwa [Blk.ren_plain hpl] at this
    · rw [e4]
      rintro y (q | ⟨b', hb', rfl⟩)
      · exact h.notS b blk e3 y q
      · obtain ⟨hn, blk2, hr2⟩ := hbor b' hb'
        exact fun e => h.apart b b' blk blk2 e3 hr2 (fun e => hn (e ▸ List.contains_iff_mem.2 (List.mem_of_getElem? e1))) e.symm
  · intro i j hi hj hne
    rw [k1] at hi hj
    obtain ⟨b, blk, e1, _, e3, e4⟩ := hget i hi
    obtain ⟨b', blk', e1', _, e3', e4'⟩ := hget j hj
    rw [e4, e4']
    refine h.apart b b' blk blk' e3 e3' fun e => hne ?_
    subst e
    exact nodup_inj hnd e1 e1'
  · rintro k (hk | ⟨b, hb, rfl⟩)
    · exact h.inS k hk
    · obtain ⟨_, blk, hr⟩ := hbor b hb; exact h.blkIn hr
  refine hcall.mono ?_
  rintro en w' ⟨v, rfl, σc, Sc, p1, p2, p3, p4, p5, p6, p7, p8, p9, p10, p11, p12, p13, p14, p15, p16⟩
  have hScF := p16 rfl
  rw [k1] at p3 p6 p7 p14
  refine ⟨v, rfl, ?_⟩
  cases kl with
  | true =>
    have hS3 : ∀ b blk, St.rd { st with bl := killB bor ++ st.bl } b = some blk → ¬ Ls.contains b = true → ∀ y, (addS S σ bor y ∨ Sc y) → y.b ≠ (σ b).k := by
      intro b blk hb hn
      obtain ⟨q1, q2⟩ := kills_rd st bor b blk hb
      have hadd : ∀ y, addS S σ bor y → y.b ≠ (σ b).k := by
        rintro y (q | ⟨b', hb', rfl⟩)
        · exact h.notS b blk q2 y q
        · obtain ⟨_, blk2, hr2⟩ := hbor b' hb'
          exact fun e => h.apart b b' blk blk2 q2 hr2 (fun e => q1 (e ▸ hb')) e.symm
      rintro y (q | q) e
      · exact hadd y q e
      · exact hadd y (p9 y q (e ▸ h.blkIn q2)) e
    have hlentS : ∀ i, i < Ls.length → ∀ y, addS S σ bor y → y.b ≠ (lentσ σ Ls i).k := by
      intro i hi
      obtain ⟨b, blk, e1, _, e3, e4⟩ := hget i hi
      rw [e4]
      rintro y (q | ⟨b', hb', rfl⟩)
      · exact h.notS b blk e3 y q
      · obtain ⟨hn, blk2, hr2⟩ := hbor b' hb'
        exact fun e => h.apart b b' blk blk2 e3 hr2 (fun e => hn (e ▸ List.contains_iff_mem.2 (List.mem_of_getElem? e1))) e.symm
    have haddlt : ∀ k, addS S σ bor k → k.b < w.heap.size := by
      rintro k (q | ⟨b, hb, rfl⟩)
      · exact h.inS k q
      · obtain ⟨_, blk, hr⟩ := hbor b hb; exact h.blkIn hr
    have hF2 : Free (fun k => addS S σ bor k ∨ Sc k) := fun k t q => q.elim (haddF k t) (hScF k t)
    have hal : ∀ b ∈ Ls, ∃ blk, St.rd { st with bl := killB bor ++ st.bl } b = some blk := by
      intro b hb
      obtain ⟨blk, hr⟩ := hLsrd b hb
      exact ⟨blk, kills_keep st bor b blk (fun q => (hbor b q).1 (List.contains_iff_mem.2 hb)) hr⟩
    obtain ⟨σ', f1, f2, f3⟩ := call_back (h.kills bor) x hx Ls hnd hal r out v hol σc (fun k => addS S σ bor k ∨ Sc k) p2 p3
      (p1.mono p2 (fun _ _ => rfl) (fun _ q => .inr q) (fun _ _ => rfl))
      (fun b blk hb => ⟨(p4 b blk hb).1.mono (p4 b blk hb).2.1 (List.getElem?_eq_some_iff.1 hb).1 (fun _ _ => rfl) (fun _ q => .inr q) (fun _ _ => rfl) rfl, (p4 b blk hb).2.1, by
        rintro y (q | q) e
        · by_cases hi : b < Ls.length
          · rw [p6 b hi] at e; exact hlentS b hi y q e
          · have := p7 b (by omega) (List.getElem?_eq_some_iff.1 hb).1
            have := haddlt _ q
            omega
        · exact (p4 b blk hb).2.2 y q e⟩)
      p5 p6 p7 (fun k q => .inl (.inl q)) (fun k q => q.elim (fun q => Nat.lt_of_lt_of_le (haddlt k q) p13) (fun q => p8 k q))
      hS3 (fun k q hlt => by
        have hlt' : k.b < w.heap.size := Nat.lt_of_lt_of_le hlt h.size
        have q' : addS S σ bor k := q.elim id (fun q => p9 k q hlt')
        rcases q' with q' | ⟨b, hb, rfl⟩
        · exact h.oldS k q' hlt
        · obtain ⟨_, blk, hr⟩ := hbor b hb
          have hlt2 : (σ b).k < X.w0.heap.size := hlt
          rcases h.mine b blk hr with hm | hm
          · omega
          · have := hkl b hb; have := h.nln; omega)
      hF2.ok (fun _ => hF2) p10 p11 p12 p13 p14
    exact ⟨σ', _, f1, f2, f3⟩
  | false =>
    -- the set of what is settled: with the callee's where nothing was borrowed
    have main : ∀ S2 : Kx → Prop, (∀ k, S k → S2 k) → (∀ k, S2 k → k.b < w'.heap.size) → (∀ k, S2 k → k.b < w.heap.size → S k) → RepV w' S2 σc r v → (∀ (b : Nat) blk, out[b]? = some blk → BlkRep w' S2 σc b blk) → (∀ k, S2 k → S k ∨ Sc k) →
        ∃ σ' S', RelOf X (slots A x) σ' S' { st with bl := backB Ls x 0 out ++ ([] ++ st.bl) } a w' ∧ RepV w' S' σ' (r.ren (backN Ls x)) v ∧ (r.ren (backN Ls x)).InA (slots A x) := by
      intro S2 t1 t2 t3 t4 t5 t6
      have hF2 : Free S2 := fun k t q => (t6 _ q).elim (hfree k t) (hScF k t)
      obtain ⟨σ', f1, f2, f3⟩ := call_back h x hx Ls hnd hLsrd r out v hol σc S2 p2 p3 t4
        (fun b blk hb => ⟨t5 b blk hb, (p4 b blk hb).2.1, by
          intro y q e
          rcases t6 _ q with q' | q'
          · by_cases hi : b < Ls.length
            · obtain ⟨b', blk', e1, _, e3, e4⟩ := hget b hi
              rw [p6 b hi, e4] at e
              exact h.notS b' blk' e3 y q' e
            · have := p7 b (by omega) (List.getElem?_eq_some_iff.1 hb).1
              have := h.inS _ q'
              omega
          · exact (p4 b blk hb).2.2 y q' e⟩)
        p5 p6 p7 t1 t2 (fun b blk hb _ y q e => h.notS b blk hb y (t3 _ q (e ▸ h.blkIn hb)) e) (fun k q hlt => h.oldS k (t3 k q (Nat.lt_of_lt_of_le hlt h.size)) hlt) hF2.ok (fun _ => hF2) p10 p11 p12 p13 p14
      exact ⟨σ', _, f1, f2, f3⟩
    rcases hkl with rfl | ⟨hk1, hk2⟩
    · have hadd : ∀ k, addS S σ [] k → S k := fun k q => q.elim id (fun ⟨b, hb, _⟩ => by cases hb)
      exact main (fun k => S k ∨ Sc k) (fun k q => .inl q) (fun k q => q.elim (fun q => Nat.lt_of_lt_of_le (h.inS k q) p13) (fun q => p8 k q))
        (fun k q hlt => q.elim id (fun q => hadd k (p9 k q hlt)))
        (p1.mono p2 (fun _ _ => rfl) (fun _ q => .inr q) (fun _ _ => rfl))
        (fun b blk hb => (p4 b blk hb).1.mono (p4 b blk hb).2.1 (List.getElem?_eq_some_iff.1 hb).1 (fun _ _ => rfl) (fun _ q => .inr q) (fun _ _ => rfl) rfl) (fun k q => q)
    · exact main S (fun k q => q) (fun k q => Nat.lt_of_lt_of_le (h.inS k q) p13) (fun k q _ => q) (p1.noSl (fun k t q => (hScF k t q).elim) hk1) (fun b blk hb => (p4 b blk hb).1.noSl (fun k t q => (hScF k t q).elim) (hk2 blk (List.mem_of_getElem? hb))) (fun k q => .inl q)
/-- A call in a function that has rows of its own: the callee sees them as settled ones. -/
theorem call_own (h : RelOf X A σ S st a w) (ho : X.nl.own ≠ none) (x : Nat) (hx : ∀ b, x ≤ b → b < x + 8 → ¬ A b) {f : FuncId} {avs cargs : List AV} {vs : Array Value} (hl : avs.length = vs.toList.length) (hrep : ∀ (i : Nat) v u, avs[i]? = some v → vs.toList[i]? = some u → RepV w S σ v u)
    (bor : List Nat) (p : Prop) (hpass : passVs st [] avs = some (cargs, bor, p)) (hp : p) (fargs : List AV) (hF : FgtVs cargs fargs)
    (r : AV) (out : List Blk) (hgood : GoodO true P f fargs [] r out) (hol : out.length ≤ 8) (hk1 : r.NoSl) (hk2 : ∀ k ∈ out, k.noSl) :
    Calls P f vs w fun en w' => ∃ v, en = .returned v ∧ ∃ σ' S', RelOf X (slots A x) σ' S' { st with bl := backB [] x 0 out ++ st.bl } a w' ∧ RepV w' S' σ' (r.ren (backN [] x)) v ∧ (r.ren (backN [] x)).InA (slots A x) := by
  obtain ⟨g1, g2⟩ := passVs_own h bor σ hpass hp (fun b hb => hb) hF hl hrep
  obtain ⟨q1, q2⟩ := hF.get
  have hbor := passVs_bor hpass
  have hcall := hgood w vs σ (allM (addS S σ bor)) (by simpa using g1) (fun i v u e1 e2 => g2 i v u e1 (by simpa using e2)) (fun v hv => by
      obtain ⟨i, hi⟩ := List.mem_iff_getElem?.1 hv
      obtain ⟨c, _, e4⟩ := q2 i v hi
      exact e4.inA _) (fun b blk hb => by simp at hb) (fun b b' hb => by simp at hb) ?_ ?_ (allM_free _)
  rotate_left
  · rintro k ⟨z, hz, rfl⟩
    rcases hz with hz | ⟨b, hb, rfl⟩
    · exact h.inS z hz
    · obtain ⟨_, blk, hr⟩ := hbor b hb; exact h.blkIn hr
  · exact ⟨fun g vs hl => ⟨⟨_, .inl (h.glob.1 g vs hl).1, rfl⟩, (h.glob.1 g vs hl).2⟩, fun g hl => ⟨⟨_, .inl (h.glob.2 g hl).1, rfl⟩, (h.glob.2 g hl).2⟩⟩
  refine hcall.mono ?_
  rintro en w' ⟨v, rfl, σc, Sc, p1, p2, p3, p4, p5, p6, p7, p8, p9, p10, p11, p12, p13, p14, p15, p16⟩
  refine ⟨v, rfl, ?_⟩
  have hold : ∀ k t, Sc (.t k t) → w.heap.size ≤ k := fun k t q => by
    rcases Nat.lt_or_ge k w.heap.size with hlt | hge
    · obtain ⟨z, _, e⟩ := p9 _ q hlt; cases e
    · exact hge
  have hT : ∀ k t, Sc (.t k t) → (fun y => S y ∨ ∃ k t, y = .t k t ∧ Sc y) (.t k t) := fun k t q => .inr ⟨k, t, rfl, q⟩
  obtain ⟨σ', f1, f2, f3⟩ := call_back h x hx [] List.nodup_nil (fun b hb => by cases hb) r out v (by simpa using hol) σc (fun y => S y ∨ ∃ k t, y = .t k t ∧ Sc y) p2 p3 (p1.noSl hT hk1)
    (fun b blk hb => ⟨(p4 b blk hb).1.noSl hT (hk2 blk (List.mem_of_getElem? hb)), (p4 b blk hb).2.1, by
      rintro y (q | ⟨k, t, rfl, q⟩) e
      · have := p7 b (Nat.zero_le _) (List.getElem?_eq_some_iff.1 hb).1
        have := h.inS _ q
        omega
      · exact (p4 b blk hb).2.2 _ q e⟩)
    p5 (fun b hb => by simp at hb) p7 (fun k q => .inl q)
    (by
      rintro y (q | ⟨k, t, rfl, q⟩)
      · exact Nat.lt_of_lt_of_le (h.inS y q) p13
      · exact p8 _ q)
    (by
      rintro b blk hb _ y (q | ⟨k, t, rfl, q⟩) e
      · exact h.notS b blk hb y q e
      · have h1 := h.blkIn hb
        have h2 := hold k t q
        have e2 : k = (σ b).k := e
        omega)
    (by
      rintro y (q | ⟨k, t, rfl, q⟩) hlt
      · exact h.oldS y q hlt
      · have h2 := hold k t q
        have h3 := h.size
        have e2 : k < X.w0.heap.size := hlt
        omega)
    ⟨(by
      rintro k t (q | ⟨_, _, _, q⟩) q2
      · rcases q2 with q2 | ⟨_, _, e, _⟩
        · exact h.sok.nm k t q q2
        · cases e
      · rcases q2 with q2 | ⟨_, _, e, _⟩
        · have h1 := h.inS _ q2
          have h2 := hold k t q
          have e2 : k < w.heap.size := h1
          omega
        · cases e), (by
      rintro k t t' (q | ⟨_, _, _, q⟩) (q2 | ⟨_, _, _, q2⟩)
      · exact h.sok.one k t t' q q2
      · have h1 : k < w.heap.size := h.inS _ q
        have h2 := hold k t' q2
        omega
      · have h1 : k < w.heap.size := h.inS _ q2
        have h2 := hold k t q
        omega
      · exact p15.one k t t' q q2)⟩
    (fun e => (ho e).elim) p10 p11 p12 p13 (fun k hk hne => p14 k hk fun b hb => by simp at hb)
  exact ⟨σ', _, f1, f2, f3⟩
/-! ### a call in a function with rows of its own: nothing of these is handed over, so what comes back may be settled -/
/-- What is settled. -/
def setm (S : Kx → Prop) : Kx → Prop
  | .m k => S (.m k)
  | .t _ _ => False
theorem setm_free (S : Kx → Prop) : Free (setm S) := fun _ _ h => h
theorem setm_sub {S : Kx → Prop} : ∀ k, setm S k → S k
  | .m _, h => h
  | .t _ _, h => h.elim
theorem RepP.setm {x : PV} {v : Value} (h : RepP w S x v) (hn : x.notOwn = true) : RepP w (setm S) x v := by
  induction h with
  | lit v => exact .lit v
  | nil a cap => exact .nil a cap
  | sl els k off sz n cap cf hn' hcap hk hsz hc hr ho ih => exact .sl els k off sz n cap cf hn' hcap hk hsz hc (fun i el j x h1 h2 => ih i el j x h1 h2 (ho i el j x h1 h2)) ho
  | own0 => cases hn
  | own => cases hn
def AC.nOwn : AC → Bool
  | .p x => x.notOwn
  | _ => false
def AV.nOwn : AV → Bool
  | .one c => c.nOwn
  | .agg cs => cs.all AC.nOwn
  | _ => false
theorem RepC.setm {τ : Nat → Loc} {c : AC} {v : Value} (h : RepC w S σ c v) (hn : c.nOwn = true) : RepC w (setm S) τ c v := by
  cases h with
  | p h => exact .p (h.setm hn)
  | _ => cases hn
theorem RepV.setm {τ : Nat → Loc} {c : AV} {v : Value} (h : RepV w S σ c v) (hn : c.nOwn = true) : RepV w (setm S) τ c v := by
  cases h with
  | one h => exact .one (h.setm hn)
  | agg cs vs hl h => exact .agg cs vs hl fun i c v h1 h2 => (h i c v h1 h2).setm (List.all_eq_true.1 hn c (List.mem_of_getElem? h1))
  | _ => cases hn
theorem call_frz (h : RelOf X A σ S st a w) (x : Nat) (hx : ∀ b, x ≤ b → b < x + 8 → ¬ A b) {f : FuncId} {avs cargs : List AV} {vs : Array Value} (hl : avs.length = vs.toList.length) (hrep : ∀ (i : Nat) v u, avs[i]? = some v → vs.toList[i]? = some u → RepV w S σ v u)
    (p : Prop) (hpass : passVs st [] avs = some (cargs, [], p)) (hp : p) (hno : ∀ c ∈ cargs, c.nOwn = true)
    (r : AV) (out : List Blk) (hgood : Good P f cargs [] r out) (hol : out.length ≤ 8) :
    Calls P f vs w fun en w' => ∃ v, en = .returned v ∧ ∃ σ' S', RelOf X (slots A x) σ' S' { st with bl := backB [] x 0 out ++ st.bl } a w' ∧ RepV w' S' σ' (r.ren (backN [] x)) v ∧ (r.ren (backN [] x)).InA (slots A x) := by
  obtain ⟨g1, g2, g3⟩ := passVs_sound h [] (.inl rfl) hpass hp (fun b hb => hb) hl hrep
  have hadd : ∀ k, addS S σ [] k → S k := fun k q => q.elim id (fun ⟨b, hb, _⟩ => by cases hb)
  have hcall := hgood w vs σ (setm (addS S σ [])) (by simpa using g1) (fun i v u e1 e2 => (g2 i v u e1 (by simpa using e2)).setm (hno v (List.mem_of_getElem? e1))) g3 (fun b blk hb => by simp at hb) (fun b b' hb => by simp at hb)
    (fun k q => h.inS k (hadd k (setm_sub k q))) ⟨fun g vs hl => ⟨.inl (h.glob.1 g vs hl).1, (h.glob.1 g vs hl).2⟩, fun g hl => ⟨.inl (h.glob.2 g hl).1, (h.glob.2 g hl).2⟩⟩ (setm_free _)
  refine hcall.mono ?_
  rintro en w' ⟨v, rfl, σc, Sc, p1, p2, p3, p4, p5, p6, p7, p8, p9, p10, p11, p12, p13, p14, p15, p16⟩
  have hScF := p16 rfl
  have h9 : ∀ k, Sc k → k.b < w.heap.size → S k := fun k q hlt => hadd k (setm_sub k (p9 k q hlt))
  refine ⟨v, rfl, ?_⟩
  obtain ⟨σ', f1, f2, f3⟩ := call_back h x hx [] List.nodup_nil (fun b hb => by cases hb) r out v (by simpa using hol) σc (fun y => S y ∨ Sc y) p2 p3 (p1.mono p2 (fun _ _ => rfl) (fun _ q => .inr q) (fun _ _ => rfl))
    (fun b blk hb => ⟨(p4 b blk hb).1.mono (p4 b blk hb).2.1 (List.getElem?_eq_some_iff.1 hb).1 (fun _ _ => rfl) (fun _ q => .inr q) (fun _ _ => rfl) rfl, (p4 b blk hb).2.1, by
      rintro y (q | q) e
      · have := p7 b (Nat.zero_le _) (List.getElem?_eq_some_iff.1 hb).1
        have := h.inS _ q
        omega
      · exact (p4 b blk hb).2.2 _ q e⟩)
    p5 (fun b hb => by simp at hb) p7 (fun k q => .inl q)
    (fun y q => q.elim (fun q => Nat.lt_of_lt_of_le (h.inS y q) p13) (fun q => p8 _ q))
    (by
      rintro b blk hb _ y (q | q) e
      · exact h.notS b blk hb y q e
      · exact h.notS b blk hb y (h9 y q (e ▸ h.blkIn hb)) e)
    (by
      rintro y (q | q) hlt
      · exact h.oldS y q hlt
      · exact h.oldS y (h9 y q (Nat.lt_of_lt_of_le hlt h.size)) hlt)
    ⟨(by
      rintro k t (q | q) q2
      · rcases q2 with q2 | q2
        · exact h.sok.nm k t q q2
        · exact h.sok.nm k t q (h9 _ q2 (show (Kx.m k).b < w.heap.size from h.inS (.t k t) q))
      · exact hScF k t q), (by
      rintro k t t' (q | q) (q2 | q2)
      · exact h.sok.one k t t' q q2
      · exact (hScF _ _ q2).elim
      · exact (hScF _ _ q).elim
      · exact (hScF _ _ q).elim)⟩
    (fun e k t q => q.elim (h.free e k t) (hScF k t)) p10 p11 p12 p13 (fun k hk hne => p14 k hk fun b hb => by simp at hb)
  exact ⟨σ', _, f1, f2, f3⟩
/-! ### what is told of a tag, left away -/
def PV.noT (T : List Nat) : PV → Bool
  | .own t _ => !T.contains t
  | _ => true
def PV.inT (T : List Nat) : PV → Bool
  | .own t _ => T.contains t
  | _ => true
def AC.noT (T : List Nat) : AC → Bool
  | .p x => x.noT T
  | .fp el _ => el.all (PV.noT T)
  | _ => true
mutual
def AV.noT (T : List Nat) : AV → Bool
  | .one c => c.noT T
  | .agg cs => cs.all (AC.noT T)
  | .tup vs => AV.noTs T vs
  | .clo _ cs => cs.all (AC.noT T)
  | .unk => true
def AV.noTs (T : List Nat) : List AV → Bool
  | [] => true
  | v :: vs => AV.noT T v && AV.noTs T vs
end
theorem AV.noTs_mem {T : List Nat} : ∀ {vs : List AV}, AV.noTs T vs = true → ∀ v ∈ vs, v.noT T = true
  | [], _, v, hv => by cases hv
  | x :: xs, h, v, hv => by
    simp only [AV.noTs, Bool.and_eq_true] at h
    rcases List.mem_cons.1 hv with rfl | hv
    · exact h.1
    · exact AV.noTs_mem h.2 v hv
def AC.nOwnH : AC → Bool
  | .p x => x.notOwn
  | .fp _ _ => false
  | _ => true
def AV.nOwnH : AV → Bool
  | .one c => c.nOwnH
  | .agg cs => cs.all AC.nOwnH
  | _ => false
theorem RepC.setmH {c : AC} {v : Value} (h : RepC w S σ c v) (hn : c.nOwnH = true) : RepC w (Abs.setm S) σ c v := by
  cases h with
  | p h => exact .p (h.setm hn)
  | hs b lo n cap h h2 => exact .hs b lo n cap h h2
  | hs0 b lo a => exact .hs0 b lo a
  | hp b i j => exact .hp b i j
  | fp => cases hn
theorem RepV.setmH {c : AV} {v : Value} (h : RepV w S σ c v) (hn : c.nOwnH = true) : RepV w (Abs.setm S) σ c v := by
  cases h with
  | one h => exact .one (h.setmH hn)
  | agg cs vs hl h => exact .agg cs vs hl fun i c v h1 h2 => (h i c v h1 h2).setmH (List.all_eq_true.1 hn c (List.mem_of_getElem? h1))
  | _ => cases hn
def Blk.noT (T : List Nat) : Blk → Prop
  | .arr _ els => ∀ el ∈ els, ∀ x ∈ el, x.noT T = true
  | .box cs => ∀ c ∈ cs, c.noT T = true
def Blk.inT (T : List Nat) : Blk → Prop
  | .arr _ els => ∀ el ∈ els, ∀ x ∈ el, x.inT T = true
  | .box cs => ∀ c ∈ cs, c.nOwnH = true
/-- Without these tags. -/
def offT (T : List Nat) (S : Kx → Prop) : Kx → Prop
  | .m k => S (.m k)
  | .t k t => ¬ T.contains t = true ∧ S (.t k t)
/-- With these tags alone. -/
def onT (T : List Nat) (S : Kx → Prop) : Kx → Prop
  | .m k => S (.m k)
  | .t k t => T.contains t = true ∧ S (.t k t)
theorem offT_sub {T : List Nat} {S : Kx → Prop} : ∀ k, offT T S k → S k
  | .m _, h => h
  | .t _ _, h => h.2
theorem onT_sub {T : List Nat} {S : Kx → Prop} : ∀ k, onT T S k → S k
  | .m _, h => h
  | .t _ _, h => h.2
theorem RepP.offT {T : List Nat} {x : PV} {v : Value} (h : RepP w S x v) (hn : x.noT T = true) : RepP w (offT T S) x v := by
  have key : x.notOwn = true → RepP w (Abs.offT T S) x v := fun q => (h.setm q).mono (fun _ _ => rfl) (fun k hk => by cases k with | m k => exact hk | t k t => exact hk.elim)
  cases h with
  | own0 t k hk a cap => exact .own0 t k ⟨by simpa [PV.noT] using hn, hk⟩ a cap
  | own t els k sz n cap tot c ty fr hl hcap hct hk hb hfr hcs hone hsz hc => exact .own t els k sz n cap tot c ty fr hl hcap hct ⟨by simpa [PV.noT] using hn, hk⟩ hb hfr hcs hone hsz hc
  | _ => exact key rfl
theorem RepP.onT {T : List Nat} {x : PV} {v : Value} (h : RepP w S x v) (hn : x.inT T = true) : RepP w (onT T S) x v := by
  have key : x.notOwn = true → RepP w (Abs.onT T S) x v := fun q => (h.setm q).mono (fun _ _ => rfl) (fun k hk => by cases k with | m k => exact hk | t k t => exact hk.elim)
  cases h with
  | own0 t k hk a cap => exact .own0 t k ⟨hn, hk⟩ a cap
  | own t els k sz n cap tot c ty fr hl hcap hct hk hb hfr hcs hone hsz hc => exact .own t els k sz n cap tot c ty fr hl hcap hct ⟨hn, hk⟩ hb hfr hcs hone hsz hc
  | _ => exact key rfl
theorem RepC.offT {T : List Nat} {c : AC} {v : Value} (h : RepC w S σ c v) (hn : c.noT T = true) : RepC w (offT T S) σ c v := by
  cases h with
  | p h => exact .p (h.offT hn)
  | hs b lo n cap h h2 => exact .hs b lo n cap h h2
  | hs0 b lo a => exact .hs0 b lo a
  | hp b i j => exact .hp b i j
  | fp el j k o hk h => exact .fp el j k o hk fun i x hi => let ⟨v, h1, h2⟩ := h i x hi; ⟨v, h1, h2.offT (List.all_eq_true.1 hn x (List.mem_of_getElem? hi))⟩
theorem RepV.offT {T : List Nat} {c : AV} {v : Value} (h : RepV w S σ c v) : c.noT T = true → RepV w (offT T S) σ c v := by
  induction h with
  | one h => intro hn; exact .one (h.offT (by simpa [AV.noT] using hn))
  | agg cs vs hl h => intro hn; exact .agg cs vs hl fun i c v h1 h2 => (h i c v h1 h2).offT (List.all_eq_true.1 (by simpa only [AV.noT] using hn) c (List.mem_of_getElem? h1))
  | tup as vs hl h ih => intro hn; exact .tup as vs hl fun i c v h1 h2 => ih i c v h1 h2 (AV.noTs_mem (by simpa only [AV.noT] using hn) c (List.mem_of_getElem? h1))
  | clo f cs vs hl h => intro hn; exact .clo f cs vs hl fun i c v h1 h2 => (h i c v h1 h2).offT (List.all_eq_true.1 (by simpa only [AV.noT] using hn) c (List.mem_of_getElem? h1))
  | unk v => intro _; exact .unk v
theorem BlkRep.offT {T : List Nat} {b : Nat} {blk : Blk} (h : BlkRep w S σ b blk) (hn : blk.noT T) : BlkRep w (offT T S) σ b blk := by
  obtain ⟨c, ty, fr, h1, h0, h2, h3, h4⟩ := h
  refine ⟨c, ty, fr, h1, h0, h2, h3, ?_⟩
  cases blk with
  | arr sz els => exact ⟨h4.1, h4.2.1, fun i el hi => ⟨(h4.2.2 i el hi).1, fun j x hj => let ⟨v, q1, q2⟩ := (h4.2.2 i el hi).2 j x hj; ⟨v, q1, q2.offT (hn el (List.mem_of_getElem? hi) x (List.mem_of_getElem? hj))⟩⟩⟩
  | box cs => exact ⟨h4.1, h4.2.1, fun j x hj => let ⟨v, q1, q2⟩ := h4.2.2 j x hj; ⟨v, q1, q2.offT (hn x (List.mem_of_getElem? hj))⟩⟩
/-- A call that may change what is somebody's own under the tags T. -/
theorem call_mark (h : RelOf X A σ S st a w) (htg : X.nl.tg = []) (how : X.nl.own ≠ none) (x : Nat) (hx : ∀ b, x ≤ b → b < x + 8 → ¬ A b) {f : FuncId} {avs cargs : List AV} {vs : Array Value} (hl : avs.length = vs.toList.length) (hrep : ∀ (i : Nat) v u, avs[i]? = some v → vs.toList[i]? = some u → RepV w S σ v u)
    (Ls : List Nat) (p : Prop) (hpass : passVs st Ls avs = some (cargs, [], p)) (hp : p) (hnd : Ls.Nodup) (lent : List Blk) (hlent : rds st Ls = some lent) (harr : ∀ blk ∈ lent, ∃ sz els, blk = .arr sz els)
    (T : List Nat) (hno : ∀ c ∈ cargs, c.nOwnH = true) (hlT : ∀ blk ∈ lent, blk.inT T) (hTm : ∀ t av, lk st.tm t = some av → av.noT T = true) (hTb : ∀ b blk, st.rd b = some blk → b ∉ Ls → blk.noT T)
    (r : AV) (out : List Blk) (hgood : GoodM P f cargs lent r out) (hol : out.length ≤ Ls.length + 8) :
    Calls P f vs w fun en w' => ∃ v, en = .returned v ∧ ∃ σ' S', RelOf X (slots A x) σ' S' { st with bl := backB Ls x 0 out ++ st.bl } a w' ∧ RepV w' S' σ' (r.ren (backN Ls x)) v ∧ (r.ren (backN Ls x)).InA (slots A x) := by
  obtain ⟨g1, g2, g3⟩ := passVs_sound h [] (.inl rfl) hpass hp (fun b hb => hb) hl hrep
  obtain ⟨k1, k2⟩ := rds_get hlent
  have hadd : ∀ k, addS S σ [] k → S k := fun k q => q.elim id (fun ⟨b, hb, _⟩ => by cases hb)
  have hget : ∀ i, i < Ls.length → ∃ b blk, Ls[i]? = some b ∧ lent[i]? = some blk ∧ st.rd b = some blk ∧ lentσ σ Ls i = σ b := by
    intro i hi
    obtain ⟨b, e1, e2⟩ := k2 i _ (List.getElem?_eq_getElem (show i < lent.length by omega))
    exact ⟨b, _, e1, List.getElem?_eq_getElem (by omega), e2, by unfold lentσ; rw [List.getD_eq_getElem?_getD, e1]; rfl⟩
  have hLsrd : ∀ b ∈ Ls, ∃ sz els, st.rd b = some (.arr sz els) := by
    intro b hb
    obtain ⟨i, hi⟩ := List.mem_iff_getElem?.1 hb
    obtain ⟨b', blk, e1, e2, e3, _⟩ := hget i (List.getElem?_eq_some_iff.1 hi).1
    rw [hi] at e1; cases e1
    obtain ⟨sz, els, rfl⟩ := harr blk (List.mem_of_getElem? e2)
    exact ⟨sz, els, e3⟩
  have hokT : SOk (onT T S) := h.sok.of onT_sub
  have hcall := hgood w vs (lentσ σ Ls) (onT T S) (by simpa using g1) (fun i v u e1 e2 => ((g2 i v u e1 (by simpa using e2)).setmH (hno v (List.mem_of_getElem? e1))).mono (g3 v (List.mem_of_getElem? e1)) (fun _ _ => rfl) (fun k q => by cases k with | m k => exact hadd _ q | t k t => exact q.elim) (fun _ _ => rfl)) (fun v hv => by rw [k1]; exact g3 v hv) ?_ ?_
    (fun k q => h.inS k (onT_sub k q)) ⟨fun g vs hl => h.glob.1 g vs hl, fun g hl => h.glob.2 g hl⟩ hokT
  rotate_left
  · intro i blk hi
    have hi' : i < Ls.length := k1 ▸ (List.getElem?_eq_some_iff.1 hi).1
    obtain ⟨b, blk', e1, e2, e3, e4⟩ := hget i hi'
    rw [hi] at e2; cases e2
    obtain ⟨sz, els, rfl⟩ := harr blk (List.mem_of_getElem? hi)
    refine ⟨?_, trivial, ?_⟩
    · obtain ⟨c, ty, fr, h1, h0, h2, h3, h4⟩ := h.blks b _ e3
      unfold BlkRep
      rw [e4]
      refine ⟨c, ty, fr, h1, h0, h2, h3, h4.1, h4.2.1, fun m el hm => ⟨(h4.2.2 m el hm).1, fun j y hj => ?_⟩⟩
      obtain ⟨u, q1, q2⟩ := (h4.2.2 m el hm).2 j y hj
      exact ⟨u, q1, q2.onT (hlT _ (List.mem_of_getElem? hi) el (List.mem_of_getElem? hm) y (List.mem_of_getElem? hj))⟩
    · rw [e4]; exact fun y hy => h.notS b _ e3 y (onT_sub y hy)
  · intro i j hi hj hne
    rw [k1] at hi hj
    obtain ⟨b, blk, e1, _, e3, e4⟩ := hget i hi
    obtain ⟨b', blk', e1', _, e3', e4'⟩ := hget j hj
    rw [e4, e4']
    refine h.apart b b' blk blk' e3 e3' fun e => hne ?_
    subst e
    exact nodup_inj hnd e1 e1'
  refine hcall.mono ?_
  rintro en w' ⟨v, rfl, σc, Sc, p1, p2, p3, p4, p5, p6, p7, p8, p9, p10, p11, p12, p13, p14, p15, _⟩
  rw [k1] at p3 p6 p7 p14
  refine ⟨v, rfl, ?_⟩
  have hnm : ∀ k t, S (.t k t) → ¬ S (.m k) := h.sok.nm
  have h9 : ∀ y, Sc y → y.b < w.heap.size → S y := fun y q hlt => onT_sub y (p9 y q hlt)
  obtain ⟨σ', f1, f2, f3⟩ := call_backX (fun k => ∃ t, T.contains t = true ∧ S (.t k t)) (offT T S) h x hx Ls offT_sub (fun t av u e q => q.offT (hTm t av e)) (fun q blk e hn hb => hb.offT (hTb q blk e fun hm => hn (List.contains_iff_mem.2 hm)))
    ⟨fun g vs hl => h.glob.1 g vs hl, fun g hl => h.glob.2 g hl⟩ (fun e he => by rw [htg] at he; cases he) hnd (fun b hb => let ⟨sz, els, e⟩ := hLsrd b hb; ⟨_, e⟩) r out v hol σc (fun y => offT T S y ∨ Sc y) p2 p3 (p1.mono p2 (fun _ _ => rfl) (fun _ q => .inr q) (fun _ _ => rfl))
    (fun b blk hb => ⟨(p4 b blk hb).1.mono (p4 b blk hb).2.1 (List.getElem?_eq_some_iff.1 hb).1 (fun _ _ => rfl) (fun _ q => .inr q) (fun _ _ => rfl) rfl, (p4 b blk hb).2.1, by
      rintro y (q | q) e
      · have q := offT_sub y q
        by_cases hi : b < Ls.length
        · obtain ⟨b', blk', e1, _, e3, e4⟩ := hget b hi
          rw [p6 b hi, e4] at e
          exact h.notS b' blk' e3 y q e
        · have := p7 b (by omega) (List.getElem?_eq_some_iff.1 hb).1
          have := h.inS _ q
          omega
      · exact (p4 b blk hb).2.2 y q e⟩)
    p5 p6 p7 (fun k q => .inl q) (fun y q => q.elim (fun q => Nat.lt_of_lt_of_le (h.inS y (offT_sub y q)) p13) (fun q => p8 y q))
    (fun b blk hb _ y q e => q.elim (fun q => h.notS b blk hb y (offT_sub y q) e) (fun q => h.notS b blk hb y (h9 y q (e ▸ h.blkIn hb)) e))
    (fun y q hlt => q.elim (fun q => h.oldS y (offT_sub y q) hlt) (fun q => h.oldS y (h9 y q (Nat.lt_of_lt_of_le hlt h.size)) hlt))
    ⟨(by
      rintro k t (q | q) (q2 | q2)
      · exact hnm k t q.2 q2
      · exact hnm k t q.2 (h9 _ q2 (show (Kx.m k).b < _ from h.inS (.t k t) q.2))
      · exact hnm k t (h9 _ q (show (Kx.t k t).b < _ from h.inS (.m k) q2)) q2
      · exact p15.nm k t q q2), (by
      rintro k t t' (q | q) (q2 | q2)
      · exact h.sok.one k t t' q.2 q2.2
      · exact h.sok.one k t t' q.2 (h9 _ q2 (show (Kx.t k t').b < _ from h.inS (.t k t) q.2))
      · exact h.sok.one k t t' (h9 _ q (show (Kx.t k t).b < _ from h.inS (.t k t') q2.2)) q2.2
      · exact p15.one k t t' q q2)⟩
    (fun e => (how e).elim) p10 p11 p12 p13
    (fun k h1 h2 h3 => p14 k h1 h2 fun t q => h3 ⟨t, q.1, q.2⟩)
    (fun y q => by
      rintro ⟨t, ht, hs⟩
      cases y with
      | m k => exact hnm k t hs q
      | t k t' => exact q.1 (h.sok.one k t t' hs q.2 ▸ ht))
    (fun b blk hb => fun ⟨t, _, hs⟩ => h.notS b blk hb _ hs rfl)
    (fun k q hlt => let ⟨t, _, hs⟩ := q; ⟨t, h.oldS _ hs hlt⟩)
  exact ⟨σ', _, f1, f2, f3⟩
def Blk.nOwn : Blk → Prop
  | .arr _ els => ∀ el ∈ els, ∀ x ∈ el, x.notOwn = true
  | .box _ => False
/-- A call in a function with rows of its own, that lends blocks without such. -/
theorem call_lend (h : RelOf X A σ S st a w) (how : X.nl.own ≠ none) (x : Nat) (hx : ∀ b, x ≤ b → b < x + 8 → ¬ A b) {f : FuncId} {avs cargs : List AV} {vs : Array Value} (hl : avs.length = vs.toList.length) (hrep : ∀ (i : Nat) v u, avs[i]? = some v → vs.toList[i]? = some u → RepV w S σ v u)
    (Ls : List Nat) (p : Prop) (hpass : passVs st Ls avs = some (cargs, [], p)) (hp : p) (hnd : Ls.Nodup) (lent : List Blk) (hlent : rds st Ls = some lent)
    (hno : ∀ c ∈ cargs, c.nOwnH = true) (hlT : ∀ blk ∈ lent, blk.nOwn)
    (r : AV) (out : List Blk) (hgood : Good P f cargs lent r out) (hol : out.length ≤ Ls.length + 8) :
    Calls P f vs w fun en w' => ∃ v, en = .returned v ∧ ∃ σ' S', RelOf X (slots A x) σ' S' { st with bl := backB Ls x 0 out ++ st.bl } a w' ∧ RepV w' S' σ' (r.ren (backN Ls x)) v ∧ (r.ren (backN Ls x)).InA (slots A x) := by
  obtain ⟨g1, g2, g3⟩ := passVs_sound h [] (.inl rfl) hpass hp (fun b hb => hb) hl hrep
  obtain ⟨k1, k2⟩ := rds_get hlent
  have hadd : ∀ k, addS S σ [] k → S k := fun k q => q.elim id (fun ⟨b, hb, _⟩ => by cases hb)
  have hget : ∀ i, i < Ls.length → ∃ b blk, Ls[i]? = some b ∧ lent[i]? = some blk ∧ st.rd b = some blk ∧ lentσ σ Ls i = σ b := by
    intro i hi
    obtain ⟨b, e1, e2⟩ := k2 i _ (List.getElem?_eq_getElem (show i < lent.length by omega))
    exact ⟨b, _, e1, List.getElem?_eq_getElem (by omega), e2, by unfold lentσ; rw [List.getD_eq_getElem?_getD, e1]; rfl⟩
  have hLsrd : ∀ b ∈ Ls, ∃ blk, st.rd b = some blk := by
    intro b hb
    obtain ⟨i, hi⟩ := List.mem_iff_getElem?.1 hb
    obtain ⟨b', blk, e1, e2, e3, _⟩ := hget i (List.getElem?_eq_some_iff.1 hi).1
    rw [hi] at e1; cases e1
    exact ⟨_, e3⟩
  have hcall := hgood w vs (lentσ σ Ls) (setm S) (by simpa using g1) (fun i v u e1 e2 => ((g2 i v u e1 (by simpa using e2)).setmH (hno v (List.mem_of_getElem? e1))).mono (g3 v (List.mem_of_getElem? e1)) (fun _ _ => rfl) (fun k q => by cases k with | m k => exact hadd _ q | t k t => exact q.elim) (fun _ _ => rfl)) (fun v hv => by rw [k1]; exact g3 v hv) ?_ ?_
    (fun k q => h.inS k (setm_sub k q)) ⟨fun g vs hl => h.glob.1 g vs hl, fun g hl => h.glob.2 g hl⟩ (setm_free S)
  rotate_left
  · intro i blk hi
    have hi' : i < Ls.length := k1 ▸ (List.getElem?_eq_some_iff.1 hi).1
    obtain ⟨b, blk', e1, e2, e3, e4⟩ := hget i hi'
    rw [hi] at e2; cases e2
    have hn := hlT blk (List.mem_of_getElem? hi)
    cases blk with
    | box cs => exact hn.elim
    | arr sz els =>
      refine ⟨?_, trivial, ?_⟩
      · obtain ⟨c, ty, fr, h1, h0, h2, h3, h4⟩ := h.blks b _ e3
        unfold BlkRep
        rw [e4]
        refine ⟨c, ty, fr, h1, h0, h2, h3, h4.1, h4.2.1, fun m el hm => ⟨(h4.2.2 m el hm).1, fun j y hj => ?_⟩⟩
        obtain ⟨u, q1, q2⟩ := (h4.2.2 m el hm).2 j y hj
        exact ⟨u, q1, q2.setm (hn el (List.mem_of_getElem? hm) y (List.mem_of_getElem? hj))⟩
      · rw [e4]; exact fun y hy => h.notS b _ e3 y (setm_sub y hy)
  · intro i j hi hj hne
    rw [k1] at hi hj
    obtain ⟨b, blk, e1, _, e3, e4⟩ := hget i hi
    obtain ⟨b', blk', e1', _, e3', e4'⟩ := hget j hj
    rw [e4, e4']
    refine h.apart b b' blk blk' e3 e3' fun e => hne ?_
    subst e
    exact nodup_inj hnd e1 e1'
  refine hcall.mono ?_
  rintro en w' ⟨v, rfl, σc, Sc, p1, p2, p3, p4, p5, p6, p7, p8, p9, p10, p11, p12, p13, p14, p15, p16⟩
  rw [k1] at p3 p6 p7 p14
  have hScF := p16 rfl
  have h9 : ∀ y, Sc y → y.b < w.heap.size → S y := fun y q hlt => setm_sub y (p9 y q hlt)
  refine ⟨v, rfl, ?_⟩
  obtain ⟨σ', f1, f2, f3⟩ := call_back h x hx Ls hnd hLsrd r out v hol σc (fun y => S y ∨ Sc y) p2 p3 (p1.mono p2 (fun _ _ => rfl) (fun _ q => .inr q) (fun _ _ => rfl))
    (fun b blk hb => ⟨(p4 b blk hb).1.mono (p4 b blk hb).2.1 (List.getElem?_eq_some_iff.1 hb).1 (fun _ _ => rfl) (fun _ q => .inr q) (fun _ _ => rfl) rfl, (p4 b blk hb).2.1, by
      rintro y (q | q) e
      · by_cases hi : b < Ls.length
        · obtain ⟨b', blk', e1, _, e3, e4⟩ := hget b hi
          rw [p6 b hi, e4] at e
          exact h.notS b' blk' e3 y q e
        · have := p7 b (by omega) (List.getElem?_eq_some_iff.1 hb).1
          have := h.inS _ q
          omega
      · exact (p4 b blk hb).2.2 y q e⟩)
    p5 p6 p7 (fun k q => .inl q) (fun y q => q.elim (fun q => Nat.lt_of_lt_of_le (h.inS y q) p13) (fun q => p8 y q))
    (fun b blk hb _ y q e => q.elim (fun q => h.notS b blk hb y q e) (fun q => h.notS b blk hb y (h9 y q (e ▸ h.blkIn hb)) e))
    (fun y q hlt => q.elim (fun q => h.oldS y q hlt) (fun q => h.oldS y (h9 y q (Nat.lt_of_lt_of_le hlt h.size)) hlt))
    ⟨(by
      rintro k t (q | q) q2
      · rcases q2 with q2 | q2
        · exact h.sok.nm k t q q2
        · exact h.sok.nm k t q (h9 _ q2 (show (Kx.m k).b < _ from h.inS (.t k t) q))
      · exact hScF k t q), (by
      rintro k t t' (q | q) (q2 | q2)
      · exact h.sok.one k t t' q q2
      · exact (hScF _ _ q2).elim
      · exact (hScF _ _ q).elim
      · exact (hScF _ _ q).elim)⟩
    (fun e => (how e).elim) p10 p11 p12 p13 p14
  exact ⟨σ', _, f1, f2, f3⟩
@[reducible] def eIx (n : Int) : List PV := [.lit (.int .i64 n)]
/-- A call that writes a row which is known by its block: the cell that held its slice tells it from here on. -/
theorem call_row (h : RelOf X A σ S st a w) (x : Nat) {f : FuncId} {vs : Array Value} (e : Ex) (he : e ∈ X.nl.tg) (huniq : ∀ e' ∈ X.nl.tg, e'.k = e.k → e' = e) (y : Value) (hvs : vs = #[e.v, y])
    (hTm : ∀ t av, lk st.tm t = some av → av.noT [e.t] = true) (hTb : ∀ b blk, st.rd b = some blk → blk.noT [e.t]) (b0 sz : Nat) (els els' : List (List PV)) (hb0 : st.rd b0 = some (.arr sz els)) (rs' : List Int) (hrs' : rs'.length = e.n)
    (hlen : els'.length = els.length) (hels : ∀ (i : Nat) el', els'[i]? = some el' → ∃ el, els[i]? = some el ∧ el'.length = el.length ∧ ∀ (j : Nat) x', el'[j]? = some x' → el[j]? = some x' ∨ (el[j]? = some (.lit e.v) ∧ x' = .own e.t (rs'.map eIx)))
    (r : Value) (hg : ∀ rs : List Int, rs.length = e.n → Good P f [.one (.hs 0 0 e.n), lit y] [.arr 1 (rs.map eIx)] (lit r) [.arr 1 (rs'.map eIx)]) (hg0 : e.n = 0 → Good P f [.one (.p (.sl [])), lit y] [] (lit r) []) :
    Calls P f vs w fun en w' => ∃ v, en = .returned v ∧ ∃ σ' S', RelOf X (slots A x) σ' S' { st with bl := (b0, some (.arr sz els')) :: st.bl } a w' ∧ RepV w' S' σ' (lit r) v ∧ (lit r).InA (slots A x) := by
  obtain ⟨hSe, hok⟩ := h.tg e he
  subst hvs
  have main : ∀ (w' : World), w'.os = w.os → w'.tape = w.tape → w'.output = w.output → w.heap.size ≤ w'.heap.size → (∀ k, k < w.heap.size → k ≠ e.k → w'.heap[k]? = w.heap[k]?) → RepP w' S (.own e.t (rs'.map eIx)) e.v → e.ok w' →
      ∃ σ' S', RelOf X (slots A x) σ' S' { st with bl := (b0, some (.arr sz els')) :: st.bl } a w' ∧ RepV w' S' σ' (lit r) r ∧ (lit r).InA (slots A x) := by
    intro w' q1 q2 q3 q4 q5 q6 q7
    have hw : ∀ k, offT [e.t] S k → w'.heap[k.b]? = w.heap[k.b]? := by
      intro k hk
      refine q5 _ (h.inS k (offT_sub k hk)) fun eq => ?_
      cases k with
      | m k => have eq : k = e.k := eq; subst eq; exact h.sok.nm _ _ hSe hk
      | t k t => have eq : k = e.k := eq; subst eq; exact hk.1 (by rw [h.sok.one _ t e.t hk.2 hSe]; simp)
    have hsame : ∀ b blk, st.rd b = some blk → w'.heap[(σ b).k]? = w.heap[(σ b).k]? := fun b blk hb => q5 _ (h.blkIn hb) fun eq => h.notS b blk hb _ hSe eq.symm
    have hrd : ∀ b blk, St.rd { st with bl := (b0, some (.arr sz els')) :: st.bl } b = some blk → (b = b0 ∧ blk = .arr sz els') ∨ st.rd b = some blk := by
      intro b blk hb
      rw [St.rd_cons] at hb
      by_cases eq : b0 = b
      · rw [if_pos eq] at hb; cases hb; exact .inl ⟨eq.symm, rfl⟩
      · rw [if_neg eq] at hb; exact .inr hb
    have hrd0 : ∀ b blk, St.rd { st with bl := (b0, some (.arr sz els')) :: st.bl } b = some blk → ∃ blk0, st.rd b = some blk0 := by
      intro b blk hb
      rcases hrd b blk hb with ⟨rfl, rfl⟩ | hb
      · exact ⟨_, hb0⟩
      · exact ⟨_, hb⟩
    refine ⟨σ, S, { tmps := ?_, tmA := fun t av q => (h.tmA t av q).mono fun b hb => .inl hb, blks := ?_, blA := ?_, apart := ?_, notS := ?_, mine := ?_, nl := h.nl, nt := h.nt, lentA := fun b hb => ⟨.inl (h.lentA b hb).1, (h.lentA b hb).2⟩, inS := fun k hk => Nat.lt_of_lt_of_le (h.inS k hk) q4, sok := h.sok, free := h.free, tg := ?_, glob := ?_, oldS := h.oldS, os := q1.trans h.os, tape := q2.trans h.tape, output := q3.trans h.output, size := Nat.le_trans h.size q4, old := ?_, defers := h.defers }, .one (.p (.lit r)), .one trivial⟩
    · intro t av hl
      obtain ⟨u, h1, h2⟩ := h.tmps t av hl
      exact ⟨u, h1, (h2.offT (hTm t av hl)).mono (h.tmA t av hl) hw offT_sub (fun _ _ => rfl)⟩
    · intro b blk hb
      rcases hrd b blk hb with ⟨rfl, rfl⟩ | hb
      · obtain ⟨c, ty, fr, h1, h0, h2, h3, h4⟩ := h.blks b _ hb0
        have hn := hTb b _ hb0
        refine ⟨c, ty, fr, (hsame b _ hb0).trans h1, h0, h2, h3, h4.1, hlen ▸ h4.2.1, fun i el' hi => ?_⟩
        obtain ⟨el, g1, g2, g3⟩ := hels i el' hi
        refine ⟨g2.trans (h4.2.2 i el g1).1, fun j x' hj => ?_⟩
        rcases g3 j x' hj with g4 | ⟨g4, rfl⟩
        · obtain ⟨v, e1, e2⟩ := (h4.2.2 i el g1).2 j x' g4
          exact ⟨v, e1, (e2.offT (hn el (List.mem_of_getElem? g1) x' (List.mem_of_getElem? g4))).mono hw offT_sub⟩
        · obtain ⟨v, e1, e2⟩ := (h4.2.2 i el g1).2 j _ g4
          cases e2
          exact ⟨_, e1, q6⟩
      · exact ((h.blks b blk hb).offT (hTb b blk hb)).mono (h.blA b blk hb).1 (h.blA b blk hb).2 hw offT_sub (fun _ _ => rfl) (hsame b blk hb)
    · intro b blk hb
      rcases hrd b blk hb with ⟨rfl, rfl⟩ | hb
      · exact ⟨trivial, .inl (h.blA b _ hb0).2⟩
      · exact ⟨Blk.inA_mono (fun b hb => .inl hb) (h.blA b blk hb).1, .inl (h.blA b blk hb).2⟩
    · intro b b' blk blk' hb hb' hne
      obtain ⟨_, g1⟩ := hrd0 b blk hb
      obtain ⟨_, g2⟩ := hrd0 b' blk' hb'
      exact h.apart b b' _ _ g1 g2 hne
    · intro b blk hb
      obtain ⟨_, g1⟩ := hrd0 b blk hb
      exact h.notS b _ g1
    · intro b blk hb
      obtain ⟨_, g1⟩ := hrd0 b blk hb
      exact h.mine b _ g1
    · intro e' he'
      refine ⟨(h.tg e' he').1, ?_⟩
      by_cases eq : e'.k = e.k
      · rw [huniq e' he' eq]; exact q7
      · exact (h.tg e' he').2.mono (q5 _ (h.inS _ (h.tg e' he').1) eq)
    · exact Glob.mono (w := w) (S := offT [e.t] S) ⟨fun g vs hl => h.glob.1 g vs hl, fun g hl => h.glob.2 g hl⟩ hw offT_sub
    · intro k hk hn hx0
      rw [q5 k (Nat.lt_of_lt_of_le hk h.size) (fun eq => hx0 e.t (eq ▸ h.oldS _ hSe (eq ▸ hk)))]
      exact h.old k hk hn hx0
  have hGm : Glob w (setm S) := ⟨fun g vs hl => h.glob.1 g vs hl, fun g hl => h.glob.2 g hl⟩
  rcases hok with ⟨hn0, av, cap, hv⟩ | ⟨cap, rs, c, ty, fr, hv, hnc, hcc, hrl, hh, hfr, hone, hc⟩
  · have hrs0 : rs' = [] := List.eq_nil_of_length_eq_zero (hrs'.trans hn0)
    subst hrs0
    refine (hg0 hn0 w #[e.v, y] σ (setm S) rfl (fun i av' v h1 h2 => ?_) (fun av' hm => ?_) (fun b blk hb => by simp at hb) (fun b b' hb => by simp at hb) (fun k q => h.inS k (setm_sub k q)) hGm (setm_free S)).mono ?_
    · rcases i with _ | _ | i
      · cases h1; cases h2; rw [hv]; exact .one (.p (.nil av cap))
      · cases h1; cases h2; exact .one (.p (.lit y))
      · simp at h1
    · rcases List.mem_cons.1 hm with rfl | hm
      · exact .one trivial
      · cases List.mem_singleton.1 hm; exact .one trivial
    · rintro en w' ⟨v, rfl, σ', S', p1, _, _, _, _, _, _, _, _, p10, p11, p12, p13, p14, _⟩
      have hvr := lit_inv p1 rfl
      subst hvr
      exact ⟨_, rfl, main w' p10 p11 p12 p13 (fun k hk _ => p14 k hk fun b hb => by simp at hb) (by rw [hv]; exact .own0 e.t e.k hSe av cap) (.inl ⟨hn0, av, cap, hv⟩)⟩
  · refine (hg rs hrl w #[e.v, y] (fun _ => ⟨e.k, 1, c.size⟩) (setm S) rfl (fun i av' v h1 h2 => ?_) (fun av' hm => ?_) (fun b blk hb => ?_) (fun b b' hb hb' hne => ?_) (fun k q => h.inS k (setm_sub k q)) hGm (setm_free S)).mono ?_
    · rcases i with _ | _ | i
      · cases h1; cases h2
        rw [hv]
        have := RepC.hs (w := w) (S := setm S) (σ := fun _ => ⟨e.k, 1, c.size⟩) 0 0 e.n cap (by show 0 + cap ≤ c.size; omega) hnc
        rw [Nat.zero_mul] at this
        exact .one this
      · cases h1; cases h2; exact .one (.p (.lit y))
      · simp at h1
    · rcases List.mem_cons.1 hm with rfl | hm
      · exact .one (Nat.zero_lt_one)
      · cases List.mem_singleton.1 hm; exact .one trivial
    · have hb1 : b = 0 := by
        rcases b with _ | b
        · rfl
        · simp at hb
      subst hb1
      cases hb
      refine ⟨⟨c, ty, fr, hh, fun o ho => hfr o (ho.elim id fun q => (q.2 rfl).elim), (Nat.mul_one _).symm, hone, rfl, by rw [List.length_map]; show rs.length ≤ c.size; omega, fun i el hi => ?_⟩, trivial, fun z hz eq => ?_⟩
      · rw [List.getElem?_map] at hi
        cases hq : rs[i]? with
        | none => rw [hq] at hi; cases hi
        | some g =>
          rw [hq] at hi
          cases hi
          refine ⟨rfl, fun j z hj => ?_⟩
          rcases j with _ | j
          · cases hj
            refine ⟨_, ?_, .lit _⟩
            have hil := (List.getElem?_eq_some_iff.1 hq).1
            show c[i * 1 + 0]? = _
            rw [Nat.mul_one, Nat.add_zero, hc i (by omega), List.getD_eq_getElem?_getD, hq]; rfl
          · simp at hj
      · cases z with
        | m k => have eq : k = e.k := eq; subst eq; exact h.sok.nm _ _ hSe hz
        | t k t => exact hz
    · simp only [List.length_cons, List.length_nil] at hb hb'; omega
    · rintro en w' ⟨v, rfl, σ', S', p1, _, _, p4, _, p6, _, _, _, p10, p11, p12, p13, p14, _⟩
      have hvr := lit_inv p1 rfl
      subst hvr
      obtain ⟨⟨c', ty', fr', g1, g0, g2, g3, g6, g4, g5⟩, _, _⟩ := p4 0 _ rfl
      have hσ0 : σ' 0 = ⟨e.k, 1, c.size⟩ := p6 0 Nat.zero_lt_one
      rw [hσ0] at g1 g0 g2 g5
      have g2 : c'.size = c.size * 1 := g2
      have hat : ∀ j, j < e.n → c'[j]? = some (.int .i64 (rs'.getD j 0)) := by
        intro j hj
        have hjr : rs'[j]? = some rs'[j] := List.getElem?_eq_getElem (by omega)
        obtain ⟨u, e1, e2⟩ := (g5 j (eIx rs'[j]) (by rw [List.getElem?_map, hjr]; rfl)).2 0 _ rfl
        cases e2
        have e1 : c'[j * 1 + 0]? = _ := e1
        rw [Nat.mul_one, Nat.add_zero] at e1
        rw [e1, List.getD_eq_getElem?_getD, hjr]; rfl
      refine ⟨_, rfl, main w' p10 p11 p12 p13 (fun k hk hne => p14 k hk fun b _ => fun q => hne q.symm) ?_ (.inr ⟨cap, rs', c', ty', fr', hv, hnc, by omega, hrs', g1, fun o ho => g0 o (.inl ho), g3, hat⟩)⟩
      rw [hv]
      refine .own e.t _ e.k 1 e.n cap c'.size c' ty' fr' (by rw [List.length_map]; exact hrs') hnc (by omega) hSe g1 (fun o ho => g0 o (ho.elim .inl fun q => (q.2 rfl).elim)) (Nat.mul_one _).symm g3 (fun i el hi => ?_) (fun i el j z hi hj => ?_)
      · rw [List.getElem?_map] at hi
        cases hq : rs'[i]? with
        | none => rw [hq] at hi; cases hi
        | some g => rw [hq] at hi; cases hi; rfl
      · rw [List.getElem?_map] at hi
        cases hq : rs'[i]? with
        | none => rw [hq] at hi; cases hi
        | some g =>
          rw [hq] at hi
          cases hi
          rcases j with _ | j
          · cases hj
            refine ⟨_, rfl, ?_⟩
            rw [Nat.mul_one, Nat.add_zero, hat i (by have := (List.getElem?_eq_some_iff.1 hq).1; omega), List.getD_eq_getElem?_getD, hq]; rfl
          · simp at hj
/-- A call that eats what it was lent. -/
theorem call_eat (h : RelOf X A σ S st a w) (x : Nat) (hx : ∀ b, x ≤ b → b < x + 8 → ¬ A b) {f : FuncId} {avs cargs : List AV} {vs : Array Value} (hl : avs.length = vs.toList.length) (hrep : ∀ (i : Nat) v u, avs[i]? = some v → vs.toList[i]? = some u → RepV w S σ v u)
    (Ls bor : List Nat) (p : Prop) (hpass : passVs st Ls avs = some (cargs, bor, p)) (hp : p) (hnd : Ls.Nodup) (lent : List Blk) (hlent : rds st Ls = some lent) (hplain : ∀ blk ∈ lent, blk.inA (fun _ => False))
    (m sz : Nat) (els : List (List PV)) (hgood : GoodE P f cargs lent m sz els) (hb0 : bor = []) (hLn : ∀ b ∈ Ls, st.nl.n ≤ b) :
    Calls P f vs w fun en w' => ∃ v, en = .returned v ∧ ∃ σ' S', RelOf X (slots A x) σ' S' { st with bl := (x, some (.arr sz els)) :: killB Ls ++ st.bl } a w' ∧ RepV w' S' σ' (.one (.hs x 0 m)) v ∧ (AV.one (.hs x 0 m)).InA (slots A x) := by
  subst hb0
  obtain ⟨g1, g2, g3⟩ := passVs_sound h [] (.inl rfl) hpass hp (fun b hb => hb) hl hrep
  have hadd : ∀ k, addS S σ [] k → S k := fun k q => q.elim id (fun ⟨b, hb, _⟩ => by cases hb)
  obtain ⟨k1, k2⟩ := rds_get hlent
  have hbor := passVs_bor hpass
  have hLsrd : ∀ b ∈ Ls, ∃ blk, st.rd b = some blk := by
    intro b hb
    obtain ⟨i, hi, rfl⟩ := List.mem_iff_getElem.1 hb
    obtain ⟨b', e1, e2⟩ := k2 i _ (List.getElem?_eq_getElem (by omega))
    rw [List.getElem?_eq_getElem hi] at e1
    cases e1
    exact ⟨_, e2⟩
  have hget : ∀ i, i < Ls.length → ∃ b blk, Ls[i]? = some b ∧ lent[i]? = some blk ∧ st.rd b = some blk ∧ lentσ σ Ls i = σ b := by
    intro i hi
    obtain ⟨b, e1, e2⟩ := k2 i _ (List.getElem?_eq_getElem (show i < lent.length by omega))
    exact ⟨b, _, e1, List.getElem?_eq_getElem (by omega), e2, by unfold lentσ; rw [List.getD_eq_getElem?_getD, e1]; rfl⟩
  have hcall := hgood X.nl.own.isSome w vs (lentσ σ Ls) (addS S σ []) (by simpa using g1) (fun i v u e1 e2 => g2 i v u e1 (by simpa using e2)) (fun v hv => by rw [k1]; exact g3 v hv) ?_ ?_ ?_ (h.glob.mono (fun _ _ => rfl) (fun _ q => .inl q)) (h.sok.of hadd) (fun q k t q2 => h.free (by cases e : X.nl.own with | none => rfl | some t => rw [e] at q; cases q) k t (hadd _ q2))
  rotate_left
  · intro i blk hi
    have hi' : i < Ls.length := k1 ▸ (List.getElem?_eq_some_iff.1 hi).1
    obtain ⟨b, blk', e1, e2, e3, e4⟩ := hget i hi'
    rw [hi] at e2; cases e2
    have hpl := hplain blk (List.mem_of_getElem? hi)
    refine ⟨?_, Blk.inA_mono (fun _ q => q.elim) hpl, ?_⟩
    · have := (h.blks b blk e3).ren (w' := w) (S' := addS S σ []) (τ := lentσ σ Ls) (g := fun _ => i) hpl e4 (fun _ _ => rfl) (fun _ q => .inl q) (fun _ q => q.elim) rfl
      rwa [Blk.ren_plain hpl] at this
    · rw [e4]
      exact fun y q => h.notS b blk e3 y (hadd y q)
  · intro i j hi hj hne
    rw [k1] at hi hj
    obtain ⟨b, blk, e1, _, e3, e4⟩ := hget i hi
    obtain ⟨b', blk', e1', _, e3', e4'⟩ := hget j hj
    rw [e4, e4']
    refine h.apart b b' blk blk' e3 e3' fun e => hne ?_
    subst e
    exact nodup_inj hnd e1 e1'
  · exact fun k hk => h.inS k (hadd k hk)
  refine hcall.mono ?_
  rintro en w' ⟨v, rfl, j, out, o1, o2, o3, σc, Sc, p1, p2, p3, p4, p5, p6, p7, p8, p9, p10, p11, p12, p13, p14, p15, p16⟩
  rw [k1] at o2 o3 p3 p6 p7 p14
  refine ⟨v, rfl, ?_⟩
  have hjl : j < out.length := (List.getElem?_eq_some_iff.1 o1).1
  have t3 : ∀ k, (S k ∨ Sc k) → k.b < w.heap.size → S k := fun k q hlt => q.elim id (fun q => hadd k (p9 k q hlt))
  have hin : ∀ y, S y → y.b < w.heap.size := h.inS
  have hok2 : SOk (fun k => S k ∨ Sc k) := by
    have key : ∀ y z, S y → Sc z → y.b = z.b → S z := fun y z q1 q2 e => hadd z (p9 z q2 (e ▸ hin y q1))
    refine ⟨fun k t q1 q2 => ?_, fun k t t' q1 q2 => ?_⟩
    · rcases q1 with q1 | q1 <;> rcases q2 with q2 | q2
      · exact h.sok.nm k t q1 q2
      · exact h.sok.nm k t q1 (key _ _ q1 q2 rfl)
      · exact h.sok.nm k t (key _ _ q2 q1 rfl) q2
      · exact p15.nm k t q1 q2
    · rcases q1 with q1 | q1 <;> rcases q2 with q2 | q2
      · exact h.sok.one k t t' q1 q2
      · exact h.sok.one k t t' q1 (key _ _ q1 q2 rfl)
      · exact h.sok.one k t t' (key _ _ q2 q1 rfl) q2
      · exact p15.one k t t' q1 q2
  obtain ⟨σ', f1, f2, f3⟩ := call_back h x hx Ls hnd hLsrd (.one (.hs j 0 m)) out v (by omega) σc (fun k => S k ∨ Sc k) p2 p3
    (p1.mono p2 (fun _ _ => rfl) (fun _ q => .inr q) (fun _ _ => rfl))
    (fun b blk hb => ⟨(p4 b blk hb).1.mono (p4 b blk hb).2.1 (List.getElem?_eq_some_iff.1 hb).1 (fun _ _ => rfl) (fun _ q => .inr q) (fun _ _ => rfl) rfl, (p4 b blk hb).2.1, by
      rintro y (q' | q') e
      · by_cases hi : b < Ls.length
        · obtain ⟨b', blk', e1, _, e3, e4⟩ := hget b hi
          rw [p6 b hi, e4] at e
          exact h.notS b' blk' e3 y q' e
        · have := p7 b (by omega) (List.getElem?_eq_some_iff.1 hb).1
          have := h.inS _ q'
          omega
      · exact (p4 b blk hb).2.2 y q' e⟩)
    p5 p6 p7 (fun k q => .inl q) (fun k q => q.elim (fun q => Nat.lt_of_lt_of_le (h.inS k q) p13) (fun q => p8 k q)) (fun b blk hb _ y q e => h.notS b blk hb y (t3 _ q (e ▸ h.blkIn hb)) e)
    (fun k q hlt => h.oldS k (t3 k q (Nat.lt_of_lt_of_le hlt h.size)) hlt) hok2 (fun q k t q2 => q2.elim (h.free q k t) (p16 (by rw [q]; rfl) k t)) p10 p11 p12 p13 p14
  have hrdx : St.rd { st with bl := backB Ls x 0 out ++ st.bl } (backN Ls x j) = some (.arr sz els) := by
    simp only [St.rd]
    rcases back_lk Ls x out 0 st.bl (backN Ls x j) with ⟨j', blk, h1, h2, h3⟩ | ⟨h1, _⟩
    · rw [h3]
      have hj' : j' < out.length := (List.getElem?_eq_some_iff.1 h1).1
      rw [Nat.zero_add] at h2
      have : j = j' := by
        unfold backN at h2
        by_cases q1 : j < Ls.length <;> by_cases q2 : j' < Ls.length
        · rw [if_pos q1, if_pos q2] at h2
          rw [List.getD_eq_getElem?_getD, List.getD_eq_getElem?_getD, List.getElem?_eq_getElem q1, List.getElem?_eq_getElem q2] at h2
          exact nodup_inj hnd (List.getElem?_eq_getElem q1) ((List.getElem?_eq_getElem q2).trans (congrArg some h2.symm))
        · rw [if_pos q1, if_neg q2] at h2
          obtain ⟨b, blk2, e1, _, e3, _⟩ := hget j q1
          rw [List.getD_eq_getElem?_getD, e1] at h2
          exact absurd (h.blA b blk2 e3).2 (hx b (by show x ≤ b; have h2' : b = x + (j' - Ls.length) := h2; omega) (by have h2' : b = x + (j' - Ls.length) := h2; omega))
        · rw [if_neg q1, if_pos q2] at h2
          obtain ⟨b, blk2, e1, _, e3, _⟩ := hget j' q2
          rw [List.getD_eq_getElem?_getD, e1] at h2
          exact absurd (h.blA b blk2 e3).2 (hx b (by have h2' : x + (j - Ls.length) = b := h2; omega) (by have h2' : x + (j - Ls.length) = b := h2; omega))
        · rw [if_neg q1, if_neg q2] at h2; omega
      subst this
      rw [o1] at h1; cases h1; rfl
    · exact absurd (by rw [Nat.zero_add]) (h1 j hjl)
  -- what the new name means
  let σ2 : Nat → Loc := fun b => if b = x then σ' (backN Ls x j) else σ' b
  have hxA : ¬ A x := hx x (Nat.le_refl _) (by omega)
  have hσ2 : ∀ b, A b → σ2 b = σ' b := fun b hb => by
    show (if b = x then _ else _) = _
    rw [if_neg (fun e => hxA (by rw [← e]; exact hb))]
  have hx2 : σ2 x = σ' (backN Ls x j) := by show (if x = x then _ else _) = _; rw [if_pos rfl]
  have hrd : ∀ q blk, St.rd { st with bl := (x, some (.arr sz els)) :: killB Ls ++ st.bl } q = some blk → (q = x ∧ blk = .arr sz els) ∨ (q ≠ x ∧ A q ∧ q ∉ Ls ∧ st.rd q = some blk ∧ St.rd { st with bl := backB Ls x 0 out ++ st.bl } q = some blk ∧ q ≠ backN Ls x j) := by
    intro q blk hq
    rw [show ({ st with bl := (x, some (.arr sz els)) :: killB Ls ++ st.bl } : St) = { ({ st with bl := killB Ls ++ st.bl } : St) with bl := (x, some (.arr sz els)) :: ({ st with bl := killB Ls ++ st.bl } : St).bl } from rfl, St.rd_cons] at hq
    by_cases e : x = q
    · rw [if_pos e] at hq; injection hq with hq; exact .inl ⟨e.symm, hq.symm⟩
    · rw [if_neg e] at hq
      obtain ⟨q1, q2⟩ := kills_rd st Ls q blk hq
      have hA := (h.blA q blk q2).2
      have hno : ∀ i, i < out.length → q ≠ backN Ls x (0 + i) := fun i hi e2 => by
        rw [Nat.zero_add] at e2
        unfold backN at e2
        split at e2
        · rename_i hi2
          obtain ⟨b, blk2, e1, _, _, _⟩ := hget i hi2
          rw [List.getD_eq_getElem?_getD, e1] at e2
          exact q1 (by rw [show q = b from e2]; exact List.mem_of_getElem? e1)
        · exact hx q (by omega) (by omega) hA
      refine .inr ⟨fun e2 => e e2.symm, hA, q1, q2, ?_, fun e2 => hno j hjl (by rw [Nat.zero_add]; exact e2)⟩
      simp only [St.rd]
      rcases back_lk Ls x out 0 st.bl q with ⟨i, blk2, h1, h2, _⟩ | ⟨_, h2⟩
      · exact absurd h2 (hno i (List.getElem?_eq_some_iff.1 h1).1)
      · rw [h2]; exact q2
  have hsx : slots A x x := .inr ⟨Nat.le_refl _, by omega⟩
  refine ⟨σ2, _, { tmps := ?_, tmA := f1.tmA, blks := ?_, blA := ?_, apart := ?_, notS := ?_, mine := ?_, nl := f1.nl, nt := f1.nt, lentA := ?_, inS := f1.inS, sok := f1.sok, free := f1.free, tg := f1.tg, glob := f1.glob, oldS := f1.oldS, os := f1.os, tape := f1.tape, output := f1.output, size := f1.size, old := f1.old, defers := f1.defers }, ?_, .one hsx⟩
  · intro t av hl
    obtain ⟨u, h1, h2⟩ := f1.tmps t av hl
    exact ⟨u, h1, h2.mono (h.tmA t av hl) (fun _ _ => rfl) (fun _ q => q) hσ2⟩
  · intro q blk hq
    rcases hrd q blk hq with ⟨rfl, rfl⟩ | ⟨h1, h2, h3, h4, h5, h6⟩
    · have := f1.blks _ _ hrdx
      obtain ⟨c, ty, fr, a1, a0, a2, a3, a4⟩ := this
      exact ⟨c, ty, fr, by rw [hx2]; exact a1, by rw [hx2]; exact a0, by rw [hx2]; exact a2, a3, by simp only at a4 ⊢; rw [hx2]; exact a4⟩
    · exact (f1.blks q blk h5).mono (h.blA q blk h4).1 h2 (fun _ _ => rfl) (fun _ q => q) hσ2 rfl
  · intro q blk hq
    rcases hrd q blk hq with ⟨rfl, rfl⟩ | ⟨h1, h2, h3, h4, h5, h6⟩
    · exact ⟨trivial, hsx⟩
    · exact ⟨Blk.inA_mono (fun _ q => .inl q) (h.blA q blk h4).1, .inl h2⟩
  · intro q q' blk blk' hq hq' hne
    rcases hrd q blk hq with ⟨rfl, rfl⟩ | ⟨h1, h2, h3, h4, h5, h6⟩
    · rcases hrd q' blk' hq' with ⟨rfl, rfl⟩ | ⟨g1, g2, g3, g4, g5, g6⟩
      · exact absurd rfl hne
      · rw [hx2, hσ2 q' g2]; exact f1.apart _ _ _ _ hrdx g5 fun e => g6 e.symm
    · rcases hrd q' blk' hq' with ⟨rfl, rfl⟩ | ⟨g1, g2, g3, g4, g5, g6⟩
      · rw [hx2, hσ2 q h2]; exact f1.apart _ _ _ _ h5 hrdx h6
      · rw [hσ2 q h2, hσ2 q' g2]; exact f1.apart _ _ _ _ h5 g5 hne
  · intro q blk hq
    rcases hrd q blk hq with ⟨rfl, rfl⟩ | ⟨h1, h2, h3, h4, h5, h6⟩
    · rw [hx2]; exact f1.notS _ _ hrdx
    · rw [hσ2 q h2]; exact f1.notS _ _ h5
  · intro q blk hq
    rcases hrd q blk hq with ⟨rfl, rfl⟩ | ⟨h1, h2, h3, h4, h5, h6⟩
    · rw [hx2]
      rcases f1.mine _ _ hrdx with hm | hm
      · exact .inl hm
      · unfold backN at hm
        split at hm
        · rename_i hi2
          obtain ⟨b, blk2, e1, _, _, _⟩ := hget j hi2
          rw [List.getD_eq_getElem?_getD, e1] at hm
          have := hLn b (List.mem_of_getElem? e1)
          have h9 : b < X.nl.n := hm
          have := h.nln
          omega
        · refine absurd (h.lentA (q + (j - Ls.length)) hm).1 (hx _ (by omega) (by omega))
    · rw [hσ2 q h2]; exact f1.mine _ _ h5
  · intro b hb
    obtain ⟨q1, q2⟩ := f1.lentA b hb
    refine ⟨q1, ?_⟩
    rw [hσ2 b (h.lentA b hb).1]; exact q2
  · have f2' : RepV w' (fun k => S k ∨ Sc k) σ' (.one (.hs (backN Ls x j) 0 m)) v := f2
    cases f2' with
    | one f2' =>
      refine .one ?_
      cases f2' with
      | hs _ _ _ cap hc hn => rw [← hx2] at hc ⊢; exact .hs x 0 m cap hc hn
      | hs0 _ _ a' => exact .hs0 x 0 a'
end Go.Abs
