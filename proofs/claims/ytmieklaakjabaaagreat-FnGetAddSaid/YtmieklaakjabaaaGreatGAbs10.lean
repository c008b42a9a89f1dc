import Derived.Test.YtmieklaakjabaaaGreatGAbs9
set_option linter.unusedSimpArgs false
set_option linter.unusedVariables false
namespace Go.Abs
open Go Go.RowKit
variable {P : Program} {X : Ctx} {A A' : Nat → Prop} {σ : Nat → Loc} {S : Nat → Prop} {st : St} {a : Act} {w w' : World}
theorem Blk.ren_plain {blk : Blk} (h : blk.inA (fun _ => False)) (g : Nat → Nat) : blk.ren g = blk := by
  cases blk with
  | arr => rfl
  | box cs =>
    simp only [Blk.ren]
    congr 1
    conv => rhs; rw [← List.map_id cs]
    apply List.map_congr_left
    intro c hc
    have := h c hc
    cases c <;> first | rfl | exact this.elim
theorem back_lk (Ls : List Nat) (x : Nat) : ∀ (bs : List Blk) (i : Nat) (rest : List (Nat × Option Blk)) (q : Nat),
    (∃ j blk, bs[j]? = some blk ∧ q = backN Ls x (i + j) ∧ lk (backB Ls x i bs ++ rest) q = some (some (blk.ren (backN Ls x)))) ∨ ((∀ j, j < bs.length → q ≠ backN Ls x (i + j)) ∧ lk (backB Ls x i bs ++ rest) q = lk rest q)
  | [], i, rest, q => .inr ⟨fun j hj => by simp at hj, rfl⟩
  | b :: bs, i, rest, q => by
    simp only [backB, List.cons_append, lk]
    by_cases e : backN Ls x i = q
    · rw [if_pos e]
      exact .inl ⟨0, b, rfl, e.symm, rfl⟩
    · rw [if_neg e]
      rcases back_lk Ls x bs (i + 1) rest q with ⟨j, blk, h1, h2, h3⟩ | ⟨h1, h2⟩
      · exact .inl ⟨j + 1, blk, h1, by rw [h2]; congr 1; omega, h3⟩
      · refine .inr ⟨fun j hj => ?_, h2⟩
        cases j with
        | zero => exact fun q' => e q'.symm
        | succ j => have := h1 j (by simpa using hj); rw [show i + (j + 1) = i + 1 + j by omega]; exact this
theorem nodup_inj {l : List Nat} (h : l.Nodup) {i j b : Nat} (hi : l[i]? = some b) (hj : l[j]? = some b) : i = j := by
  obtain ⟨h1, e1⟩ := List.getElem?_eq_some_iff.1 hi
  obtain ⟨h2, e2⟩ := List.getElem?_eq_some_iff.1 hj
  have hp := List.pairwise_iff_getElem.1 h
  rcases Nat.lt_trichotomy i j with q | q | q
  · exact absurd (e1.trans e2.symm) (hp i j h1 h2 q)
  · exact q
  · exact absurd (e2.trans e1.symm) (hp j i h2 h1 q)
def slots (A : Nat → Prop) (x : Nat) : Nat → Prop := fun b => A b ∨ (x ≤ b ∧ b < x + 8)
/-- Back from a call. -/
theorem call_back (h : RelOf X A σ S st a w) (x : Nat) (hx : ∀ b, x ≤ b → b < x + 8 → ¬ A b) (Ls : List Nat) (hnd : Ls.Nodup) (hal : ∀ b ∈ Ls, ∃ blk, st.rd b = some blk) (r : AV) (out : List Blk) (v : Value) (hol : out.length ≤ Ls.length + 8)
    (σc : Nat → Loc) (S2 : Nat → Prop) (hrA : r.InA (· < out.length)) (hnl : Ls.length ≤ out.length) (hv : RepV w' S2 σc r v)
    (hout : ∀ (b : Nat) blk, out[b]? = some blk → BlkRep w' S2 σc b blk ∧ blk.inA (· < out.length) ∧ ¬ S2 (σc b).k) (hap : ∀ b b', b < out.length → b' < out.length → b ≠ b' → (σc b).k ≠ (σc b').k)
    (hlent : ∀ b, b < Ls.length → σc b = lentσ σ Ls b) (hfresh : ∀ b, Ls.length ≤ b → b < out.length → w.heap.size ≤ (σc b).k)
    (hS1 : ∀ k, S k → S2 k) (hS2 : ∀ k, S2 k → k < w'.heap.size) (hS3 : ∀ b blk, st.rd b = some blk → ¬ Ls.contains b = true → ¬ S2 (σ b).k) (hS4 : ∀ k, S2 k → k < X.w0.heap.size → X.S0 k)
    (hos : w'.os = w.os) (htape : w'.tape = w.tape) (houtp : w'.output = w.output) (hsize : w.heap.size ≤ w'.heap.size)
    (hframe : ∀ k, k < w.heap.size → (∀ b, b < Ls.length → (lentσ σ Ls b).k ≠ k) → w'.heap[k]? = w.heap[k]?) :
    ∃ σ', RelOf X (slots A x) σ' S2 { st with bl := backB Ls x 0 out ++ st.bl } a w' ∧ RepV w' S2 σ' (r.ren (backN Ls x)) v ∧ (r.ren (backN Ls x)).InA (slots A x) := by
  have hLA : ∀ i, i < Ls.length → ∃ b blk, Ls[i]? = some b ∧ Ls.getD i 0 = b ∧ st.rd b = some blk ∧ A b := by
    intro i hi
    have hg := List.getElem?_eq_getElem hi
    obtain ⟨blk, hb⟩ := hal _ (List.getElem_mem hi)
    exact ⟨_, blk, hg, by rw [List.getD_eq_getElem?_getD, hg]; rfl, hb, (h.blA _ _ hb).2⟩
  let σ2 : Nat → Loc := fun b => if x ≤ b ∧ b < x + 8 then σc (Ls.length + (b - x)) else σ b
  have hσA : ∀ b, A b → σ2 b = σ b := fun b hb => if_neg fun q => hx b q.1 q.2 hb
  have hback : ∀ j, j < out.length → σ2 (backN Ls x j) = σc j ∧ slots A x (backN Ls x j) := by
    intro j hj
    unfold backN
    by_cases hlt : j < Ls.length
    · rw [if_pos hlt]
      obtain ⟨b, blk, h1, h2, h3, h4⟩ := hLA j hlt
      rw [h2, hσA b h4, hlent j hlt]
      exact ⟨by unfold lentσ; rw [h2], .inl h4⟩
    · rw [if_neg hlt]
      have hr : x ≤ x + (j - Ls.length) ∧ x + (j - Ls.length) < x + 8 := by omega
      exact ⟨by show (if _ then _ else _) = _; rw [if_pos hr]; congr 1; omega, .inr hr⟩
  have hbinj : ∀ j j', j < out.length → j' < out.length → backN Ls x j = backN Ls x j' → j = j' := by
    intro j j' hj hj' e
    unfold backN at e
    by_cases h1 : j < Ls.length <;> by_cases h2 : j' < Ls.length
    · rw [if_pos h1, if_pos h2] at e
      obtain ⟨b, _, g1, g2, _⟩ := hLA j h1
      obtain ⟨b', _, g1', g2', _⟩ := hLA j' h2
      rw [g2, g2'] at e
      subst e
      exact nodup_inj hnd g1 g1'
    · rw [if_pos h1, if_neg h2] at e
      obtain ⟨b, _, _, g2, _, g4⟩ := hLA j h1
      exact absurd g4 (hx b (by omega) (by omega))
    · rw [if_neg h1, if_pos h2] at e
      obtain ⟨b, _, _, g2, _, g4⟩ := hLA j' h2
      exact absurd g4 (hx b (by omega) (by omega))
    · rw [if_neg h1, if_neg h2] at e; omega
  have hSfr : ∀ k, S k → w'.heap[k]? = w.heap[k]? := by
    intro k hk
    refine hframe k (h.inS k hk) fun i hi e => ?_
    obtain ⟨b, blk, g1, g2, g3, g4⟩ := hLA i hi
    unfold lentσ at e
    rw [g2] at e
    exact h.notS b blk g3 (e ▸ hk)
  have hold : ∀ q blk, st.rd q = some blk → ¬ Ls.contains q = true → w'.heap[(σ q).k]? = w.heap[(σ q).k]? := by
    intro q blk hq hn
    refine hframe _ (h.blkIn hq) fun i hi e => ?_
    obtain ⟨b, blk', g1, g2, g3, g4⟩ := hLA i hi
    unfold lentσ at e
    rw [g2] at e
    refine h.apart b q blk' blk g3 hq (fun e' => hn ?_) e
    rw [← e']
    exact List.contains_iff_mem.2 (List.mem_of_getElem? g1)
  have hrd : ∀ q blk', St.rd { st with bl := backB Ls x 0 out ++ st.bl } q = some blk' → (∃ j blk, out[j]? = some blk ∧ q = backN Ls x j ∧ blk' = blk.ren (backN Ls x)) ∨ (st.rd q = some blk' ∧ ¬ Ls.contains q = true) := by
    intro q blk' hq
    simp only [St.rd] at hq
    rcases back_lk Ls x out 0 st.bl q with ⟨j, blk, h1, h2, h3⟩ | ⟨h1, h2⟩
    · rw [h3] at hq
      simp only [Option.join_some, Option.some.injEq] at hq
      exact .inl ⟨j, blk, h1, by rw [h2, Nat.zero_add], hq.symm⟩
    · rw [h2] at hq
      refine .inr ⟨hq, fun hc => ?_⟩
      have hm := List.contains_iff_mem.1 hc
      obtain ⟨i, hi, rfl⟩ := List.mem_iff_getElem.1 hm
      refine h1 i (by omega) ?_
      rw [Nat.zero_add]
      unfold backN
      rw [if_pos hi, List.getD_eq_getElem?_getD, List.getElem?_eq_getElem hi]
      rfl
  have hlt : ∀ {j : Nat} {blk : Blk}, out[j]? = some blk → j < out.length := fun e => (List.getElem?_eq_some_iff.1 e).1
  refine ⟨σ2, ?_, ?_, ?_⟩
  · refine { tmps := ?_, tmA := ?_, blks := ?_, blA := ?_, apart := ?_, notS := ?_, mine := ?_, nl := h.nl, nt := h.nt, lentA := ?_, inS := hS2, glob := h.glob.mono hSfr hS1, oldS := hS4, os := hos.trans h.os, tape := htape.trans h.tape, output := houtp.trans h.output, size := Nat.le_trans h.size hsize, old := ?_, defers := h.defers }
    · intro t av hl
      obtain ⟨u, h1, h2⟩ := h.tmps t av hl
      exact ⟨u, h1, h2.mono (h.tmA t av hl) hSfr hS1 hσA⟩
    · exact fun t av hl => (h.tmA t av hl).mono fun b hb => .inl hb
    · intro q blk' hq
      rcases hrd q blk' hq with ⟨j, blk, h1, rfl, rfl⟩ | ⟨h1, h2⟩
      · obtain ⟨g1, g2, g3⟩ := hout j blk h1
        exact g1.ren g2 (hback j (hlt h1)).1 (fun _ _ => rfl) (fun _ q => q) (fun b hb => (hback b hb).1) rfl
      · exact (h.blks q blk' h1).mono (h.blA q blk' h1).1 (h.blA q blk' h1).2 hSfr hS1 hσA (hold q blk' h1 h2)
    · intro q blk' hq
      rcases hrd q blk' hq with ⟨j, blk, h1, rfl, rfl⟩ | ⟨h1, h2⟩
      · exact ⟨Blk.inA_ren (hout j blk h1).2.1 (fun b hb => (hback b hb).2), (hback j (hlt h1)).2⟩
      · exact ⟨Blk.inA_mono (fun b hb => .inl hb) (h.blA q blk' h1).1, .inl (h.blA q blk' h1).2⟩
    · have hcross : ∀ j blk q blk', out[j]? = some blk → st.rd q = some blk' → ¬ Ls.contains q = true → (σc j).k ≠ (σ q).k := by
        intro j blk q blk' h1 h2 h3
        by_cases hj : j < Ls.length
        · obtain ⟨b, k, g1, g2, g3, g4⟩ := hLA j hj
          rw [hlent j hj]
          unfold lentσ
          rw [g2]
          exact h.apart b q k blk' g3 h2 fun e => h3 (e ▸ List.contains_iff_mem.2 (List.mem_of_getElem? g1))
        · have := hfresh j (by omega) (hlt h1)
          have := h.blkIn h2
          omega
      intro q q' k k' hq hq' hne
      rcases hrd q k hq with ⟨j, blk, h1, rfl, rfl⟩ | ⟨h1, h2⟩ <;> rcases hrd q' k' hq' with ⟨j', blk', h1', rfl, rfl⟩ | ⟨h1', h2'⟩
      · rw [(hback j (hlt h1)).1, (hback j' (hlt h1')).1]
        exact hap j j' (hlt h1) (hlt h1') fun e => hne (e ▸ rfl)
      · rw [(hback j (hlt h1)).1, hσA q' (h.blA q' k' h1').2]
        exact hcross j blk q' k' h1 h1' h2'
      · rw [(hback j' (hlt h1')).1, hσA q (h.blA q k h1).2]
        exact (hcross j' blk' q k h1' h1 h2).symm
      · rw [hσA q (h.blA q k h1).2, hσA q' (h.blA q' k' h1').2]
        exact h.apart q q' k k' h1 h1' hne
    · intro q blk' hq
      rcases hrd q blk' hq with ⟨j, blk, h1, rfl, rfl⟩ | ⟨h1, h2⟩
      · rw [(hback j (hlt h1)).1]; exact (hout j blk h1).2.2
      · rw [hσA q (h.blA q blk' h1).2]; exact hS3 q blk' h1 h2
    · intro q blk' hq
      rcases hrd q blk' hq with ⟨j, blk, h1, rfl, rfl⟩ | ⟨h1, h2⟩
      · rw [(hback j (hlt h1)).1]
        by_cases hj : j < Ls.length
        · obtain ⟨b, k, g1, g2, g3, g4⟩ := hLA j hj
          have hb : backN Ls x j = b := by unfold backN; rw [if_pos hj, g2]
          rw [hlent j hj, hb]
          unfold lentσ
          rw [g2]
          exact h.mine b k g3
        · exact .inl (Nat.le_trans h.size (hfresh j (by omega) (hlt h1)))
      · rw [hσA q (h.blA q blk' h1).2]; exact h.mine q blk' h1
    · intro b hb; exact ⟨.inl (h.lentA b hb).1, (hσA b (h.lentA b hb).1).trans (h.lentA b hb).2⟩
    · intro k hk hn
      rw [hframe k (Nat.lt_of_lt_of_le hk h.size) ?_]
      · exact h.old k hk hn
      · intro i hi e
        obtain ⟨b, blk, g1, g2, g3, g4⟩ := hLA i hi
        unfold lentσ at e
        rw [g2] at e
        rcases h.mine b blk g3 with hm | hm
        · omega
        · exact hn b hm (by rw [← (h.lentA b hm).2]; exact e)
  · exact hv.ren hrA (fun _ _ => rfl) (fun _ q => q) (fun b hb => (hback b hb).1)
  · exact hrA.ren fun b hb => (hback b hb).2
theorem RelOf.kills (h : RelOf X A σ S st a w) : ∀ bs : List Nat, RelOf X A σ S { st with bl := killB bs ++ st.bl } a w
  | [] => h
  | b :: bs => (RelOf.kills h bs).kill b
theorem kills_rd (st : St) : ∀ (bs : List Nat) (q : Nat) (blk : Blk), St.rd { st with bl := killB bs ++ st.bl } q = some blk → q ∉ bs ∧ st.rd q = some blk
  | [], q, blk, h => ⟨by simp, h⟩
  | b :: bs, q, blk, h => by
    rw [show ({ st with bl := killB (b :: bs) ++ st.bl } : St) = { ({ st with bl := killB bs ++ st.bl } : St) with bl := (b, none) :: ({ st with bl := killB bs ++ st.bl } : St).bl } from rfl, St.rd_cons] at h
    by_cases e : b = q
    · rw [if_pos e] at h; cases h
    · rw [if_neg e] at h
      obtain ⟨h1, h2⟩ := kills_rd st bs q blk h
      exact ⟨fun hm => (List.mem_cons.1 hm).elim (fun q' => e q'.symm) h1, h2⟩
theorem kills_keep (st : St) : ∀ (bs : List Nat) (q : Nat) (blk : Blk), q ∉ bs → st.rd q = some blk → St.rd { st with bl := killB bs ++ st.bl } q = some blk
  | [], q, blk, _, h => h
  | b :: bs, q, blk, hn, h => by
    rw [show ({ st with bl := killB (b :: bs) ++ st.bl } : St) = { ({ st with bl := killB bs ++ st.bl } : St) with bl := (b, none) :: ({ st with bl := killB bs ++ st.bl } : St).bl } from rfl, St.rd_cons, if_neg (fun e => hn (by simp [e]))]
    exact kills_keep st bs q blk (fun e => hn (by simp [e])) h
/-- What was borrowed is alive and not lent. -/
theorem passC_bor {Ls : List Nat} {c d : AC} {k : List Nat} {p : Prop} (hp : passC st Ls c = some (d, k, p)) : ∀ b ∈ k, ¬ Ls.contains b = true ∧ ∃ blk, st.rd b = some blk := by
  cases c <;> simp only [passC] at hp
  · simp only [Option.some.injEq, Prod.mk.injEq] at hp; obtain ⟨_, rfl, _⟩ := hp; simp
  · split at hp
    · simp only [Option.some.injEq, Prod.mk.injEq] at hp; obtain ⟨_, rfl, _⟩ := hp; simp
    · rename_i hn
      split at hp
      · rename_i hr
        simp only [Option.some.injEq, Prod.mk.injEq] at hp
        obtain ⟨_, rfl, _⟩ := hp
        intro b hb
        simp only [List.mem_singleton] at hb
        subst hb
        exact ⟨hn, _, hr⟩
      · cases hp
  · split at hp
    · simp only [Option.some.injEq, Prod.mk.injEq] at hp; obtain ⟨_, rfl, _⟩ := hp; simp
    · cases hp
  · simp only [Option.some.injEq, Prod.mk.injEq] at hp; obtain ⟨_, rfl, _⟩ := hp; simp
theorem passCs_bor {Ls : List Nat} : ∀ {cs ds : List AC} {k : List Nat} {p : Prop} (_ : passCs st Ls cs = some (ds, k, p)), ∀ b ∈ k, ¬ Ls.contains b = true ∧ ∃ blk, st.rd b = some blk
  | [], ds, k, p, hp => by simp only [passCs, Option.some.injEq, Prod.mk.injEq] at hp; obtain ⟨_, rfl, _⟩ := hp; simp
  | c :: cs, ds, k, p, hp => by
    simp only [passCs] at hp
    split at hp
    · rename_i d k1 p1 ds' k2 p2 h1 h2
      simp only [Option.some.injEq, Prod.mk.injEq] at hp
      obtain ⟨_, rfl, _⟩ := hp
      intro b hb
      rcases List.mem_append.1 hb with hb | hb
      · exact passC_bor h1 b hb
      · exact passCs_bor h2 b hb
    · cases hp
theorem passV_bor {Ls : List Nat} {x y : AV} {k : List Nat} {p : Prop} (hp : passV st Ls x = some (y, k, p)) : ∀ b ∈ k, ¬ Ls.contains b = true ∧ ∃ blk, st.rd b = some blk := by
  cases x <;> simp only [passV] at hp
  · split at hp
    · rename_i h1; simp only [Option.some.injEq, Prod.mk.injEq] at hp; obtain ⟨_, rfl, _⟩ := hp; exact passC_bor h1
    · cases hp
  · split at hp
    · rename_i h1; simp only [Option.some.injEq, Prod.mk.injEq] at hp; obtain ⟨_, rfl, _⟩ := hp; exact passCs_bor h1
    · cases hp
  · cases hp
  · split at hp
    · rename_i h1; simp only [Option.some.injEq, Prod.mk.injEq] at hp; obtain ⟨_, rfl, _⟩ := hp; exact passCs_bor h1
    · cases hp
  · cases hp
theorem passVs_bor {Ls : List Nat} : ∀ {cs ds : List AV} {k : List Nat} {p : Prop} (_ : passVs st Ls cs = some (ds, k, p)), ∀ b ∈ k, ¬ Ls.contains b = true ∧ ∃ blk, st.rd b = some blk
  | [], ds, k, p, hp => by simp only [passVs, Option.some.injEq, Prod.mk.injEq] at hp; obtain ⟨_, rfl, _⟩ := hp; simp
  | c :: cs, ds, k, p, hp => by
    simp only [passVs] at hp
    split at hp
    · rename_i d k1 p1 ds' k2 p2 h1 h2
      simp only [Option.some.injEq, Prod.mk.injEq] at hp
      obtain ⟨_, rfl, _⟩ := hp
      intro b hb
      rcases List.mem_append.1 hb with hb | hb
      · exact passV_bor h1 b hb
      · exact passVs_bor h2 b hb
    · cases hp
/-- A call. -/
theorem call_sound (h : RelOf X A σ S st a w) (x : Nat) (hx : ∀ b, x ≤ b → b < x + 8 → ¬ A b) {f : FuncId} {avs cargs : List AV} {vs : Array Value} (hl : avs.length = vs.toList.length) (hrep : ∀ (i : Nat) v u, avs[i]? = some v → vs.toList[i]? = some u → RepV w S σ v u)
    (Ls bor : List Nat) (p : Prop) (hpass : passVs st Ls avs = some (cargs, bor, p)) (hp : p) (hnd : Ls.Nodup) (lent : List Blk) (hlent : rds st Ls = some lent) (hplain : ∀ blk ∈ lent, blk.inA (fun _ => False))
    (r : AV) (out : List Blk) (hgood : Good P f cargs lent r out) (hol : out.length ≤ Ls.length + 8) (kl : Bool)
    (hkl : match kl with | true => ∀ b ∈ bor, st.nl ≤ b | false => bor = [] ∨ (r.NoSl ∧ ∀ k ∈ out, k.noSl)) :
    Calls P f vs w fun en w' => ∃ v, en = .returned v ∧ ∃ σ' S', RelOf X (slots A x) σ' S' { st with bl := backB Ls x 0 out ++ ((if kl = true then killB bor else []) ++ st.bl) } a w' ∧ RepV w' S' σ' (r.ren (backN Ls x)) v ∧ (r.ren (backN Ls x)).InA (slots A x) := by
  obtain ⟨g1, g2, g3⟩ := passVs_sound h bor hpass hp (fun b hb => hb) hl hrep
  obtain ⟨k1, k2⟩ := rds_get hlent
  have hbor := passVs_bor hpass
  have hLsrd : ∀ b ∈ Ls, ∃ blk, st.rd b = some blk := by
    intro b hb
    obtain ⟨i, hi, rfl⟩ := List.mem_iff_getElem.1 hb
    obtain ⟨b', e1, e2⟩ := k2 i _ (List.getElem?_eq_getElem (by omega))
    rw [List.getElem?_eq_getElem hi] at e1
    cases e1
    exact ⟨_, e2⟩
  have hget : ∀ i, i < Ls.length → ∃ b blk, Ls[i]? = some b ∧ lent[i]? = some blk ∧ st.rd b = some blk ∧ lentσ σ Ls i = σ b := by
    intro i hi
    obtain ⟨b, e1, e2⟩ := k2 i _ (List.getElem?_eq_getElem (show i < lent.length by omega))
    exact ⟨b, _, e1, List.getElem?_eq_getElem (by omega), e2, by unfold lentσ; rw [List.getD_eq_getElem?_getD, e1]; rfl⟩
  have hcall := hgood w vs (lentσ σ Ls) (addS S σ bor) (by simpa using g1) (fun i v u e1 e2 => g2 i v u e1 (by simpa using e2)) (fun v hv => by rw [k1]; exact g3 v hv) ?_ ?_ ?_ (h.glob.mono (fun _ _ => rfl) (fun _ q => .inl q))
  rotate_left
  · intro i blk hi
    have hi' : i < Ls.length := k1 ▸ (List.getElem?_eq_some_iff.1 hi).1
    obtain ⟨b, blk', e1, e2, e3, e4⟩ := hget i hi'
    rw [hi] at e2; cases e2
    have hpl := hplain blk (List.mem_of_getElem? hi)
    refine ⟨?_, Blk.inA_mono (fun _ q => q.elim) hpl, ?_⟩
    · have := (h.blks b blk e3).ren (w' := w) (S' := addS S σ bor) (τ := lentσ σ Ls) (g := fun _ => i) hpl e4 (fun _ _ => rfl) (fun _ q => .inl q) (fun _ q => q.elim) rfl
      rwa [Blk.ren_plain hpl] at this
    · rw [e4]
      rintro (q | ⟨b', hb', q⟩)
      · exact h.notS b blk e3 q
      · obtain ⟨hn, blk2, hr2⟩ := hbor b' hb'
        exact h.apart b b' blk blk2 e3 hr2 (fun e => hn (e ▸ List.contains_iff_mem.2 (List.mem_of_getElem? e1))) q
  · intro i j hi hj hne
    rw [k1] at hi hj
    obtain ⟨b, blk, e1, _, e3, e4⟩ := hget i hi
    obtain ⟨b', blk', e1', _, e3', e4'⟩ := hget j hj
    rw [e4, e4']
    refine h.apart b b' blk blk' e3 e3' fun e => hne ?_
    subst e
    exact nodup_inj hnd e1 e1'
  · rintro k (hk | ⟨b, hb, rfl⟩)
    · exact h.inS k hk
    · obtain ⟨_, blk, hr⟩ := hbor b hb; exact h.blkIn hr
  refine hcall.mono ?_
  rintro en w' ⟨v, rfl, σc, Sc, p1, p2, p3, p4, p5, p6, p7, p8, p9, p10, p11, p12, p13, p14⟩
  rw [k1] at p3 p6 p7 p14
  refine ⟨v, rfl, ?_⟩
  cases kl with
  | true =>
    have hS3 : ∀ b blk, St.rd { st with bl := killB bor ++ st.bl } b = some blk → ¬ Ls.contains b = true → ¬ (addS S σ bor (σ b).k ∨ Sc (σ b).k) := by
      intro b blk hb hn
      obtain ⟨q1, q2⟩ := kills_rd st bor b blk hb
      have hadd : ¬ addS S σ bor (σ b).k := by
        rintro (q | ⟨b', hb', q⟩)
        · exact h.notS b blk q2 q
        · obtain ⟨_, blk2, hr2⟩ := hbor b' hb'
          exact h.apart b b' blk blk2 q2 hr2 (fun e => q1 (e ▸ hb')) q
      rintro (q | q)
      · exact hadd q
      · exact hadd (p9 _ q (h.blkIn q2))
    have hlentS : ∀ i, i < Ls.length → ¬ addS S σ bor (lentσ σ Ls i).k := by
      intro i hi
      obtain ⟨b, blk, e1, _, e3, e4⟩ := hget i hi
      rw [e4]
      rintro (q | ⟨b', hb', q⟩)
      · exact h.notS b blk e3 q
      · obtain ⟨hn, blk2, hr2⟩ := hbor b' hb'
        exact h.apart b b' blk blk2 e3 hr2 (fun e => hn (e ▸ List.contains_iff_mem.2 (List.mem_of_getElem? e1))) q
    have haddlt : ∀ k, addS S σ bor k → k < w.heap.size := by
      rintro k (q | ⟨b, hb, rfl⟩)
      · exact h.inS k q
      · obtain ⟨_, blk, hr⟩ := hbor b hb; exact h.blkIn hr
    have hal : ∀ b ∈ Ls, ∃ blk, St.rd { st with bl := killB bor ++ st.bl } b = some blk := by
      intro b hb
      obtain ⟨blk, hr⟩ := hLsrd b hb
      exact ⟨blk, kills_keep st bor b blk (fun q => (hbor b q).1 (List.contains_iff_mem.2 hb)) hr⟩
    obtain ⟨σ', f1, f2, f3⟩ := call_back (h.kills bor) x hx Ls hnd hal r out v hol σc (fun k => addS S σ bor k ∨ Sc k) p2 p3
      (p1.mono p2 (fun _ _ => rfl) (fun _ q => .inr q) (fun _ _ => rfl))
      (fun b blk hb => ⟨(p4 b blk hb).1.mono (p4 b blk hb).2.1 (List.getElem?_eq_some_iff.1 hb).1 (fun _ _ => rfl) (fun _ q => .inr q) (fun _ _ => rfl) rfl, (p4 b blk hb).2.1, by
        rintro (q | q)
        · by_cases hi : b < Ls.length
          · rw [p6 b hi] at q; exact hlentS b hi q
          · have := p7 b (by omega) (List.getElem?_eq_some_iff.1 hb).1
            have := haddlt _ q
            omega
        · exact (p4 b blk hb).2.2 q⟩)
      p5 p6 p7 (fun k q => .inl (.inl q)) (fun k q => q.elim (fun q => Nat.lt_of_lt_of_le (haddlt k q) p13) (fun q => p8 k q))
      hS3 (fun k q hlt => by
        have hlt' : k < w.heap.size := Nat.lt_of_lt_of_le hlt h.size
        have q' : addS S σ bor k := q.elim id (fun q => p9 k q hlt')
        rcases q' with q' | ⟨b, hb, rfl⟩
        · exact h.oldS k q' hlt
        · obtain ⟨_, blk, hr⟩ := hbor b hb
          rcases h.mine b blk hr with hm | hm
          · omega
          · have := hkl b hb; have := h.nl; omega)
      p10 p11 p12 p13 p14
    exact ⟨σ', _, f1, f2, f3⟩
  | false =>
    -- the set of what is settled: with the callee's where nothing was borrowed
    have main : ∀ S2 : Nat → Prop, (∀ k, S k → S2 k) → (∀ k, S2 k → k < w'.heap.size) → (∀ k, S2 k → k < w.heap.size → S k) → RepV w' S2 σc r v → (∀ (b : Nat) blk, out[b]? = some blk → BlkRep w' S2 σc b blk) → (∀ k, S2 k → S k ∨ Sc k) →
        ∃ σ' S', RelOf X (slots A x) σ' S' { st with bl := backB Ls x 0 out ++ ([] ++ st.bl) } a w' ∧ RepV w' S' σ' (r.ren (backN Ls x)) v ∧ (r.ren (backN Ls x)).InA (slots A x) := by
      intro S2 t1 t2 t3 t4 t5 t6
      obtain ⟨σ', f1, f2, f3⟩ := call_back h x hx Ls hnd hLsrd r out v hol σc S2 p2 p3 t4
        (fun b blk hb => ⟨t5 b blk hb, (p4 b blk hb).2.1, by
          intro q
          rcases t6 _ q with q' | q'
          · by_cases hi : b < Ls.length
            · obtain ⟨b', blk', e1, _, e3, e4⟩ := hget b hi
              rw [p6 b hi, e4] at q'
              exact h.notS b' blk' e3 q'
            · have := p7 b (by omega) (List.getElem?_eq_some_iff.1 hb).1
              have := h.inS _ q'
              omega
          · exact (p4 b blk hb).2.2 q'⟩)
        p5 p6 p7 t1 t2 (fun b blk hb _ q => h.notS b blk hb (t3 _ q (h.blkIn hb))) (fun k q hlt => h.oldS k (t3 k q (Nat.lt_of_lt_of_le hlt h.size)) hlt) p10 p11 p12 p13 p14
      exact ⟨σ', _, f1, f2, f3⟩
    rcases hkl with rfl | ⟨hk1, hk2⟩
    · have hadd : ∀ k, addS S σ [] k → S k := fun k q => q.elim id (fun ⟨b, hb, _⟩ => by cases hb)
      exact main (fun k => S k ∨ Sc k) (fun k q => .inl q) (fun k q => q.elim (fun q => Nat.lt_of_lt_of_le (h.inS k q) p13) (fun q => p8 k q))
        (fun k q hlt => q.elim id (fun q => hadd k (p9 k q hlt)))
        (p1.mono p2 (fun _ _ => rfl) (fun _ q => .inr q) (fun _ _ => rfl))
        (fun b blk hb => (p4 b blk hb).1.mono (p4 b blk hb).2.1 (List.getElem?_eq_some_iff.1 hb).1 (fun _ _ => rfl) (fun _ q => .inr q) (fun _ _ => rfl) rfl) (fun k q => q)
    · exact main S (fun k q => q) (fun k q => Nat.lt_of_lt_of_le (h.inS k q) p13) (fun k q _ => q) (p1.noSl hk1) (fun b blk hb => (p4 b blk hb).1.noSl (hk2 blk (List.mem_of_getElem? hb))) (fun k q => .inl q)
/-- A call that eats what it was lent. -/
theorem call_eat (h : RelOf X A σ S st a w) (x : Nat) (hx : ∀ b, x ≤ b → b < x + 8 → ¬ A b) {f : FuncId} {avs cargs : List AV} {vs : Array Value} (hl : avs.length = vs.toList.length) (hrep : ∀ (i : Nat) v u, avs[i]? = some v → vs.toList[i]? = some u → RepV w S σ v u)
    (Ls bor : List Nat) (p : Prop) (hpass : passVs st Ls avs = some (cargs, bor, p)) (hp : p) (hnd : Ls.Nodup) (lent : List Blk) (hlent : rds st Ls = some lent) (hplain : ∀ blk ∈ lent, blk.inA (fun _ => False))
    (m sz : Nat) (els : List (List PV)) (hgood : GoodE P f cargs lent m sz els) (hb0 : bor = []) (hLn : ∀ b ∈ Ls, st.nl ≤ b) :
    Calls P f vs w fun en w' => ∃ v, en = .returned v ∧ ∃ σ' S', RelOf X (slots A x) σ' S' { st with bl := (x, some (.arr sz els)) :: killB Ls ++ st.bl } a w' ∧ RepV w' S' σ' (.one (.hs x 0 m)) v ∧ (AV.one (.hs x 0 m)).InA (slots A x) := by
  obtain ⟨g1, g2, g3⟩ := passVs_sound h bor hpass hp (fun b hb => hb) hl hrep
  obtain ⟨k1, k2⟩ := rds_get hlent
  have hbor := passVs_bor hpass
  have hLsrd : ∀ b ∈ Ls, ∃ blk, st.rd b = some blk := by
    intro b hb
    obtain ⟨i, hi, rfl⟩ := List.mem_iff_getElem.1 hb
    obtain ⟨b', e1, e2⟩ := k2 i _ (List.getElem?_eq_getElem (by omega))
    rw [List.getElem?_eq_getElem hi] at e1
    cases e1
    exact ⟨_, e2⟩
  have hget : ∀ i, i < Ls.length → ∃ b blk, Ls[i]? = some b ∧ lent[i]? = some blk ∧ st.rd b = some blk ∧ lentσ σ Ls i = σ b := by
    intro i hi
    obtain ⟨b, e1, e2⟩ := k2 i _ (List.getElem?_eq_getElem (show i < lent.length by omega))
    exact ⟨b, _, e1, List.getElem?_eq_getElem (by omega), e2, by unfold lentσ; rw [List.getD_eq_getElem?_getD, e1]; rfl⟩
  have hcall := hgood w vs (lentσ σ Ls) (addS S σ bor) (by simpa using g1) (fun i v u e1 e2 => g2 i v u e1 (by simpa using e2)) (fun v hv => by rw [k1]; exact g3 v hv) ?_ ?_ ?_ (h.glob.mono (fun _ _ => rfl) (fun _ q => .inl q))
  rotate_left
  · intro i blk hi
    have hi' : i < Ls.length := k1 ▸ (List.getElem?_eq_some_iff.1 hi).1
    obtain ⟨b, blk', e1, e2, e3, e4⟩ := hget i hi'
    rw [hi] at e2; cases e2
    have hpl := hplain blk (List.mem_of_getElem? hi)
    refine ⟨?_, Blk.inA_mono (fun _ q => q.elim) hpl, ?_⟩
    · have := (h.blks b blk e3).ren (w' := w) (S' := addS S σ bor) (τ := lentσ σ Ls) (g := fun _ => i) hpl e4 (fun _ _ => rfl) (fun _ q => .inl q) (fun _ q => q.elim) rfl
      rwa [Blk.ren_plain hpl] at this
    · rw [e4]
      rintro (q | ⟨b', hb', q⟩)
      · exact h.notS b blk e3 q
      · obtain ⟨hn, blk2, hr2⟩ := hbor b' hb'
        exact h.apart b b' blk blk2 e3 hr2 (fun e => hn (e ▸ List.contains_iff_mem.2 (List.mem_of_getElem? e1))) q
  · intro i j hi hj hne
    rw [k1] at hi hj
    obtain ⟨b, blk, e1, _, e3, e4⟩ := hget i hi
    obtain ⟨b', blk', e1', _, e3', e4'⟩ := hget j hj
    rw [e4, e4']
    refine h.apart b b' blk blk' e3 e3' fun e => hne ?_
    subst e
    exact nodup_inj hnd e1 e1'
  · rintro k (hk | ⟨b, hb, rfl⟩)
    · exact h.inS k hk
    · obtain ⟨_, blk, hr⟩ := hbor b hb; exact h.blkIn hr
  refine hcall.mono ?_
  rintro en w' ⟨v, rfl, j, out, o1, o2, o3, σc, Sc, p1, p2, p3, p4, p5, p6, p7, p8, p9, p10, p11, p12, p13, p14⟩
  subst hb0
  rw [k1] at o2 o3 p3 p6 p7 p14
  refine ⟨v, rfl, ?_⟩
  have hjl : j < out.length := (List.getElem?_eq_some_iff.1 o1).1
  have hadd : ∀ k, addS S σ [] k → S k := fun k q => q.elim id (fun ⟨b, hb, _⟩ => by cases hb)
  have t3 : ∀ k, (S k ∨ Sc k) → k < w.heap.size → S k := fun k q hlt => q.elim id (fun q => hadd k (p9 k q hlt))
  obtain ⟨σ', f1, f2, f3⟩ := call_back h x hx Ls hnd hLsrd (.one (.hs j 0 m)) out v (by omega) σc (fun k => S k ∨ Sc k) p2 p3
    (p1.mono p2 (fun _ _ => rfl) (fun _ q => .inr q) (fun _ _ => rfl))
    (fun b blk hb => ⟨(p4 b blk hb).1.mono (p4 b blk hb).2.1 (List.getElem?_eq_some_iff.1 hb).1 (fun _ _ => rfl) (fun _ q => .inr q) (fun _ _ => rfl) rfl, (p4 b blk hb).2.1, by
      rintro (q' | q')
      · by_cases hi : b < Ls.length
        · obtain ⟨b', blk', e1, _, e3, e4⟩ := hget b hi
          rw [p6 b hi, e4] at q'
          exact h.notS b' blk' e3 q'
        · have := p7 b (by omega) (List.getElem?_eq_some_iff.1 hb).1
          have := h.inS _ q'
          omega
      · exact (p4 b blk hb).2.2 q'⟩)
    p5 p6 p7 (fun k q => .inl q) (fun k q => q.elim (fun q => Nat.lt_of_lt_of_le (h.inS k q) p13) (fun q => p8 k q)) (fun b blk hb _ q => h.notS b blk hb (t3 _ q (h.blkIn hb)))
    (fun k q hlt => h.oldS k (t3 k q (Nat.lt_of_lt_of_le hlt h.size)) hlt) p10 p11 p12 p13 p14
  have hrdx : St.rd { st with bl := backB Ls x 0 out ++ st.bl } (backN Ls x j) = some (.arr sz els) := by
    simp only [St.rd]
    rcases back_lk Ls x out 0 st.bl (backN Ls x j) with ⟨j', blk, h1, h2, h3⟩ | ⟨h1, _⟩
    · rw [h3]
      have hj' : j' < out.length := (List.getElem?_eq_some_iff.1 h1).1
      rw [Nat.zero_add] at h2
      have : j = j' := by
        unfold backN at h2
        by_cases q1 : j < Ls.length <;> by_cases q2 : j' < Ls.length
        · rw [if_pos q1, if_pos q2] at h2
          rw [List.getD_eq_getElem?_getD, List.getD_eq_getElem?_getD, List.getElem?_eq_getElem q1, List.getElem?_eq_getElem q2] at h2
          exact nodup_inj hnd (List.getElem?_eq_getElem q1) ((List.getElem?_eq_getElem q2).trans (congrArg some h2.symm))
        · rw [if_pos q1, if_neg q2] at h2
          obtain ⟨b, blk2, e1, _, e3, _⟩ := hget j q1
          rw [List.getD_eq_getElem?_getD, e1] at h2
          exact absurd (h.blA b blk2 e3).2 (hx b (by show x ≤ b; have h2' : b = x + (j' - Ls.length) := h2; omega) (by have h2' : b = x + (j' - Ls.length) := h2; omega))
        · rw [if_neg q1, if_pos q2] at h2
          obtain ⟨b, blk2, e1, _, e3, _⟩ := hget j' q2
          rw [List.getD_eq_getElem?_getD, e1] at h2
          exact absurd (h.blA b blk2 e3).2 (hx b (by have h2' : x + (j - Ls.length) = b := h2; omega) (by have h2' : x + (j - Ls.length) = b := h2; omega))
        · rw [if_neg q1, if_neg q2] at h2; omega
      subst this
      rw [o1] at h1; cases h1; rfl
    · exact absurd (by rw [Nat.zero_add]) (h1 j hjl)
  -- what the new name means
  let σ2 : Nat → Loc := fun b => if b = x then σ' (backN Ls x j) else σ' b
  have hxA : ¬ A x := hx x (Nat.le_refl _) (by omega)
  have hσ2 : ∀ b, A b → σ2 b = σ' b := fun b hb => by
    show (if b = x then _ else _) = _
    rw [if_neg (fun e => hxA (by rw [← e]; exact hb))]
  have hx2 : σ2 x = σ' (backN Ls x j) := by show (if x = x then _ else _) = _; rw [if_pos rfl]
  have hrd : ∀ q blk, St.rd { st with bl := (x, some (.arr sz els)) :: killB Ls ++ st.bl } q = some blk → (q = x ∧ blk = .arr sz els) ∨ (q ≠ x ∧ A q ∧ q ∉ Ls ∧ st.rd q = some blk ∧ St.rd { st with bl := backB Ls x 0 out ++ st.bl } q = some blk ∧ q ≠ backN Ls x j) := by
    intro q blk hq
    rw [show ({ st with bl := (x, some (.arr sz els)) :: killB Ls ++ st.bl } : St) = { ({ st with bl := killB Ls ++ st.bl } : St) with bl := (x, some (.arr sz els)) :: ({ st with bl := killB Ls ++ st.bl } : St).bl } from rfl, St.rd_cons] at hq
    by_cases e : x = q
    · rw [if_pos e] at hq; injection hq with hq; exact .inl ⟨e.symm, hq.symm⟩
    · rw [if_neg e] at hq
      obtain ⟨q1, q2⟩ := kills_rd st Ls q blk hq
      have hA := (h.blA q blk q2).2
      have hno : ∀ i, i < out.length → q ≠ backN Ls x (0 + i) := fun i hi e2 => by
        rw [Nat.zero_add] at e2
        unfold backN at e2
        split at e2
        · rename_i hi2
          obtain ⟨b, blk2, e1, _, _, _⟩ := hget i hi2
          rw [List.getD_eq_getElem?_getD, e1] at e2
          exact q1 (by rw [show q = b from e2]; exact List.mem_of_getElem? e1)
        · exact hx q (by omega) (by omega) hA
      refine .inr ⟨fun e2 => e e2.symm, hA, q1, q2, ?_, fun e2 => hno j hjl (by rw [Nat.zero_add]; exact e2)⟩
      simp only [St.rd]
      rcases back_lk Ls x out 0 st.bl q with ⟨i, blk2, h1, h2, _⟩ | ⟨_, h2⟩
      · exact absurd h2 (hno i (List.getElem?_eq_some_iff.1 h1).1)
      · rw [h2]; exact q2
  have hsx : slots A x x := .inr ⟨Nat.le_refl _, by omega⟩
  refine ⟨σ2, _, { tmps := ?_, tmA := f1.tmA, blks := ?_, blA := ?_, apart := ?_, notS := ?_, mine := ?_, nl := f1.nl, nt := f1.nt, lentA := ?_, inS := f1.inS, glob := f1.glob, oldS := f1.oldS, os := f1.os, tape := f1.tape, output := f1.output, size := f1.size, old := f1.old, defers := f1.defers }, ?_, .one hsx⟩
  · intro t av hl
    obtain ⟨u, h1, h2⟩ := f1.tmps t av hl
    exact ⟨u, h1, h2.mono (h.tmA t av hl) (fun _ _ => rfl) (fun _ q => q) hσ2⟩
  · intro q blk hq
    rcases hrd q blk hq with ⟨rfl, rfl⟩ | ⟨h1, h2, h3, h4, h5, h6⟩
    · have := f1.blks _ _ hrdx
      obtain ⟨c, ty, fr, a1, a0, a2, a3, a4⟩ := this
      exact ⟨c, ty, fr, by rw [hx2]; exact a1, by rw [hx2]; exact a0, by rw [hx2]; exact a2, a3, by simp only at a4 ⊢; rw [hx2]; exact a4⟩
    · exact (f1.blks q blk h5).mono (h.blA q blk h4).1 h2 (fun _ _ => rfl) (fun _ q => q) hσ2 rfl
  · intro q blk hq
    rcases hrd q blk hq with ⟨rfl, rfl⟩ | ⟨h1, h2, h3, h4, h5, h6⟩
    · exact ⟨trivial, hsx⟩
    · exact ⟨Blk.inA_mono (fun _ q => .inl q) (h.blA q blk h4).1, .inl h2⟩
  · intro q q' blk blk' hq hq' hne
    rcases hrd q blk hq with ⟨rfl, rfl⟩ | ⟨h1, h2, h3, h4, h5, h6⟩
    · rcases hrd q' blk' hq' with ⟨rfl, rfl⟩ | ⟨g1, g2, g3, g4, g5, g6⟩
      · exact absurd rfl hne
      · rw [hx2, hσ2 q' g2]; exact f1.apart _ _ _ _ hrdx g5 fun e => g6 e.symm
    · rcases hrd q' blk' hq' with ⟨rfl, rfl⟩ | ⟨g1, g2, g3, g4, g5, g6⟩
      · rw [hx2, hσ2 q h2]; exact f1.apart _ _ _ _ h5 hrdx h6
      · rw [hσ2 q h2, hσ2 q' g2]; exact f1.apart _ _ _ _ h5 g5 hne
  · intro q blk hq
    rcases hrd q blk hq with ⟨rfl, rfl⟩ | ⟨h1, h2, h3, h4, h5, h6⟩
    · rw [hx2]; exact f1.notS _ _ hrdx
    · rw [hσ2 q h2]; exact f1.notS _ _ h5
  · intro q blk hq
    rcases hrd q blk hq with ⟨rfl, rfl⟩ | ⟨h1, h2, h3, h4, h5, h6⟩
    · rw [hx2]
      rcases f1.mine _ _ hrdx with hm | hm
      · exact .inl hm
      · unfold backN at hm
        split at hm
        · rename_i hi2
          obtain ⟨b, blk2, e1, _, _, _⟩ := hget j hi2
          rw [List.getD_eq_getElem?_getD, e1] at hm
          have := hLn b (List.mem_of_getElem? e1)
          have h9 : b < X.nl := hm
          have := h.nl
          omega
        · refine absurd (h.lentA (q + (j - Ls.length)) hm).1 (hx _ (by omega) (by omega))
    · rw [hσ2 q h2]; exact f1.mine _ _ h5
  · intro b hb
    obtain ⟨q1, q2⟩ := f1.lentA b hb
    refine ⟨q1, ?_⟩
    rw [hσ2 b (h.lentA b hb).1]; exact q2
  · have f2' : RepV w' (fun k => S k ∨ Sc k) σ' (.one (.hs (backN Ls x j) 0 m)) v := f2
    cases f2' with
    | one f2' =>
      refine .one ?_
      cases f2' with
      | hs _ _ _ cap hc hn => rw [← hx2] at hc ⊢; exact .hs x 0 m cap hc hn
      | hs0 _ _ a' => exact .hs0 x 0 a'
end Go.Abs
