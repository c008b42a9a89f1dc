import Derived.Test.YtmieklaakjabaaaGreatGAbs0
set_option linter.unusedSimpArgs false
set_option linter.unusedVariables false
namespace Go.Abs
open Go Go.RowKit
def upd (σ : Nat → Loc) (x : Nat) (l : Loc) : Nat → Loc := fun b => if b = x then l else σ b
theorem upd_self (σ : Nat → Loc) (x : Nat) (l : Loc) : upd σ x l x = l := if_pos rfl
theorem upd_ne {σ : Nat → Loc} {x : Nat} {l : Loc} {b : Nat} (h : b ≠ x) : upd σ x l b = σ b := if_neg h
theorem St.rd_cons (st : St) (x : Nat) (o : Option Blk) (b : Nat) : St.rd { st with bl := (x, o) :: st.bl } b = if x = b then o else st.rd b := by
  simp only [St.rd, lk]
  by_cases e : x = b
  · rw [if_pos e, if_pos e]; rfl
  · rw [if_neg e, if_neg e]
variable {X : Ctx} {A A' : Nat → Prop} {σ : Nat → Loc} {S : Kx → Prop} {st : St} {a : Act} {w w' : World}
theorem RelOf.weakA (h : RelOf X A σ S st a w) (hA : ∀ b, A b → A' b) : RelOf X A' σ S st a w :=
  { h with tmA := fun t av hl => (h.tmA t av hl).mono hA, blA := fun b blk hl => ⟨Blk.inA_mono hA (h.blA b blk hl).1, hA b (h.blA b blk hl).2⟩, lentA := fun b hb => ⟨hA b (h.lentA b hb).1, (h.lentA b hb).2⟩ }
theorem RelOf.blkIn (h : RelOf X A σ S st a w) {b : Nat} {blk : Blk} (hb : st.rd b = some blk) : (σ b).k < w.heap.size := by
  obtain ⟨c, ty, fr, h1, _⟩ := h.blks b blk hb
  exact (Array.getElem?_eq_some_iff.1 h1).1
/-- A new block. -/
theorem RelOf.alloc (h : RelOf X A σ S st a w) (x : Nat) (hx : ¬ A x) (c : Array Value) (ty : TypeId) (fr : Nat × Nat) (l : Loc) (hl : l.k = w.heap.size) (blk : Blk) (hin : blk.inA A)
    (hb : BlkRep (w.alloc (.cells c ty fr)) S (upd σ x l) x blk) :
    RelOf X (fun b => A b ∨ b = x) (upd σ x l) S { st with bl := (x, some blk) :: st.bl } a (w.alloc (.cells c ty fr)) := by
  have hold : ∀ k, k < w.heap.size → (w.alloc (.cells c ty fr)).heap[k]? = w.heap[k]? := fun k hk => Below.heap_alloc w _ k hk
  have hne : ∀ b, A b → b ≠ x := fun b hb e => hx (e ▸ hb)
  have hS : ∀ k, S k → (w.alloc (.cells c ty fr)).heap[k.b]? = w.heap[k.b]? := fun k hk => hold _ (h.inS k hk)
  have hσ : ∀ b, A b → upd σ x l b = σ b := fun b hb => upd_ne (hne b hb)
  have hsz : (w.alloc (.cells c ty fr)).heap.size = w.heap.size + 1 := Array.size_push ..
  refine { tmps := ?_, tmA := ?_, blks := ?_, blA := ?_, apart := ?_, notS := ?_, mine := ?_, nl := h.nl, nt := h.nt, lentA := ?_, inS := ?_, sok := h.sok, free := h.free, tg := fun e he => ⟨(h.tg e he).1, (h.tg e he).2.mono (hS _ (h.tg e he).1)⟩, glob := h.glob.mono hS (fun _ q => q), oldS := h.oldS, os := h.os, tape := h.tape, output := h.output, size := ?_, old := ?_, defers := h.defers }
  · intro t av hl'
    obtain ⟨v, h1, h2⟩ := h.tmps t av hl'
    exact ⟨v, h1, h2.mono (h.tmA t av hl') hS (fun _ q => q) hσ⟩
  · exact fun t av hl' => (h.tmA t av hl').mono fun b hb => .inl hb
  · intro b blk' hr
    rw [St.rd_cons] at hr
    by_cases e : x = b
    · rw [if_pos e] at hr; cases hr; subst e; exact hb
    · rw [if_neg e] at hr
      exact (h.blks b blk' hr).mono (h.blA b blk' hr).1 (h.blA b blk' hr).2 hS (fun _ q => q) hσ (hold _ (h.blkIn hr))
  · intro b blk' hr
    rw [St.rd_cons] at hr
    by_cases e : x = b
    · rw [if_pos e] at hr; cases hr; exact ⟨Blk.inA_mono (fun b hb => .inl hb) hin, .inr e.symm⟩
    · rw [if_neg e] at hr
      exact ⟨Blk.inA_mono (fun b hb => .inl hb) (h.blA b blk' hr).1, .inl (h.blA b blk' hr).2⟩
  · intro b b' k k' hr hr' hbb
    rw [St.rd_cons] at hr hr'
    by_cases e : x = b
    · subst e
      rw [if_neg hbb] at hr'
      rw [upd_self, upd_ne (fun e => hbb e.symm), hl]
      have := h.blkIn hr'
      omega
    · rw [if_neg e] at hr
      by_cases e' : x = b'
      · subst e'
        rw [upd_self, upd_ne (fun q => e q.symm), hl]
        have := h.blkIn hr
        omega
      · rw [if_neg e'] at hr'
        rw [upd_ne (fun q => e q.symm), upd_ne (fun q => e' q.symm)]
        exact h.apart b b' k k' hr hr' hbb
  · intro b blk' hr
    rw [St.rd_cons] at hr
    by_cases e : x = b
    · subst e; rw [upd_self, hl]; intro y hk; have := h.inS _ hk; omega
    · rw [if_neg e] at hr; rw [upd_ne (fun q => e q.symm)]; exact h.notS b blk' hr
  · intro b blk' hr
    rw [St.rd_cons] at hr
    by_cases e : x = b
    · subst e; rw [upd_self, hl]; exact .inl h.size
    · rw [if_neg e] at hr; rw [upd_ne (fun q => e q.symm)]; exact h.mine b blk' hr
  · intro b hb; exact ⟨.inl (h.lentA b hb).1, (hσ b (h.lentA b hb).1).trans (h.lentA b hb).2⟩
  · intro k hk; have := h.inS k hk; omega
  · have := h.size; omega
  · intro k hk hn hx
    rw [hold k (by have := h.size; omega)]
    exact h.old k hk hn hx
/-- The block b is written. -/
theorem RelOf.write (h : RelOf X A σ S st a w) (b : Nat) (blk blk' : Blk) (hb : st.rd b = some blk) (hin : blk'.inA A)
    (hos : w'.os = w.os) (htape : w'.tape = w.tape) (hout : w'.output = w.output) (hsz : w'.heap.size = w.heap.size) (hheap : ∀ k, k ≠ (σ b).k → w'.heap[k]? = w.heap[k]?)
    (hb' : BlkRep w' S σ b blk') : RelOf X A σ S { st with bl := (b, some blk') :: st.bl } a w' := by
  have hS : ∀ k, S k → w'.heap[k.b]? = w.heap[k.b]? := fun k hk => hheap _ fun e => h.notS b blk hb k hk e
  refine { tmps := ?_, tmA := h.tmA, blks := ?_, blA := ?_, apart := ?_, notS := ?_, mine := ?_, nl := h.nl, nt := h.nt, lentA := h.lentA, inS := fun k hk => hsz ▸ h.inS k hk, sok := h.sok, free := h.free, tg := fun e he => ⟨(h.tg e he).1, (h.tg e he).2.mono (hS _ (h.tg e he).1)⟩, glob := h.glob.mono hS (fun _ q => q), oldS := h.oldS, os := hos.trans h.os, tape := htape.trans h.tape, output := hout.trans h.output, size := hsz ▸ h.size, old := ?_, defers := h.defers }
  · intro t av hl'
    obtain ⟨v, h1, h2⟩ := h.tmps t av hl'
    exact ⟨v, h1, h2.mono (h.tmA t av hl') hS (fun _ q => q) (fun _ _ => rfl)⟩
  · intro c blk'' hr
    rw [St.rd_cons] at hr
    by_cases e : b = c
    · rw [if_pos e] at hr; cases hr; subst e; exact hb'
    · rw [if_neg e] at hr
      exact (h.blks c blk'' hr).mono (h.blA c blk'' hr).1 (h.blA c blk'' hr).2 hS (fun _ q => q) (fun _ _ => rfl) (hheap _ (h.apart c b _ _ hr hb (fun q => e q.symm)))
  · intro c blk'' hr
    rw [St.rd_cons] at hr
    by_cases e : b = c
    · rw [if_pos e] at hr; cases hr; subst e; exact ⟨hin, (h.blA b blk hb).2⟩
    · rw [if_neg e] at hr; exact h.blA c blk'' hr
  · intro c c' k k' hr hr' hcc
    have g : ∀ d q, St.rd { st with bl := (b, some blk') :: st.bl } d = some q → ∃ q', st.rd d = some q' := by
      intro d q hd
      rw [St.rd_cons] at hd
      by_cases e : b = d
      · exact ⟨blk, e ▸ hb⟩
      · rw [if_neg e] at hd; exact ⟨q, hd⟩
    obtain ⟨q, hq⟩ := g c k hr
    obtain ⟨q', hq'⟩ := g c' k' hr'
    exact h.apart c c' q q' hq hq' hcc
  · intro c blk'' hr
    rw [St.rd_cons] at hr
    by_cases e : b = c
    · exact h.notS c blk (e ▸ hb)
    · rw [if_neg e] at hr; exact h.notS c blk'' hr
  · intro c blk'' hr
    rw [St.rd_cons] at hr
    by_cases e : b = c
    · exact h.mine c blk (e ▸ hb)
    · rw [if_neg e] at hr; exact h.mine c blk'' hr
  · intro k hk hn hx
    rw [hheap k ?_]
    · exact h.old k hk hn hx
    · intro e
      rcases h.mine b blk hb with hm | hm
      · omega
      · exact hn b hm (by rw [← (h.lentA b hm).2]; exact e.symm)
/-- A block is forgotten. -/
theorem RelOf.kill (h : RelOf X A σ S st a w) (b : Nat) : RelOf X A σ S { st with bl := (b, none) :: st.bl } a w := by
  have g : ∀ d q, St.rd { st with bl := (b, none) :: st.bl } d = some q → st.rd d = some q := by
    intro d q hd
    rw [St.rd_cons] at hd
    by_cases e : b = d
    · rw [if_pos e] at hd; cases hd
    · rwa [if_neg e] at hd
  exact { h with
    blks := fun c q hr => h.blks c q (g c q hr)
    blA := fun c q hr => h.blA c q (g c q hr)
    apart := fun c c' q q' hr hr' => h.apart c c' q q' (g c q hr) (g c' q' hr')
    notS := fun c q hr => h.notS c q (g c q hr)
    mine := fun c q hr => h.mine c q (g c q hr) }
/-- The block b stays as it is for good. -/
theorem RelOf.freeze (h : RelOf X A σ S st a w) (b : Nat) (blk : Blk) (hb : st.rd b = some blk) (hnl : st.nl.n ≤ b) : RelOf X A σ (fun k => S k ∨ k = .m (σ b).k) { st with bl := (b, none) :: st.bl } a w := by
  have hold : X.w0.heap.size ≤ (σ b).k := by
    rcases h.mine b blk hb with hm | hm
    · exact hm
    · have := h.nln; omega
  have g : ∀ d q, St.rd { st with bl := (b, none) :: st.bl } d = some q → st.rd d = some q ∧ d ≠ b := by
    intro d q hd
    rw [St.rd_cons] at hd
    by_cases e : b = d
    · rw [if_pos e] at hd; cases hd
    · rw [if_neg e] at hd; exact ⟨hd, fun q => e q.symm⟩
  exact { h with
    tmps := fun t av hl => let ⟨v, h1, h2⟩ := h.tmps t av hl; ⟨v, h1, h2.mono (h.tmA t av hl) (fun _ _ => rfl) (fun _ q => .inl q) (fun _ _ => rfl)⟩
    blks := fun c q hr => (h.blks c q (g c q hr).1).mono (h.blA c q (g c q hr).1).1 (h.blA c q (g c q hr).1).2 (fun _ _ => rfl) (fun _ q => .inl q) (fun _ _ => rfl) rfl
    blA := fun c q hr => h.blA c q (g c q hr).1
    apart := fun c c' q q' hr hr' => h.apart c c' q q' (g c q hr).1 (g c' q' hr').1
    notS := fun c q hr => by
      obtain ⟨h1, h2⟩ := g c q hr
      rintro y (h3 | rfl)
      · exact h.notS c q h1 y h3
      · exact fun e => h.apart c b q blk h1 hb h2 e.symm
    mine := fun c q hr => h.mine c q (g c q hr).1
    tg := fun e he => ⟨.inl (h.tg e he).1, (h.tg e he).2⟩
    glob := h.glob.mono (fun _ _ => rfl) (fun _ q => .inl q)
    inS := fun k hk => by
      rcases hk with hk | rfl
      · exact h.inS k hk
      · exact h.blkIn hb
    sok := by
      refine ⟨fun k t q1 q2 => ?_, fun k t t' q1 q2 => ?_⟩
      · rcases q1 with q1 | q1
        · rcases q2 with q2 | q2
          · exact h.sok.nm k t q1 q2
          · injection q2 with q2; exact h.notS b blk hb _ q1 q2
        · cases q1
      · rcases q1 with q1 | q1
        · rcases q2 with q2 | q2
          · exact h.sok.one k t t' q1 q2
          · cases q2
        · cases q1
    free := fun q k t q1 => by
      rcases q1 with q1 | q1
      · exact h.free q k t q1
      · cases q1
    oldS := fun k hk hlt => by
      rcases hk with hk | rfl
      · exact h.oldS k hk hlt
      · have : (σ b).k < X.w0.heap.size := hlt; omega }
/-- The block b becomes a row that one cell owns. -/
theorem RelOf.freezeT (h : RelOf X A σ S st a w) (ho : X.nl.own ≠ none) (tg : Nat) (b : Nat) (blk : Blk) (hb : st.rd b = some blk) (hnl : st.nl.n ≤ b) : RelOf X A σ (fun k => S k ∨ k = .t (σ b).k tg) { st with bl := (b, none) :: st.bl } a w := by
  have hold : X.w0.heap.size ≤ (σ b).k := by
    rcases h.mine b blk hb with hm | hm
    · exact hm
    · have := h.nln; omega
  have g : ∀ d q, St.rd { st with bl := (b, none) :: st.bl } d = some q → st.rd d = some q ∧ d ≠ b := by
    intro d q hd
    rw [St.rd_cons] at hd
    by_cases e : b = d
    · rw [if_pos e] at hd; cases hd
    · rw [if_neg e] at hd; exact ⟨hd, fun q => e q.symm⟩
  exact { h with
    tmps := fun t av hl => let ⟨v, h1, h2⟩ := h.tmps t av hl; ⟨v, h1, h2.mono (h.tmA t av hl) (fun _ _ => rfl) (fun _ q => .inl q) (fun _ _ => rfl)⟩
    blks := fun c q hr => (h.blks c q (g c q hr).1).mono (h.blA c q (g c q hr).1).1 (h.blA c q (g c q hr).1).2 (fun _ _ => rfl) (fun _ q => .inl q) (fun _ _ => rfl) rfl
    blA := fun c q hr => h.blA c q (g c q hr).1
    apart := fun c c' q q' hr hr' => h.apart c c' q q' (g c q hr).1 (g c' q' hr').1
    notS := fun c q hr => by
      obtain ⟨h1, h2⟩ := g c q hr
      rintro y (h3 | rfl)
      · exact h.notS c q h1 y h3
      · exact fun e => h.apart c b q blk h1 hb h2 e.symm
    mine := fun c q hr => h.mine c q (g c q hr).1
    tg := fun e he => ⟨.inl (h.tg e he).1, (h.tg e he).2⟩
    glob := h.glob.mono (fun _ _ => rfl) (fun _ q => .inl q)
    inS := fun k hk => by
      rcases hk with hk | rfl
      · exact h.inS k hk
      · exact h.blkIn hb
    sok := by
      refine ⟨fun k t q1 q2 => ?_, fun k t t' q1 q2 => ?_⟩
      · rcases q2 with q2 | q2
        · rcases q1 with q1 | q1
          · exact h.sok.nm k t q1 q2
          · injection q1 with q1; exact h.notS b blk hb _ q2 q1
        · cases q2
      · rcases q1 with q1 | q1 <;> rcases q2 with q2 | q2
        · exact h.sok.one k t t' q1 q2
        · injection q2 with q2; exact (h.notS b blk hb _ q1 q2).elim
        · injection q1 with q1; exact (h.notS b blk hb _ q2 q1).elim
        · injection q1 with _ q1; injection q2 with _ q2; exact q1.trans q2.symm
    free := fun q => (ho q).elim
    oldS := fun k hk hlt => by
      rcases hk with hk | rfl
      · exact h.oldS k hk hlt
      · have : (σ b).k < X.w0.heap.size := hlt; omega }
/-- The block b gets a new name. -/
theorem RelOf.rename (h : RelOf X A σ S st a w) (b x : Nat) (blk : Blk) (hb : st.rd b = some blk) (hx : ¬ A x) (hnl : st.nl.n ≤ b) :
    RelOf X (fun b => A b ∨ b = x) (upd σ x (σ b)) S { st with bl := (x, some blk) :: (b, none) :: st.bl } a w := by
  have hbx : b ≠ x := fun e => hx (e ▸ (h.blA b blk hb).2)
  have g : ∀ d q, St.rd { st with bl := (x, some blk) :: (b, none) :: st.bl } d = some q → (d = x ∧ q = blk) ∨ (st.rd d = some q ∧ d ≠ b ∧ d ≠ x) := by
    intro d q hd
    rw [show ({ st with bl := (x, some blk) :: (b, none) :: st.bl } : St) = { ({ st with bl := (b, none) :: st.bl } : St) with bl := (x, some blk) :: ({ st with bl := (b, none) :: st.bl } : St).bl } from rfl, St.rd_cons, St.rd_cons] at hd
    by_cases e : x = d
    · rw [if_pos e] at hd; cases hd; exact .inl ⟨e.symm, rfl⟩
    · rw [if_neg e] at hd
      by_cases e' : b = d
      · rw [if_pos e'] at hd; cases hd
      · rw [if_neg e'] at hd; exact .inr ⟨hd, fun q => e' q.symm, fun q => e q.symm⟩
  have hσ : ∀ c, A c → upd σ x (σ b) c = σ c := fun c hc => upd_ne fun e => hx (e ▸ hc)
  refine { h with tmps := ?_, tmA := ?_, blks := ?_, blA := ?_, apart := ?_, notS := ?_, mine := ?_, lentA := ?_ }
  · intro t av hl'
    obtain ⟨v, h1, h2⟩ := h.tmps t av hl'
    exact ⟨v, h1, h2.mono (h.tmA t av hl') (fun _ _ => rfl) (fun _ q => q) hσ⟩
  · exact fun t av hl' => (h.tmA t av hl').mono fun b hb => .inl hb
  · intro d q hr
    rcases g d q hr with ⟨rfl, rfl⟩ | ⟨h1, h2, h3⟩
    · have hm := (h.blks b q hb).mono (h.blA b q hb).1 (h.blA b q hb).2 (fun _ _ => rfl) (fun _ q => q) hσ rfl
      have he : upd σ d (σ b) d = upd σ d (σ b) b := by rw [upd_self, upd_ne hbx]
      unfold BlkRep at hm ⊢
      rw [he]
      exact hm
    · exact (h.blks d q h1).mono (h.blA d q h1).1 (h.blA d q h1).2 (fun _ _ => rfl) (fun _ q => q) hσ rfl
  · intro d q hr
    rcases g d q hr with ⟨rfl, rfl⟩ | ⟨h1, h2, h3⟩
    · exact ⟨Blk.inA_mono (fun b hb => .inl hb) (h.blA b q hb).1, .inr rfl⟩
    · exact ⟨Blk.inA_mono (fun b hb => .inl hb) (h.blA d q h1).1, .inl (h.blA d q h1).2⟩
  · intro d d' q q' hr hr' hdd
    rcases g d q hr with ⟨rfl, rfl⟩ | ⟨h1, h2, h3⟩
    · rcases g d' q' hr' with ⟨rfl, rfl⟩ | ⟨h1', h2', h3'⟩
      · exact absurd rfl hdd
      · rw [upd_self, upd_ne h3']; exact fun e => h.apart d' b _ _ h1' hb h2' e.symm
    · rcases g d' q' hr' with ⟨rfl, rfl⟩ | ⟨h1', h2', h3'⟩
      · rw [upd_self, upd_ne h3]; exact h.apart d b _ _ h1 hb h2
      · rw [upd_ne h3, upd_ne h3']; exact h.apart d d' _ _ h1 h1' hdd
  · intro d q hr
    rcases g d q hr with ⟨rfl, rfl⟩ | ⟨h1, h2, h3⟩
    · rw [upd_self]; exact h.notS b q hb
    · rw [upd_ne h3]; exact h.notS d q h1
  · intro d q hr
    rcases g d q hr with ⟨rfl, rfl⟩ | ⟨h1, h2, h3⟩
    · rw [upd_self]
      rcases h.mine b q hb with hm | hm
      · exact .inl hm
      · have := h.nln; omega
    · rw [upd_ne h3]; exact h.mine d q h1
  · intro c hc; exact ⟨.inl (h.lentA c hc).1, (hσ c (h.lentA c hc).1).trans (h.lentA c hc).2⟩
end Go.Abs
