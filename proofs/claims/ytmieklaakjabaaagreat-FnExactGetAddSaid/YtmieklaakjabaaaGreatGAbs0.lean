import Derived.Test.YtmieklaakjabaaaGreatGAbsT
import Derived.Orders
import Derived.Tactics
import Derived.Below
import Derived.Deep.MidRow
import Derived.Deep.AppendSrc
set_option linter.unusedSimpArgs false
set_option linter.unusedVariables false
namespace Go.Abs
open Go Go.RowKit
/-- A value of one cell that stays as it is: a literal, or a slice whose elements nobody writes any more. -/
inductive PV where
  | lit (v : Value)
  | sl (els : List (List PV))
  | own (t : Nat) (els : List (List PV))
def PV.isLit : PV → Bool
  | .lit _ => true
  | _ => false
def PV.notOwn : PV → Bool
  | .own _ _ => false
  | _ => true
/-- What is said of blocks: settled; a row that one cell alone owns, with its tag. -/
inductive Kx where
  | m (k : Nat)
  | t (k t : Nat)
def Kx.b : Kx → Nat
  | .m k => k
  | .t k _ => k
/-- Each block has one tag at most, and is not settled beside it. -/
structure SOk (S : Kx → Prop) : Prop where
  nm : ∀ k t, S (.t k t) → ¬ S (.m k)
  one : ∀ k t t', S (.t k t) → S (.t k t') → t = t'
def Free (S : Kx → Prop) : Prop := ∀ k t, ¬ S (.t k t)
theorem Free.ok {S : Kx → Prop} (h : Free S) : SOk S := ⟨fun k t q => (h k t q).elim, fun k t _ q => (h k t q).elim⟩
theorem SOk.of {S S' : Kx → Prop} (h : SOk S) (hs : ∀ k, S' k → S k) : SOk S' := ⟨fun k t q1 q2 => h.nm k t (hs _ q1) (hs _ q2), fun k t t' q1 q2 => h.one k t t' (hs _ q1) (hs _ q2)⟩
/-- One cell: a plain one; a slice onto a block of ours (from element lo on, n of them); a pointer to a cell of ours (element i, cell j). -/
inductive AC where
  | p (x : PV)
  | hs (b lo n : Nat)
  | hp (b i j : Nat)
  | fp (el : List PV) (j : Nat)
inductive AV where
  | one (c : AC)
  | agg (cs : List AC)
  | tup (vs : List AV)
  | clo (f : FuncId) (cs : List AC)
  | unk
inductive Blk where
  | arr (sz : Nat) (els : List (List PV))
  | box (cs : List AC)
structure Loc where
  k : Nat
  sz : Nat
  cap : Nat
inductive RepP (w : World) (S : Kx → Prop) : PV → Value → Prop
  | lit (v : Value) : RepP w S (.lit v) v
  | nil (a : Option Addr) (cap : Nat) : RepP w S (.sl []) (.slice a 0 cap)
  | sl (els : List (List PV)) (k off sz n cap : Nat) (cf : Nat → Nat → Value) (hn : els.length = n) (hcap : n ≤ cap) (hk : S (.m k))
      (hsz : ∀ (i : Nat) (el : List PV), els[i]? = some el → el.length = sz)
      (hc : ∀ (i : Nat) (el : List PV) (j : Nat) (x : PV), els[i]? = some el → el[j]? = some x → w.cell? ⟨k, off + (i * sz + j), none⟩ = some (cf i j) ∧ (cf i j).oneCell' = true)
      (hr : ∀ (i : Nat) (el : List PV) (j : Nat) (x : PV), els[i]? = some el → el[j]? = some x → RepP w S x (cf i j))
      (ho : ∀ (i : Nat) (el : List PV) (j : Nat) (x : PV), els[i]? = some el → el[j]? = some x → x.notOwn = true) : RepP w S (.sl els) (.slice (some ⟨k, off, none⟩) n cap)
  | own0 (t k : Nat) (hk : S (.t k t)) (a : Option Addr) (cap : Nat) : RepP w S (.own t []) (.slice a 0 cap)
  | own (t : Nat) (els : List (List PV)) (k sz n cap tot : Nat) (c : Array Value) (ty : TypeId) (fr : Nat × Nat) (hn : els.length = n) (hcap : n ≤ cap) (hct : cap ≤ tot) (hk : S (.t k t))
      (hb : w.heap[k]? = some (.cells c ty fr)) (hfr : ∀ o, (o < c.size ∨ (o = c.size ∧ sz ≠ 1)) → (fr.1 ≤ o && o < fr.2) = false) (hcs : c.size = tot * sz) (hone : ∀ v ∈ c, v.oneCell' = true)
      (hsz : ∀ (i : Nat) (el : List PV), els[i]? = some el → el.length = sz)
      (hc : ∀ (i : Nat) (el : List PV) (j : Nat) (x : PV), els[i]? = some el → el[j]? = some x → ∃ v, x = .lit v ∧ c[i * sz + j]? = some v) : RepP w S (.own t els) (.slice (some ⟨k, 0, none⟩) n cap)
inductive RepC (w : World) (S : Kx → Prop) (σ : Nat → Loc) : AC → Value → Prop
  | p {x : PV} {v : Value} (h : RepP w S x v) : RepC w S σ (.p x) v
  | hs (b lo n cap : Nat) (h : lo + cap ≤ (σ b).cap) (hn : n ≤ cap) : RepC w S σ (.hs b lo n) (.slice (some ⟨(σ b).k, lo * (σ b).sz, none⟩) n cap)
  | hs0 (b lo : Nat) (a : Option Addr) : RepC w S σ (.hs b lo 0) (.slice a 0 0)
  | hp (b i j : Nat) : RepC w S σ (.hp b i j) (.pointer (some ⟨(σ b).k, i * (σ b).sz + j, none⟩))
  | fp (el : List PV) (j k o : Nat) (hk : S (.m k)) (h : ∀ (i : Nat) (x : PV), el[i]? = some x → ∃ v, w.cell? ⟨k, o + i, none⟩ = some v ∧ RepP w S x v) : RepC w S σ (.fp el j) (.pointer (some ⟨k, o + j, none⟩))
inductive RepV (w : World) (S : Kx → Prop) (σ : Nat → Loc) : AV → Value → Prop
  | one {c : AC} {v : Value} (h : RepC w S σ c v) : RepV w S σ (.one c) v
  | agg (cs : List AC) (vs : Array Value) (hl : cs.length = vs.size) (h : ∀ (i : Nat) (c : AC) (v : Value), cs[i]? = some c → vs[i]? = some v → RepC w S σ c v) : RepV w S σ (.agg cs) (.agg vs)
  | tup (as : List AV) (vs : Array Value) (hl : as.length = vs.size) (h : ∀ (i : Nat) (a : AV) (v : Value), as[i]? = some a → vs[i]? = some v → RepV w S σ a v) : RepV w S σ (.tup as) (.tuple vs)
  | clo (f : FuncId) (cs : List AC) (vs : Array Value) (hl : cs.length = vs.size) (h : ∀ (i : Nat) (c : AC) (v : Value), cs[i]? = some c → vs[i]? = some v → RepC w S σ c v) : RepV w S σ (.clo f cs) (.func (.func f) #[] vs)
  | unk (v : Value) : RepV w S σ .unk v
def AC.inA (A : Nat → Prop) : AC → Prop
  | .p _ => True
  | .hs b _ _ => A b
  | .hp b _ _ => A b
  | .fp _ _ => True
inductive AV.InA (A : Nat → Prop) : AV → Prop
  | one {c : AC} (h : c.inA A) : InA A (.one c)
  | agg {cs : List AC} (h : ∀ c ∈ cs, c.inA A) : InA A (.agg cs)
  | tup {vs : List AV} (h : ∀ v ∈ vs, InA A v) : InA A (.tup vs)
  | clo {f : FuncId} {cs : List AC} (h : ∀ c ∈ cs, c.inA A) : InA A (.clo f cs)
  | unk : InA A .unk
def Blk.inA (A : Nat → Prop) : Blk → Prop
  | .arr _ _ => True
  | .box cs => ∀ c ∈ cs, c.inA A
def BlkRep (w : World) (S : Kx → Prop) (σ : Nat → Loc) (b : Nat) (blk : Blk) : Prop :=
  ∃ (c : Array Value) (ty : TypeId) (fr : Nat × Nat), w.heap[(σ b).k]? = some (.cells c ty fr) ∧ (∀ o, (o < c.size ∨ (o = c.size ∧ (σ b).sz ≠ 1)) → (fr.1 ≤ o && o < fr.2) = false) ∧ c.size = (σ b).cap * (σ b).sz ∧ (∀ v ∈ c, v.oneCell' = true) ∧
    match blk with
    | .arr sz els => (σ b).sz = sz ∧ els.length ≤ (σ b).cap ∧ ∀ (i : Nat) (el : List PV), els[i]? = some el → el.length = (σ b).sz ∧ ∀ (j : Nat) (x : PV), el[j]? = some x → ∃ v, c[i * (σ b).sz + j]? = some v ∧ RepP w S x v
    | .box cs => (σ b).cap = 1 ∧ cs.length = (σ b).sz ∧ ∀ (j : Nat) (x : AC), cs[j]? = some x → ∃ v, c[j]? = some v ∧ RepC w S σ x v
theorem RepP.mono {w w' : World} {S S' : Kx → Prop} {x : PV} {v : Value} (h : RepP w S x v) (hw : ∀ k, S k → w'.heap[k.b]? = w.heap[k.b]?) (hS : ∀ k, S k → S' k) : RepP w' S' x v := by
  induction h with
  | lit v => exact .lit v
  | nil a cap => exact .nil a cap
  | own0 t k hk a cap => exact .own0 t k (hS _ hk) a cap
  | own t els k sz n cap tot c ty fr hn hcap hct hk hb hfr hcs hone hsz hc => exact .own t els k sz n cap tot c ty fr hn hcap hct (hS _ hk) ((hw _ hk).trans hb) hfr hcs hone hsz hc
  | sl els k off sz n cap cf hn hcap hk hsz hc hr ho ih =>
    exact .sl els k off sz n cap cf hn hcap (hS _ hk) hsz (fun i el j x h1 h2 => ⟨(World.cell?_of_block (w := w) (hw _ hk)).trans (hc i el j x h1 h2).1, (hc i el j x h1 h2).2⟩) ih ho
theorem RepP.notOwn {w : World} {S : Kx → Prop} (hF : Free S) {x : PV} {v : Value} (h : RepP w S x v) : x.notOwn = true := by
  cases h with
  | own0 t k hk => exact (hF k t hk).elim
  | own t els k sz n cap tot c ty fr hn hcap hct hk => exact (hF k t hk).elim
  | _ => rfl
theorem RepC.mono {w w' : World} {S S' : Kx → Prop} {σ σ' : Nat → Loc} {A : Nat → Prop} {x : AC} {v : Value} (h : RepC w S σ x v) (hA : x.inA A) (hw : ∀ k, S k → w'.heap[k.b]? = w.heap[k.b]?) (hS : ∀ k, S k → S' k)
    (hσ : ∀ b, A b → σ' b = σ b) : RepC w' S' σ' x v := by
  cases h with
  | p h => exact .p (h.mono hw hS)
  | hs b lo n cap h hn => have e := hσ b hA; rw [← e] at h ⊢; exact .hs b lo n cap h hn
  | hs0 b lo a => exact .hs0 b lo a
  | hp b i j => have e := hσ b hA; rw [← e]; exact .hp b i j
  | fp el j k o hk h => exact .fp el j k o (hS _ hk) fun i x hi => let ⟨v, h1, h2⟩ := h i x hi; ⟨v, (World.cell?_of_block (w := w) (hw _ hk)).trans h1, h2.mono hw hS⟩
theorem RepV.mono {w w' : World} {S S' : Kx → Prop} {σ σ' : Nat → Loc} {A : Nat → Prop} {x : AV} {v : Value} (h : RepV w S σ x v) (hA : x.InA A) (hw : ∀ k, S k → w'.heap[k.b]? = w.heap[k.b]?) (hS : ∀ k, S k → S' k)
    (hσ : ∀ b, A b → σ' b = σ b) : RepV w' S' σ' x v := by
  induction h with
  | one h => cases hA with | one hA => exact .one (h.mono hA hw hS hσ)
  | agg cs vs hl h => cases hA with | agg hA => exact .agg cs vs hl fun i c v h1 h2 => (h i c v h1 h2).mono (hA c (List.mem_of_getElem? h1)) hw hS hσ
  | tup as vs hl h ih => cases hA with | tup hA => exact .tup as vs hl fun i c v h1 h2 => ih i c v h1 h2 (hA c (List.mem_of_getElem? h1))
  | clo f cs vs hl h => cases hA with | clo hA => exact .clo f cs vs hl fun i c v h1 h2 => (h i c v h1 h2).mono (hA c (List.mem_of_getElem? h1)) hw hS hσ
  | unk v => exact .unk v
theorem BlkRep.mono {w w' : World} {S S' : Kx → Prop} {σ σ' : Nat → Loc} {A : Nat → Prop} {b : Nat} {blk : Blk} (h : BlkRep w S σ b blk) (hA : blk.inA A) (hb : A b) (hw : ∀ k, S k → w'.heap[k.b]? = w.heap[k.b]?) (hS : ∀ k, S k → S' k)
    (hσ : ∀ b, A b → σ' b = σ b) (hsame : w'.heap[(σ b).k]? = w.heap[(σ b).k]?) : BlkRep w' S' σ' b blk := by
  obtain ⟨c, ty, fr, h1, h0, h2, h3, h4⟩ := h
  refine ⟨c, ty, fr, ?_, by rw [hσ b hb]; exact h0, ?_, h3, ?_⟩
  · rw [hσ b hb, hsame]; exact h1
  · rw [hσ b hb]; exact h2
  · cases blk with
    | arr sz els => rw [hσ b hb]; exact ⟨h4.1, h4.2.1, fun i el hi => ⟨(h4.2.2 i el hi).1, fun j x hj => let ⟨v, q1, q2⟩ := (h4.2.2 i el hi).2 j x hj; ⟨v, q1, q2.mono hw hS⟩⟩⟩
    | box cs => rw [hσ b hb]; exact ⟨h4.1, h4.2.1, fun j x hj => let ⟨v, q1, q2⟩ := h4.2.2 j x hj; ⟨v, q1, q2.mono (hA x (List.mem_of_getElem? hj)) hw hS hσ⟩⟩
theorem AC.inA_mono {A A' : Nat → Prop} (h : ∀ b, A b → A' b) {x : AC} (hx : x.inA A) : x.inA A' := by cases x <;> first | trivial | exact h _ hx
theorem AV.InA.mono {A A' : Nat → Prop} (h : ∀ b, A b → A' b) {x : AV} (hx : x.InA A) : x.InA A' := by
  induction hx with
  | one hc => exact .one (AC.inA_mono h hc)
  | agg hc => exact .agg fun c hm => AC.inA_mono h (hc c hm)
  | tup _ ih => exact .tup ih
  | clo hc => exact .clo fun c hm => AC.inA_mono h (hc c hm)
  | unk => exact .unk
theorem Blk.inA_mono {A A' : Nat → Prop} (h : ∀ b, A b → A' b) {x : Blk} (hx : x.inA A) : x.inA A' := by
  cases x with
  | arr => trivial
  | box cs => exact fun c hm => AC.inA_mono h (hx c hm)
/-- Look-up in a list of pairs; the first one counts. -/
def lk {α : Type} : List (Nat × α) → Nat → Option α
  | [], _ => none
  | (k, v) :: r, n => if k = n then some v else lk r n
/-- A row of numbers in the block k, which is somebody's own under the tag t: n of them are looked at, through the slice v. -/
structure Ex where
  k : Nat
  t : Nat
  n : Nat
  v : Value
/-- How many blocks were lent; the slot whose value is the tag of a row of one's own, where these are told apart. -/
structure NL where
  n : Nat
  own : Option Tmp
  tg : List Ex
instance (n : Nat) : OfNat NL n := ⟨⟨n, none, []⟩⟩
structure St where
  nt : Nat
  nl : NL
  tm : List (Nat × AV)
  bl : List (Nat × Option Blk)
def St.rd (st : St) (b : Nat) : Option Blk := (lk st.bl b).join
/-- The package's variables read as they were laid, and nobody writes them. -/
def Glob (w : World) (S : Kx → Prop) : Prop := (∀ g vs, lk gl g = some vs → S (.m g) ∧ ∃ ty fr, w.heap[g]? = some (.cells vs.toArray ty fr)) ∧
  ∀ g, g ∈ glw → S (.m g) ∧ ∃ t v ty fr, w.heap[g]? = some (.cells #[.iface t v] ty fr)
theorem Glob.mono {w w' : World} {S S' : Kx → Prop} (h : Glob w S) (hw : ∀ k, S k → w'.heap[k.b]? = w.heap[k.b]?) (hS : ∀ k, S k → S' k) : Glob w' S' := ⟨fun g vs hl =>
  let ⟨ty, fr, e⟩ := (h.1 g vs hl).2; ⟨hS _ (h.1 g vs hl).1, ty, fr, (hw _ (h.1 g vs hl).1).trans e⟩, fun g hl =>
  let ⟨t, v, ty, fr, e⟩ := (h.2 g hl).2; ⟨hS _ (h.2 g hl).1, t, v, ty, fr, (hw _ (h.2 g hl).1).trans e⟩⟩
def Ex.ok (e : Ex) (w : World) : Prop := (e.n = 0 ∧ ∃ a cap, e.v = .slice a 0 cap) ∨ ∃ (cap : Nat) (r : List Int) (c : Array Value) (ty : TypeId) (fr : Nat × Nat), e.v = .slice (some ⟨e.k, 0, none⟩) e.n cap ∧ e.n ≤ cap ∧ cap ≤ c.size ∧ r.length = e.n ∧
  w.heap[e.k]? = some (.cells c ty fr) ∧ (∀ o, o < c.size → (fr.1 ≤ o && o < fr.2) = false) ∧ (∀ v ∈ c, v.oneCell' = true) ∧ ∀ j, j < e.n → c[j]? = some (.int .i64 (r.getD j 0))
theorem Ex.ok.mono {e : Ex} {w w' : World} (h : e.ok w) (hw : w'.heap[e.k]? = w.heap[e.k]?) : e.ok w' := by
  rcases h with h | ⟨cap, r, c, ty, fr, h1, h2, h3, h4, h5, h6⟩
  · exact .inl h
  · exact .inr ⟨cap, r, c, ty, fr, h1, h2, h3, h4, hw.trans h5, h6⟩
/-- The call that we are in: its first world; the blocks that were lent to it (names 0 to nl - 1). -/
structure Ctx where
  w0 : World
  nl : NL
  σ0 : Nat → Loc
  S0 : Kx → Prop
structure RelOf (X : Ctx) (A : Nat → Prop) (σ : Nat → Loc) (S : Kx → Prop) (st : St) (a : Act) (w : World) : Prop where
  tmps : ∀ t av, lk st.tm t = some av → ∃ v, a.tmps[t]? = some v ∧ RepV w S σ av v
  tmA : ∀ t av, lk st.tm t = some av → av.InA A
  blks : ∀ b blk, st.rd b = some blk → BlkRep w S σ b blk
  blA : ∀ b blk, st.rd b = some blk → blk.inA A ∧ A b
  apart : ∀ b b' blk blk', st.rd b = some blk → st.rd b' = some blk' → b ≠ b' → (σ b).k ≠ (σ b').k
  notS : ∀ b blk, st.rd b = some blk → ∀ x, S x → x.b ≠ (σ b).k
  mine : ∀ b blk, st.rd b = some blk → X.w0.heap.size ≤ (σ b).k ∨ b < X.nl.n
  nl : st.nl = X.nl
  nt : a.tmps.size = st.nt
  lentA : ∀ b, b < X.nl.n → A b ∧ σ b = X.σ0 b
  inS : ∀ k, S k → k.b < w.heap.size
  sok : SOk S
  free : X.nl.own = none → Free S
  tg : ∀ e ∈ X.nl.tg, S (.t e.k e.t) ∧ e.ok w
  glob : Glob w S
  oldS : ∀ k, S k → k.b < X.w0.heap.size → X.S0 k
  os : w.os = X.w0.os
  tape : w.tape = X.w0.tape
  output : w.output = X.w0.output
  size : X.w0.heap.size ≤ w.heap.size
  old : ∀ k, k < X.w0.heap.size → (∀ l, l < X.nl.n → (X.σ0 l).k ≠ k) → (∀ t, ¬ X.S0 (.t k t)) → w.heap[k]? = X.w0.heap[k]?
  defers : a.defers = []
def RelA (X : Ctx) (A : Nat → Prop) (st : St) (a : Act) (w : World) : Prop := ∃ σ S, RelOf X A σ S st a w
theorem RelOf.nln {X : Ctx} {A : Nat → Prop} {σ : Nat → Loc} {S : Kx → Prop} {st : St} {a : Act} {w : World} (h : RelOf X A σ S st a w) : st.nl.n = X.nl.n := congrArg NL.n h.nl
/-- A draw of the tape changes nothing. -/
theorem RepP.drew {w : World} {S : Kx → Prop} {x : PV} {v : Value} (h : RepP w S x v) : RepP w.drew S x v := h.mono (fun _ _ => rfl) (fun _ h => h)
theorem RelOf.drew {X : Ctx} {A : Nat → Prop} {σ : Nat → Loc} {S : Kx → Prop} {st : St} {a : Act} {w : World} (h : RelOf X A σ S st a w) : RelOf X A σ S st a w.drew where
  tmps t av hl := let ⟨v, h1, h2⟩ := h.tmps t av hl; ⟨v, h1, h2.mono (h.tmA t av hl) (fun _ _ => rfl) (fun _ h => h) (fun _ _ => rfl)⟩
  tmA := h.tmA
  blks b blk hl := (h.blks b blk hl).mono (h.blA b blk hl).1 (h.blA b blk hl).2 (fun _ _ => rfl) (fun _ h => h) (fun _ _ => rfl) rfl
  blA := h.blA
  apart := h.apart
  notS := h.notS
  mine := h.mine
  nl := h.nl
  nt := h.nt
  lentA := h.lentA
  inS := h.inS
  sok := h.sok
  free := h.free
  tg := fun e he => ⟨(h.tg e he).1, (h.tg e he).2.mono rfl⟩
  glob := h.glob.mono (fun _ _ => rfl) (fun _ q => q)
  oldS := h.oldS
  os := h.os
  tape := h.tape
  output := h.output
  size := h.size
  old := h.old
  defers := h.defers
/-- A value goes into a slot. -/
theorem RelOf.put {X : Ctx} {A : Nat → Prop} {σ : Nat → Loc} {S : Kx → Prop} {st : St} {a : Act} {w : World} (h : RelOf X A σ S st a w) (dst : Option Tmp) (av : AV) (v : Value) (hv : RepV w S σ av v) (hA : av.InA A)
    (hd : ∀ d, dst = some d → d < st.nt) :
    RelOf X A σ S { st with tm := (dst.toList.map fun d => (d, av)) ++ st.tm } (a.put dst v) w := by
  cases dst with
  | none => exact { h with }
  | some d =>
    have hd := h.nt.symm ▸ hd d rfl
    refine { h with tmps := ?_, tmA := ?_, nt := ?_, defers := ?_ }
    · intro t av' hl
      simp only [Option.toList, List.map, List.cons_append, List.nil_append, lk] at hl
      by_cases e : d = t
      · rw [if_pos e] at hl
        obtain rfl := Option.some.inj hl
        subst e
        exact ⟨v, by simp [Act.put, hd], hv⟩
      · rw [if_neg e] at hl
        obtain ⟨u, h1, h2⟩ := h.tmps t av' hl
        exact ⟨u, by simp [Act.put, Array.getElem?_setIfInBounds_ne e, h1], h2⟩
    · intro t av' hl
      simp only [Option.toList, List.map, List.cons_append, List.nil_append, lk] at hl
      by_cases e : d = t
      · rw [if_pos e] at hl
        obtain rfl := Option.some.inj hl
        exact hA
      · rw [if_neg e] at hl
        exact h.tmA t av' hl
    · show (a.tmps.setIfInBounds d v).size = _
      rw [Array.size_setIfInBounds]
      exact h.nt
    · show a.defers = []
      exact h.defers
end Go.Abs
