import Derived.Test.YtmieklaakjabaaaGreatMC
set_option linter.unusedSimpArgs false
set_option linter.unusedVariables false
namespace Go.Abs.F
open Go Go.Abs Go.Proofs Go.RowKit
attribute [local irreducible] IntKind.wrap
theorem asc_len : ∀ {r : List Int} {a c : Int}, r.Pairwise (· < ·) → (∀ x ∈ r, a ≤ x) → (∀ x ∈ r, x < c) → a ≤ c → (r.length : Int) ≤ c - a
  | [], a, c, _, _, _, h => by simp; omega
  | x :: r, a, c, hp, hl, hh, h => by
    obtain ⟨h1, h2⟩ := List.pairwise_cons.1 hp
    have hx := hl x List.mem_cons_self
    have hx2 := hh x List.mem_cons_self
    have := asc_len (a := x + 1) h2 (fun y hy => by have := h1 y hy; omega) (fun y hy => hh y (List.mem_cons_of_mem _ hy)) (by omega)
    rw [List.length_cons]; omega
theorem asc_full : ∀ {r : List Int} {a c : Int}, r.Pairwise (· < ·) → (∀ x ∈ r, a ≤ x) → (∀ x ∈ r, x < c) → (r.length : Int) = c - a → ∀ y, a ≤ y → y < c → y ∈ r
  | [], a, c, _, _, _, h, y, h1, h2 => by simp at h; omega
  | x :: r, a, c, hp, hl, hh, h, y, h1, h2 => by
    obtain ⟨p1, p2⟩ := List.pairwise_cons.1 hp
    have hx := hl x List.mem_cons_self
    have hx2 := hh x List.mem_cons_self
    have hlen := asc_len (a := x + 1) p2 (fun y hy => by have := p1 y hy; omega) (fun y hy => hh y (List.mem_cons_of_mem _ hy)) (by omega)
    rw [List.length_cons] at h
    have hxa : x = a := by omega
    subst hxa
    by_cases e : y = x
    · subst e; exact List.mem_cons_self
    · exact List.mem_cons_of_mem _ (asc_full (a := x + 1) p2 (fun z hz => by have := p1 z hz; omega) (fun z hz => hh z (List.mem_cons_of_mem _ hz)) (by omega) y (by omega) h2)
theorem pvs_row {c : Int} {z : Nat} {es : List Eqn} (h : EqOk c z es) : RowP c (es.map pv) := by
  refine ⟨by rw [List.pairwise_map]; exact h.asc, fun x hx => ?_, fun x hx => ?_⟩
  · obtain ⟨e, he, rfl⟩ := List.mem_map.1 hx
    exact (h.row e he).1.lo _ (pv_mem (h.row e he).2.1)
  · obtain ⟨e, he, rfl⟩ := List.mem_map.1 hx
    exact (h.row e he).1.hi _ (pv_mem (h.row e he).2.1)
theorem eqs_len {c : Int} {z : Nat} {es : List Eqn} (h : EqOk c z es) (hc : 0 ≤ c) : (es.length : Int) ≤ c := by
  have hp := pvs_row h
  have := asc_len (a := 0) hp.asc hp.lo hp.hi hc
  rw [List.length_map] at this; omega
theorem sok_bd {c z : Int} {es : List Eqn} (h : SOk c z es) : SBd c z es := by
  have h1 := h.c1; have h2 := h.c2; have h3 := h.z1; have h4 := h.z2
  refine ⟨by have := eqs_len h.eq (by omega); omega, fun e he => ?_⟩
  obtain ⟨r1, r2, r3⟩ := h.eq.row e he
  exact ⟨by have := row_len (r1.mono h2); omega, by omega⟩
theorem get_of {c : Int} {z : Nat} {es : List Eqn} (h : EqOk c z es) {e : Eqn} (he : e ∈ es) {a : Int} (hr : e.r = [a]) : getE es a = some e.d := by
  unfold getE
  cases q : es.find? (fun e => decide (e.r = [a])) with
  | none =>
    have := List.find?_eq_none.1 q e he
    simp [hr] at this
  | some f =>
    have hf := List.mem_of_find?_eq_some q
    have hf2 : f.r = [a] := by simpa using List.find?_some q
    have : pv f = pv e := by unfold pv; rw [hf2, hr]
    rw [h.pv_inj hf he this]; rfl
theorem get_inv {es : List Eqn} {a : Int} (h : (getE es a).isSome = true) : ∃ e ∈ es, e.r = [a] ∧ getE es a = some e.d := by
  unfold getE at h ⊢
  cases q : es.find? (fun e => decide (e.r = [a])) with
  | none => rw [q] at h; cases h
  | some f => exact ⟨f, List.mem_of_find?_eq_some q, by simpa using List.find?_some q, rfl⟩
theorem get_top {c : Int} {z : Nat} {es : List Eqn} (h : EqOk c z es) {a : Int} (ha : c ≤ a) : (getE es a).isSome = false := by
  cases q : (getE es a).isSome with
  | false => rfl
  | true =>
    obtain ⟨e, he, hr, _⟩ := get_inv q
    have := (h.row e he).1.hi a (by rw [hr]; exact List.mem_singleton.2 rfl)
    omega
theorem prefix_ex {c z : Int} {es : List Eqn} (h : SOk c z es) : ∃ n, PreP es n ∧ (n : Int) ≤ c := by
  have h1 := h.c1
  obtain ⟨n, hn, hc⟩ := pre_ex (es := es) (c := c.toNat) (get_top h.eq (by omega))
  exact ⟨n, hn, by omega⟩
theorem PreP.uniq {es : List Eqn} {n m : Nat} (h : PreP es n) (g : PreP es m) : n = m := by
  rcases Nat.lt_trichotomy n m with q | q | q
  · have := g.yes n q; rw [h.no] at this; cases this
  · exact q
  · have := h.yes m q; rw [g.no] at this; cases this
theorem done_iff {c z : Int} {es : List Eqn} (h : SOk c z es) {n : Nat} (hn : PreP es n) (hc : (n : Int) ≤ c) : (n : Int) = c ↔ (es.length : Int) = c := by
  have hp := pvs_row h.eq
  have h1 := h.c1
  constructor
  · intro e
    have hall : ∀ y : Int, 0 ≤ y → y < c → y ∈ es.map pv := fun y h0 h2 => by
      have := hn.yes y.toNat (by omega)
      rw [show ((y.toNat : Nat) : Int) = y by omega] at this
      obtain ⟨e, he, hr, _⟩ := get_inv this
      exact List.mem_map.2 ⟨e, he, by unfold pv; rw [hr]; rfl⟩
    have : es.map pv = rng c.toNat := asc_ext hp.asc (by
      unfold rng
      rw [List.pairwise_map]
      exact List.Pairwise.imp (fun h => Int.ofNat_lt.2 h) List.pairwise_lt_range) fun y => ⟨fun hy => rng_mem.2 ⟨hp.lo y hy, by have := hp.hi y hy; omega⟩, fun hy => by
        obtain ⟨a1, a2⟩ := rng_mem.1 hy
        exact hall y a1 (by omega)⟩
    have := congrArg List.length this
    rw [List.length_map, rng_len] at this
    omega
  · intro e
    rcases Int.lt_or_le n c with q | q
    · have hf := asc_full (a := 0) hp.asc hp.lo hp.hi (by rw [List.length_map]; omega)
      obtain ⟨x, hx, hpx⟩ := List.mem_map.1 (hf n (by omega) q)
      have hrow := (h.eq.row x hx).1
      have hr : x.r = [(n : Int)] := by
        refine asc_ext hrow.asc (List.pairwise_singleton ..) fun y => ⟨fun hy => ?_, fun hy => ?_⟩
        · obtain ⟨f, hf2, hpf⟩ := List.mem_map.1 (hf y (hrow.lo y hy) (hrow.hi y hy))
          have := h.eq.apart hf2 hx (hpf ▸ hy)
          subst this
          rw [List.mem_singleton]; omega
        · rw [List.mem_singleton.1 hy, ← hpx]
          exact pv_mem (h.eq.row x hx).2.1
      have := hn.no
      rw [get_of h.eq hx hr] at this
      cases this
    · omega
/-- What was known stays known. -/
theorem get_keeps {c : Int} {z : Nat} {es : List Eqn} (h : EqOk c z es) {t : Eqn} (ht : RedP c z es (t.r, t.d)) (hne : t.r ≠ []) {a : Int} (hs : (getE es a).isSome = true) : getE (addE es t) a = getE es a := by
  obtain ⟨e, he, hr, hd⟩ := get_inv hs
  have hpe : pv e = a := by unfold pv; rw [hr]; rfl
  have hno : pv t ∉ e.r := fun q => by
    rw [hr, List.mem_singleton] at q
    exact ht.no e he (by rw [hpe, ← q]; exact pv_mem hne)
  have hmem : e ∈ addE es t := mem_insE.2 (.inr (List.mem_map.2 ⟨e, he, if_neg hno⟩))
  rw [hd, get_of (addE_ok h ht hne) hmem hr]
/-- The first n blocks. -/
def catE (es : List Eqn) : Nat → ByteArray
  | 0 => ByteArray.empty
  | n + 1 => catE es n ++ (getE es n).getD ByteArray.empty
theorem catE_size {c : Int} {z : Nat} {es : List Eqn} (h : EqOk c z es) : ∀ n, (catE es n).size ≤ n * z
  | 0 => Nat.zero_le _
  | n + 1 => by
    have ih := catE_size h n
    have hb : ((getE es n).getD ByteArray.empty).size ≤ z := by
      cases q : (getE es n).isSome with
      | false =>
        rw [Option.isSome_eq_false_iff, Option.isNone_iff_eq_none] at q
        rw [q]; exact Nat.zero_le _
      | true =>
        obtain ⟨e, he, _, hd⟩ := get_inv q
        rw [hd]
        show e.d.size ≤ z
        rw [(h.row e he).2.2]; exact Nat.le_refl _
    show (catE es n ++ _).size ≤ (n + 1) * z
    rw [ByteArray.size_append, Nat.add_mul]; omega
theorem catE_eq {es es' : List Eqn} : ∀ {n : Nat}, (∀ i : Nat, i < n → getE es' i = getE es i) → catE es' n = catE es n
  | 0, _ => rfl
  | n + 1, h => by
    show catE es' n ++ _ = catE es n ++ _
    rw [catE_eq fun i hi => h i (by omega), h n (by omega)]
theorem catE_more (es : List Eqn) (n : Nat) : ∀ m, ∃ b, catE es (n + m) = catE es n ++ b
  | 0 => ⟨ByteArray.empty, by simp⟩
  | m + 1 => by
    obtain ⟨b, hb⟩ := catE_more es n m
    exact ⟨b ++ (getE es ((n + m : Nat) : Int)).getD ByteArray.empty, by show catE es (n + m) ++ _ = _; rw [hb, ByteArray.append_assoc]; rfl⟩
/-- Of what was learnt: what GetAdd leaves is ok. -/
theorem addR_ok {c z : Int} {es : List Eqn} (h : SOk c z es) {r : List Int} {d : ByteArray} (hr : RowP c r) (hd : d.size = z.toNat) {A : List Eqn × Int} (hA : A = addR es (red es (r, d)) z.toNat) : SOk c z A.1 ∧ ∀ a : Int, (getE es a).isSome = true → getE A.1 a = getE es a := by
  have hR := red_ok h.eq hr hd
  unfold addR at hA
  by_cases q : (red es (r, d)).1 = []
  · rw [if_pos q] at hA
    subst hA
    exact ⟨h, fun _ _ => rfl⟩
  · rw [if_neg q] at hA
    subst hA
    exact ⟨⟨h.c1, h.c2, h.z1, h.z2, addE_ok h.eq hR q⟩, fun a ha => get_keeps h.eq hR q ha⟩
end Go.Abs.F

set_option linter.unusedSimpArgs false
set_option linter.unusedVariables false
namespace Go.Abs.F
open Go Go.Abs Go.Proofs Go.RowKit
attribute [local irreducible] IntKind.wrap
/-- An equation whose row the cell owns, with tag t. -/
def eO (t : Nat) (x : Eqn) : List PV := [.own t (x.r.map eI), .lit (.string x.d)]
def oE (ts : List Nat) (es : List Eqn) : List (List PV) := List.zipWith eO ts es
theorem oE_snoc {ts : List Nat} {es : List Eqn} (h : ts.length = es.length) (t : Nat) (x : Eqn) : oE (ts ++ [t]) (es ++ [x]) = oE ts es ++ [eO t x] := by
  unfold oE; rw [List.zipWith_append h]; rfl
theorem oE_len {ts : List Nat} {es : List Eqn} (h : ts.length = es.length) : (oE ts es).length = es.length := by
  unfold oE; rw [List.length_zipWith, h, Nat.min_self]
theorem oE_two (ts : List Nat) (es : List Eqn) : ∀ x ∈ oE ts es, x.length = 2 := fun x hx => by
  obtain ⟨i, hi⟩ := List.mem_iff_getElem?.1 hx
  unfold oE at hi
  rw [List.getElem?_zipWith] at hi
  split at hi
  · cases hi; rfl
  · cases hi
theorem lits_eI (r : List Int) : ∀ el ∈ r.map eI, ∀ x ∈ el, x.isLit = true := fun el hel x hx => by
  obtain ⟨a, _, rfl⟩ := List.mem_map.1 hel
  cases List.mem_singleton.1 hx; rfl
theorem frzO (r : List Int) : List.take (0 + (r.map eI).length) ([] ++ r.map eI) = r.map eI := by
  rw [List.nil_append, Nat.zero_add, List.take_length]
theorem litsO (r : List Int) : 0 = 0 ∧ 0 + (r.map eI).length ≤ ([] ++ r.map eI).length ∧ ∀ el ∈ List.take (0 + (r.map eI).length) ([] ++ r.map eI), ∀ x ∈ el, x.isLit = true :=
  ⟨rfl, by rw [List.nil_append]; omega, by rw [frzO]; exact lits_eI r⟩
set_option maxHeartbeats 16000000 in
set_option maxRecDepth 100000 in
theorem implClone_o (c z : Int) (es : List Eqn) (hB : SBd c z es) : GoodO true Tryz.prog 66 [solF c z es] [] (.agg [.p (.lit (.int .i64 c)), .p (.lit (.int .i64 z)), .hs 0 0 es.length]) [.arr 2 (oE (List.range es.length) es)] := by
  have hm : (es.map eE).length = es.length := List.length_map ..
  have hn := hB.n
  refine good_eO (some 15) noM Tryz.func66 rfl rfl ?_
  conv => whnf
  refine VLoop.enter [2, 3, 13, 14, 15] ?_
  conv => whnf
  refine VLoop.ind3 (n0 := 3) (α := Int) (β := Nat) (γ := List (List PV)) noM [2, 3, 13, 14, 15] (fun i n E => ⟨33, ⟨0, some 15, []⟩, [(2, .one (.hp 0 0 0)), (3, .one (.hp 1 0 0)), (13, .one (.p (.sl (es.map eE)))), (14, vint (es.map eE).length), (15, vint i)],
      [(0, some (.box [.p (.lit (.int .i64 0)), .p (.lit (.int .i64 0)), .p (.lit (.slice none 0 0))])), (1, some (.box [.p (.lit (.int .i64 c)), .p (.lit (.int .i64 z)), .hs 2 0 n])), (2, some (.arr 2 E))]⟩)
    (fun i n E => ∃ j : Nat, i = j ∧ j ≤ es.length ∧ n = j ∧ E = oE (List.range j) (es.take j)) (fun i _ _ => ((es.length : Int) - i).toNat) ?_ 0 0 [] ⟨0, rfl, by omega, rfl, rfl⟩
  rintro _ n _ ⟨i, rfl, hi, hn2, rfl⟩
  subst hn2
  have hwi : IntKind.i64.wrap ((n : Int) + 1) = ((n + 1 : Nat) : Int) := by rw [wrap_in _ (by omega) (by omega)]; omega
  have htr : (List.range n).length = (es.take n).length := by rw [List.length_range, List.length_take]; omega
  have htl : (oE (List.range n) (es.take n)).length = n := by rw [oE_len htr, List.length_take]; omega
  conv => whnf
  rw [hm]
  split
  · rename_i q1
    have q1' := of_decide_eq_true q1
    have en : (n : Int).toNat = n := Int.toNat_natCast n
    obtain ⟨x, hx⟩ : ∃ x, es[n]? = some x := ⟨_, List.getElem?_eq_getElem (by omega)⟩
    have hxm := mem_at hx
    obtain ⟨hxr, hxd⟩ := hB.r x hxm
    have hxl : (x.r.map eI).length = x.r.length := List.length_map ..
    conv => whnf
    refine ⟨by omega, by rw [hm]; omega, _, atE es en hx, ?_⟩
    conv => whnf
    refine VDraw.goR [0, 1, 0, 0, 8, 28, 0, 64, 252, 508, 1023, 2047, 4095] [2, 5, 9, 10, 12] [(5, [2]), (9, [5])] [(10, [2]), (12, [1])] rfl (by decide +kernel) ?_
    conv => whnf
    refine ⟨⟨rfl, rfl, rfl⟩, trivial, ?_⟩
    conv => whnf
    refine ⟨(fun q => by cases q), app3 (by rw [hxl]; show 0 + x.r.length ≤ _; omega), eI_len x.r, ?_⟩
    conv => whnf
    refine ⟨⟨litsO x.r, trivial, trivial⟩, ?_⟩
    conv => whnf
    refine ⟨⟨rfl, htl.symm, rfl⟩, Nat.le_refl 1, ?_⟩
    conv => whnf
    refine ⟨(fun q => by cases q), appE (show (oE (List.range n) (es.take n)).length + 1 ≤ _ by rw [htl]; omega), fun el hel => by cases List.mem_singleton.1 hel; rfl, ?_⟩
    conv => whnf
    refine ⟨_, _, _, rfl, rfl, ⟨n + 1, by rw [hwi], by omega, ?_, ?_⟩, by rw [hwi]; omega⟩
    · show (oE (List.range n) (es.take n)).length + 1 = n + 1
      rw [htl]
    · rw [take_snoc hx, List.range_succ, oE_snoc htr]
      refine congrArg (fun r => oE (List.range n) (es.take n) ++ [r]) ?_
      show [PV.own n _, _] = [PV.own n _, _]
      exact congrArg (fun r => [PV.own n r, PV.lit (.string x.d)]) (frzO x.r)
  · rename_i q1
    have q1' := of_decide_eq_false q1
    have e : n = es.length := by omega
    subst e
    rw [List.take_length]
    conv => whnf
    refine ⟨⟨⟨by decide +kernel, Nat.le_of_ble_eq_true rfl⟩, trivial⟩, ?_⟩
    conv => whnf
    exact ⟨rfl, rfl⟩
end Go.Abs.F

set_option linter.unusedSimpArgs false
set_option linter.unusedVariables false
namespace Go.Abs.F
open Go Go.Abs Go.Proofs Go.RowKit
attribute [local irreducible] IntKind.wrap
theorem fgt_els {els els' : List (List PV)} (hl : els'.length = els.length) (h : ∀ (i : Nat) (el el' : List PV), els[i]? = some el → els'[i]? = some el' → el'.length = el.length ∧ ∀ (j : Nat) (x x' : PV), el[j]? = some x → el'[j]? = some x' → FgtP x x') : FgtP (.sl els) (.sl els') := by
  have at1 : ∀ i el', els'[i]? = some el' → ∃ el, els[i]? = some el := fun i el' q => by
    have := (List.getElem?_eq_some_iff.1 q).1
    exact ⟨_, List.getElem?_eq_getElem (by omega)⟩
  refine .sl els els' (fun i j => ((els[i]?.getD [])[j]?).getD (.lit (.bool false))) hl (fun i el' q => ?_) (fun i el el' j x' q1 q2 q3 => ?_) (fun i el' j x' q1 q2 => ?_)
  · obtain ⟨el, e⟩ := at1 i el' q
    exact ⟨el, e, (h i el el' e q).1⟩
  · have := (List.getElem?_eq_some_iff.1 q3).1
    rw [(h i el el' q1 q2).1] at this
    rw [q1, Option.getD_some, List.getElem?_eq_getElem this, Option.getD_some]
  · obtain ⟨el, e⟩ := at1 i el' q1
    have := (List.getElem?_eq_some_iff.1 q2).1
    rw [(h i el el' e q1).1] at this
    rw [e, Option.getD_some, List.getElem?_eq_getElem this, Option.getD_some]
    exact (h i el el' e q1).2 j _ x' (List.getElem?_eq_getElem this) q2
theorem fgt_int (r : List Int) {E : List (List PV)} (h : E = r.map eI) : FgtP (.sl E) (slI r) := by
  subst h
  refine fgt_els rfl fun i el el' q1 q2 => ?_
  rw [q1] at q2
  cases q2
  refine ⟨rfl, fun j x x' q3 q4 => ?_⟩
  rw [q3] at q4
  cases q4
  rw [List.getElem?_map] at q1
  cases hr : r[i]? with
  | none => rw [hr] at q1; cases q1
  | some a =>
    rw [hr] at q1
    cases q1
    rcases j with _ | j
    · cases q3; exact .lit _
    · cases q3
theorem fgt_eqn {e e' : List PV} (r : List Int) (d : ByteArray) (h : e = [slI r, .lit (.string d)] ∨ ∃ t, e = [.own t (r.map eI), .lit (.string d)]) (h2 : e' = [slI r, .lit (.string d)]) : e'.length = e.length ∧ ∀ (j : Nat) (x x' : PV), e[j]? = some x → e'[j]? = some x' → FgtP x x' := by
  subst h2
  rcases h with rfl | ⟨t, rfl⟩
  · refine ⟨rfl, fun j x x' q1 q2 => ?_⟩
    rcases j with _ | _ | j
    · cases q1; cases q2; exact fgt_int r rfl
    · cases q1; cases q2; exact .lit _
    · cases q1
  · refine ⟨rfl, fun j x x' q1 q2 => ?_⟩
    rcases j with _ | _ | j
    · cases q1; cases q2; exact .own _ _
    · cases q1; cases q2; exact .lit _
    · cases q1
theorem fgt_eE (es : List Eqn) {E : List (List PV)} (h : E = es.map eE) : FgtP (.sl E) (.sl (es.map eE)) := by
  subst h
  refine fgt_els rfl fun i el el' q1 q2 => ?_
  rw [q1] at q2
  cases q2
  rw [List.getElem?_map] at q1
  cases hr : es[i]? with
  | none => rw [hr] at q1; cases q1
  | some a => rw [hr] at q1; cases q1; exact fgt_eqn a.r a.d (.inl rfl) rfl
theorem fgt_oE (ts : List Nat) (es : List Eqn) (hl : ts.length = es.length) {E : List (List PV)} (h : E = oE ts es) : FgtP (.sl E) (.sl (es.map eE)) := by
  subst h
  refine fgt_els (by rw [oE_len hl, List.length_map]) fun i el el' q1 q2 => ?_
  rw [List.getElem?_map] at q2
  unfold oE at q1
  rw [List.getElem?_zipWith] at q1
  cases hr : es[i]? with
  | none => rw [hr] at q2; cases q2
  | some a =>
    rw [hr] at q2
    cases q2
    cases ht : ts[i]? with
    | none => rw [ht] at q1; cases q1
    | some t => rw [ht, hr] at q1; cases q1; exact fgt_eqn a.r a.d (.inr ⟨t, rfl⟩) rfl
theorem fgtL (v : Value) : FgtC (.p (.lit v)) (.p (.lit v)) := .p (.lit v)
theorem fgtV1 (v : Value) : FgtV (lit v) (lit v) := .one (.p (.lit v))
theorem fgtR (r : List Int) : FgtV (.one (.p (slI r))) (.one (.p (slI r))) := .one (.p (fgt_int r rfl))
theorem fgtS (c z : Int) (es : List Eqn) : FgtV (solF c z es) (solF c z es) := .agg (.cons (fgtL _) (.cons (fgtL _) (.cons (.p (fgt_eE es rfl)) .nil)))
theorem fgt1 {a b : AV} (h : FgtV a b) : FgtVs [a] [b] := .cons h .nil
theorem fgt2 {a b a' b' : AV} (h : FgtV a b) (h' : FgtV a' b') : FgtVs [a, a'] [b, b'] := .cons h (.cons h' .nil)
theorem fgt3 {a b a' b' c c' : AV} (h : FgtV a b) (h' : FgtV a' b') (h2 : FgtV c c') : FgtVs [a, a', c] [b, b', c'] := .cons h (.cons h' (.cons h2 .nil))
theorem arrI_noSl (r : List Int) : ∀ k ∈ [Blk.arr 1 (r.map eI)], k.noSl := fun k hk => by
  cases List.mem_singleton.1 hk
  intro el hel x hx
  obtain ⟨a, _, rfl⟩ := List.mem_map.1 hel
  cases List.mem_singleton.1 hx; trivial
theorem arrO_noSl (ts : List Nat) (es : List Eqn) : ∀ k ∈ [Blk.arr 2 (oE ts es)], k.noSl := fun k hk => by
  cases List.mem_singleton.1 hk
  intro el hel x hx
  obtain ⟨i, hi⟩ := List.mem_iff_getElem?.1 hel
  unfold oE at hi
  rw [List.getElem?_zipWith] at hi
  split at hi
  · cases hi
    rcases List.mem_cons.1 hx with rfl | hx
    · trivial
    · cases List.mem_singleton.1 hx; trivial
  · cases hi
end Go.Abs.F

set_option linter.unusedSimpArgs false
set_option linter.unusedVariables false
namespace Go.Abs.F
open Go Go.Abs Go.Proofs Go.RowKit
attribute [local irreducible] IntKind.wrap
/-- Where the tag of a row stands, once one more is put among them. -/
def insT (n i : Nat) : List Nat := (List.range n).take i ++ n :: (List.range n).drop i
theorem insT_len {n i : Nat} (h : i ≤ n) : (insT n i).length = n + 1 := by
  unfold insT; rw [List.length_append, List.length_take, List.length_cons, List.length_drop, List.length_range]; omega
theorem insT_nodup (n i : Nat) : (insT n i).Nodup := by
  unfold insT
  refine (List.perm_middle (a := n) (l₁ := (List.range n).take i) (l₂ := (List.range n).drop i)).nodup_iff.2 ?_
  rw [List.take_append_drop]
  exact List.nodup_cons.2 ⟨fun h => by have := List.mem_range.1 h; omega, List.nodup_range⟩
theorem addE_list {c : Int} {z : Nat} {es : List Eqn} (h : EqOk c z es) {t : Eqn} (ht : RedP c z es (t.r, t.d)) (hne : t.r ≠ []) : addE es t = (es.map (sub1 t)).take (cntL t es) ++ t :: (es.map (sub1 t)).drop (cntL t es) := by
  have hs := fun {e : Eqn} (he : e ∈ es) => sub1_ok h ht hne he
  have hmap : ∀ f ∈ es.map (sub1 t), ∃ e ∈ es, f = sub1 t e := fun f hf => by
    obtain ⟨e, he, rfl⟩ := List.mem_map.1 hf; exact ⟨e, he, rfl⟩
  have hasc : (es.map (sub1 t)).Pairwise fun a b => pv a < pv b := by
    rw [List.pairwise_map]
    refine List.Pairwise.imp_of_mem (fun {a b} ha hb hab => ?_) h.asc
    rw [(hs ha).pv_, (hs hb).pv_]; exact hab
  unfold addE
  rw [insE_at hasc, cntL_map fun e he => (hs he).pv_]
  intro f hf
  obtain ⟨e, he, rfl⟩ := hmap f hf
  rw [(hs he).pv_]
  exact fun q => ht.no e he (q ▸ pv_mem hne)
theorem addO_at {c : Int} {z : Nat} {es : List Eqn} (h : EqOk c z es) {t : Eqn} (ht : RedP c z es (t.r, t.d)) (hne : t.r ≠ []) : insAt (oE (List.range es.length) (es.map (sub1 t))) (cntL t es) (eO es.length t) = oE (insT es.length (cntL t es)) (addE es t) := by
  rw [addE_list h ht hne]
  unfold insAt insT oE
  rw [List.zipWith_append (by rw [List.length_take, List.length_take, List.length_range, List.length_map]), List.zipWith_cons_cons, List.take_zipWith, List.drop_zipWith]
theorem takeI1 (u : List Int) : List.take u.length (u.map eI) = u.map eI := List.take_of_length_le (by rw [List.length_map]; exact Nat.le_refl _)
theorem litsT (u : List Int) : 0 = 0 ∧ u.length ≤ (u.map eI).length ∧ ∀ el ∈ List.take u.length (u.map eI), ∀ x ∈ el, x.isLit = true :=
  ⟨rfl, by rw [List.length_map]; exact Nat.le_refl _, by rw [takeI1]; exact lits_eI u⟩
set_option maxHeartbeats 16000000 in
set_option maxRecDepth 100000 in
theorem implAdd_o (c z : Int) (es : List Eqn) (hB : SBd c z es) (h : SOk c z es) (r : List Int) (d : ByteArray) (hr : RowP c r) (hd : d.size = z.toNat) (q : List Int × ByteArray) (hq : q = red es (r, d)) (A : List Eqn × Int) (hA : A = addR es q z.toNat) :
    ∃ ts : List Nat, ts.Nodup ∧ ts.length = A.1.length ∧ GoodO true Tryz.prog 30 [solF c z es, .one (.p (slI r)), vstr d] [] (.tup [.agg [.p (.lit (.int .i64 c)), .p (.lit (.int .i64 z)), .hs 0 0 A.1.length], vint A.2]) [.arr 2 (oE ts A.1)] := by
  have hm : (es.map eE).length = es.length := List.length_map ..
  have hn := eqs_len0 h
  have hz1 := h.z1; have hz2 := h.z2; have hc2 := h.c2; have hc1 := h.c1
  have hR : RedP c z.toNat es q := hq ▸ red_ok h.eq hr hd
  have hr24 : RowP 24 r := hr.mono hc2
  have hrl := row_len hr24
  have hrm : (r.map eI).length = r.length := List.length_map ..
  obtain ⟨u, e⟩ := q
  have hu24 : RowP 24 u := hR.row.mono hc2
  have hul := row_len hu24
  have hes : e.size = z.toNat := hR.dat
  have hum : (u.map eI).length = u.length := List.length_map ..
  have gl := reduce_ok c z es hB z.toNat h.eq hc2 (by omega) r d hr hd (u, e) hq
  simp only at gl
  obtain ⟨zc, hzc⟩ : ∃ zc : Nat, z = zc := ⟨z.toNat, by omega⟩
  have hzt : z.toNat = zc := by omega
  have hdz : ((d.size : Int) != z) = false := by
    cases q : ((d.size : Int) != z) with
    | false => rfl
    | true => have := bne_iff_ne.1 q; omega
  have fin : ∃ ts : List Nat, ts.Nodup ∧ ts.length = A.1.length ∧ (u = [] → ts = List.range es.length) ∧ (u ≠ [] → ts = insT es.length (cntL ⟨u, e⟩ es)) := by
    by_cases hh : u = []
    · refine ⟨List.range es.length, List.nodup_range, ?_, fun _ => rfl, fun h2 => absurd hh h2⟩
      have hA2 : A = (es, if e = zs zc then 1 else 2) := by rw [hA, ← hzt]; exact if_pos hh
      rw [hA2, List.length_range]
    · refine ⟨insT es.length (cntL ⟨u, e⟩ es), insT_nodup _ _, ?_, fun h2 => absurd h2 hh, fun _ => rfl⟩
      have hA2 : A = (addE es ⟨u, e⟩, 0) := by rw [hA]; exact if_neg hh
      rw [hA2, insT_len (cntL_le _ _), addE_list h.eq (t := ⟨u, e⟩) hR hh, List.length_append, List.length_take, List.length_cons, List.length_drop, List.length_map]
      have := cntL_le ⟨u, e⟩ es
      omega
  obtain ⟨ts, htsn, htsl, hv1, hv2⟩ := fin
  refine ⟨ts, htsn, htsl, ?_⟩
  refine good_eO (some 62) iM Tryz.func30 rfl rfl ?_
  conv => whnf
  refine .own _ (fgt2 (fgtR _) (fgtV1 _)) _ _ Tryz.call67 ((implRow_ok r c (by omega) (by omega) (by omega) true ⟨fun _ => ⟨hr, by omega, hc2⟩, fun _ => rfl⟩)).up (Nat.le_of_ble_eq_true rfl) (AV.nsB_iff rfl) (fun k hk => by cases hk) ?_
  conv => whnf
  rw [hdz]
  conv => whnf
  refine VDraw.goR [0, 0, 2, 0, 15, 31, 63, 63, 127, 511] [2, 4] [] [] rfl (by decide +kernel) ?_
  conv => whnf
  refine .own _ (fgt1 (fgtR _)) _ _ Tryz.call69 ((mask_ok r (by omega) hr24)).up (Nat.le_of_ble_eq_true rfl) (AV.nsB_iff rfl) (fun k hk => by cases hk) ?_
  conv => whnf
  refine .own _ (fgt3 (fgtS _ _ _) (fgtV1 _) (fgtV1 _)) _ _ Tryz.call68 (gl).up (Nat.le_of_ble_eq_true rfl) (AV.nsB_iff rfl) (fun k hk => by cases hk) ?_
  conv => whnf
  rw [beq0]
  cases hu0 : decide (mk u = 0) with
  | true =>
    have hu1 : u = [] := (mk_zero hu24).1 (of_decide_eq_true hu0)
    subst hu1
    have hts := hv1 rfl
    subst hts
    have hA2 : A = (es, if e = zs zc then 1 else 2) := by rw [hA, ← hzt]; exact if_pos rfl
    subst hA2
    conv => whnf
    have gz := implZeros_ok zc (by omega)
    rw [← hzc] at gz
    refine .own _ (fgt1 (fgtV1 _)) _ _ Tryz.call70 (gz).up (Nat.le_of_ble_eq_true rfl) (AV.nsB_iff rfl) (fun k hk => by cases hk) ?_
    conv => whnf
    rw [beqS]
    by_cases hz0 : e = zs zc
    · rw [if_pos hz0, decide_eq_true hz0]
      conv => whnf
      refine .own _ (fgt1 (fgtS _ _ _)) _ _ Tryz.call66 (implClone_o c z es hB) (Nat.le_of_ble_eq_true rfl) (AV.nsB_iff rfl) (arrO_noSl _ _) ?_
      conv => whnf
      refine ⟨⟨⟨by decide +kernel, Nat.le_of_ble_eq_true rfl⟩, trivial⟩, ?_⟩
      conv => whnf
      exact ⟨rfl, rfl⟩
    · rw [if_neg hz0, decide_eq_false hz0]
      conv => whnf
      refine .own _ (fgt1 (fgtS _ _ _)) _ _ Tryz.call66 (implClone_o c z es hB) (Nat.le_of_ble_eq_true rfl) (AV.nsB_iff rfl) (arrO_noSl _ _) ?_
      conv => whnf
      refine ⟨⟨⟨by decide +kernel, Nat.le_of_ble_eq_true rfl⟩, trivial⟩, ?_⟩
      conv => whnf
      exact ⟨rfl, rfl⟩
  | false =>
    have hu1 : u ≠ [] := fun q => by subst q; cases hu0
    have hts := hv2 hu1
    subst hts
    obtain ⟨t, ht⟩ : ∃ t : Eqn, t = ⟨u, e⟩ := ⟨_, rfl⟩
    have htr : t.r = u := by rw [ht]
    have htd : t.d = e := by rw [ht]
    have hA2 : A = (addE es t, 0) := by rw [hA, ht]; exact if_neg hu1
    subst hA2
    have hsub : ∀ {x : Eqn}, x ∈ es → SubP c z.toNat t x (sub1 t x) := fun hx => sub1_ok h.eq (by rw [htr, htd]; exact hR) (by rw [htr]; exact hu1) hx
    have hul0 : 0 < u.length := List.length_pos_iff.2 hu1
    have hpu : pv t ∈ u := htr ▸ pv_mem (by rw [htr]; exact hu1)
    obtain ⟨p, hp⟩ : ∃ p : Nat, pv t = p := ⟨(pv t).toNat, by have := hu24.lo _ hpu; omega⟩
    have hp24 := hu24.hi _ hpu
    have hg : (u.map eI).getD 0 [] = eI (p : Int) := by rw [← hp, ht, ← pv_at (e := ⟨u, e⟩) hu1]; exact atI u rfl hul0
    have gr := rowOf_ok (mk u) (mk_lt (c := 24) hu24.lo hu24.hi)
    rw [un_mk hu24] at gr
    conv => whnf
    refine .own _ (fgt1 (fgtV1 _)) _ _ Tryz.call71 (gr).up (Nat.le_of_ble_eq_true rfl) (AV.nsB_iff rfl) (arrI_noSl _) ?_
    conv => whnf
    refine VLoop.enter [6, 8, 9, 10, 11, 12, 60, 61, 62] ?_
    conv => whnf
    refine VLoop.ind4 (n0 := 5) (α := Int) (β := Int) (γ := Nat) (δ := List (List PV)) iM [6, 8, 9, 10, 11, 12, 60, 61, 62] (fun i k n E => ⟨125, ⟨0, some 62, []⟩, [(6, .one (.hp 0 0 0)), (8, lit (.int .u32 (mk u))), (9, vstr e), (10, .one (.hp 1 0 0)), (11, .one (.hp 2 0 0)), (12, vint k), (60, .one (.p (.sl (es.map eE)))), (61, vint (es.map eE).length), (62, vint i)],
        [(0, some (.box [.p (.lit (.int .i64 0)), .p (.lit (.int .i64 0)), nilS])), (1, some (.box [.hs 3 0 u.length, .p (.lit (.string e))])), (2, some (.box [.p (.lit (.int .i64 c)), .p (.lit (.int .i64 z)), .hs 4 0 n])), (3, some (.arr 1 (u.map eI))), (4, some (.arr 2 E))]⟩)
      (fun i k n E => ∃ j : Nat, i = j ∧ j ≤ es.length ∧ k = (cntL t (es.take j) : Nat) ∧ n = j ∧ E = oE (List.range j) ((es.take j).map (sub1 t))) (fun i _ _ _ => ((es.length : Int) - i).toNat) ?_ 0 0 0 [] ⟨0, rfl, by omega, rfl, rfl, rfl⟩
    rintro _ _ i _ ⟨j, rfl, hi, rfl, hn2, rfl⟩
    subst hn2
    have hwi : IntKind.i64.wrap ((i : Int) + 1) = ((i + 1 : Nat) : Int) := by rw [wrap_in _ (by omega) (by omega)]; omega
    have hcnt := cntL_le t (es.take i)
    rw [List.length_take] at hcnt
    have hwk : IntKind.i64.wrap (((cntL t (es.take i) : Nat) : Int) + 1) = ((cntL t (es.take i) + 1 : Nat) : Int) := by rw [wrap_in _ (by omega) (by omega)]; omega
    have htr2 : (List.range i).length = ((es.take i).map (sub1 t)).length := by rw [List.length_range, List.length_map, List.length_take]; omega
    have htl : (oE (List.range i) ((es.take i).map (sub1 t))).length = i := by rw [oE_len htr2, List.length_map, List.length_take]; omega
    conv => whnf
    rw [hm]
    split
    · rename_i q1
      have q1' := of_decide_eq_true q1
      have en : (i : Int).toNat = i := Int.toNat_natCast i
      obtain ⟨x, hx⟩ : ∃ x, es[i]? = some x := ⟨_, List.getElem?_eq_getElem (by omega)⟩
      have hxm := mem_at hx
      obtain ⟨hxr, hxd⟩ := hB.r x hxm
      obtain ⟨h1, h2, h3⟩ := h.eq.row x hxm
      have hx24 : RowP 24 x.r := h1.mono hc2
      have hS := hsub hxm
      have hx0 := len0.1 h2
      have hxl : (x.r.map eI).length = x.r.length := List.length_map ..
      have hxg : (x.r.map eI).getD 0 [] = eI (pv x) := by rw [← pv_at h2]; exact atI x.r rfl hx0
      have hbit := bitW (m := mk x.r) (i := p) (mk32 hx24) (by omega)
      have hhas := mk_has hx24 (p := pv t) (hu24.lo _ hpu)
      rw [hp, Int.toNat_natCast, ← hp] at hhas
      have hxw := xorW (mk32 hx24) (mk32 hu24)
      have hcs := cntL_snoc (t := t) hx
      conv => whnf
      refine ⟨by omega, by rw [hm]; omega, _, atE es en hx, ?_⟩
      conv => whnf
      refine .own _ (fgt1 (fgtR _)) _ _ Tryz.call69 ((mask_ok x.r (by omega) hx24)).up (Nat.le_of_ble_eq_true rfl) (AV.nsB_iff rfl) (fun k hk => by cases hk) ?_
      conv => whnf
      refine ⟨by omega, by omega, by rw [hum]; omega, ?_⟩
      conv => whnf
      refine ⟨_, hg, ?_⟩
      conv => whnf
      rw [hbit, hhas]
      split
      · rename_i q2
        have q2p := of_decide_eq_true q2
        have hf : sub1 t x = ⟨rx x.r u, dx x.d e⟩ := by unfold sub1; rw [if_pos q2p, htr, htd]
        have gr2 := rowOf_ok (mk x.r ^^^ mk u) (Nat.xor_lt_two_pow (mk_lt (c := 24) hx24.lo hx24.hi) (mk_lt (c := 24) hu24.lo hu24.hi))
        rw [un_xor hx24 hu24] at gr2
        have gx := implXor_ok x.d e (by omega) (by omega)
        obtain ⟨fr, hfr⟩ : ∃ fr, fr = rx x.r u := ⟨_, rfl⟩
        obtain ⟨fd, hfd⟩ : ∃ fd, fd = dx x.d e := ⟨_, rfl⟩
        rw [← hfr] at gr2
        rw [← hfd] at gx
        rw [← hfr, ← hfd] at hf
        have hfl : (fr.map eI).length = fr.length := List.length_map ..
        have hfe : [PV.own i (fr.map eI), PV.lit (.string fd)] = eO i (sub1 t x) := by rw [hf]; rfl
        conv => whnf
        refine VDraw.goR [0, 1, 0, 0, 12, 28, 0, 64, 0, 508, 1020, 2044, 4095, 8191, 16383] [5, 9, 11, 12, 14] [(11, [5])] [(12, [4]), (14, [2])] rfl (by decide +kernel) ?_
        conv => whnf
        rw [hxw]
        refine .own _ (fgt1 (fgtV1 _)) _ _ Tryz.call71 (gr2).up (Nat.le_of_ble_eq_true rfl) (AV.nsB_iff rfl) (arrI_noSl _) ?_
        conv => whnf
        refine .own _ (fgt2 (fgtV1 _) (fgtV1 _)) _ _ Tryz.call72 (gx).up (Nat.le_of_ble_eq_true rfl) (AV.nsB_iff rfl) (fun k hk => by cases hk) ?_
        conv => whnf
        refine ⟨⟨litsT fr, trivial, trivial⟩, ?_⟩
        conv => whnf
        refine ⟨⟨rfl, htl.symm, rfl⟩, Nat.le_refl 1, ?_⟩
        conv => whnf
        refine ⟨(fun q => by cases q), appE (show ((oE (List.range i) ((es.take i).map (sub1 t))).length + 1 ≤ _) by rw [htl]; omega), fun el hel => by cases List.mem_singleton.1 hel; rfl, ?_⟩
        conv => whnf
        refine VDraw.goR [0, 1, 3, 7, 0, 16, 48, 112, 255] [] [] [] rfl (by decide +kernel) ?_
        conv => whnf
        refine ⟨by omega, by rw [hxl]; omega, _, hxg, ?_⟩
        conv => whnf
        refine ⟨by omega, by omega, by rw [hum]; omega, ?_⟩
        conv => whnf
        refine ⟨_, hg, ?_⟩
        conv => whnf
        rw [← hp]
        split
        · rename_i q3
          rw [if_pos (of_decide_eq_true q3)] at hcs
          conv => whnf
          rw [hwi, hwk]
          refine ⟨_, _, _, _, rfl, rfl, ⟨i + 1, rfl, by omega, by rw [hcs], ?_, ?_⟩, by omega⟩
          · rw [htl]; rfl
          · rw [take_snoc hx, List.map_append, List.range_succ, List.map_cons, List.map_nil, oE_snoc htr2]; exact congrArg (fun r => oE (List.range i) ((es.take i).map (sub1 t)) ++ [r]) (show [PV.own i (List.take fr.length (fr.map eI)), PV.lit (.string fd)] = eO i (sub1 t x) by rw [takeI1, hfe])
        · rename_i q3
          rw [if_neg (of_decide_eq_false q3)] at hcs
          conv => whnf
          rw [hwi]
          refine ⟨_, _, _, _, rfl, rfl, ⟨i + 1, rfl, by omega, by rw [hcs]; rfl, ?_, ?_⟩, by omega⟩
          · rw [htl]; rfl
          · rw [take_snoc hx, List.map_append, List.range_succ, List.map_cons, List.map_nil, oE_snoc htr2]; exact congrArg (fun r => oE (List.range i) ((es.take i).map (sub1 t)) ++ [r]) (show [PV.own i (List.take fr.length (fr.map eI)), PV.lit (.string fd)] = eO i (sub1 t x) by rw [takeI1, hfe])
      · rename_i q2
        have q2p := of_decide_eq_false q2
        have hf : sub1 t x = x := by unfold sub1; rw [if_neg q2p]
        conv => whnf
        refine VDraw.goR [0, 1, 0, 0, 8, 28, 0, 64, 252, 508, 1023, 2047, 4095] [2, 5, 9, 10, 12] [(5, [2]), (9, [5])] [(10, [4]), (12, [2])] rfl (by decide +kernel) ?_
        conv => whnf
        refine ⟨⟨rfl, rfl, rfl⟩, trivial, ?_⟩
        conv => whnf
        refine ⟨(fun q => by cases q), app3 (by rw [hxl]; show 0 + x.r.length ≤ _; omega), eI_len x.r, ?_⟩
        conv => whnf
        refine ⟨⟨litsO x.r, trivial, trivial⟩, ?_⟩
        conv => whnf
        refine ⟨⟨rfl, htl.symm, rfl⟩, Nat.le_refl 1, ?_⟩
        conv => whnf
        refine ⟨(fun q => by cases q), appE (show ((oE (List.range i) ((es.take i).map (sub1 t))).length + 1 ≤ _) by rw [htl]; omega), fun el hel => by cases List.mem_singleton.1 hel; rfl, ?_⟩
        conv => whnf
        refine VDraw.goR [0, 1, 3, 7, 0, 16, 48, 112, 255] [] [] [] rfl (by decide +kernel) ?_
        conv => whnf
        refine ⟨by omega, by rw [hxl]; omega, _, hxg, ?_⟩
        conv => whnf
        refine ⟨by omega, by omega, by rw [hum]; omega, ?_⟩
        conv => whnf
        refine ⟨_, hg, ?_⟩
        conv => whnf
        rw [← hp]
        split
        · rename_i q3
          rw [if_pos (of_decide_eq_true q3)] at hcs
          conv => whnf
          rw [hwi, hwk]
          refine ⟨_, _, _, _, rfl, rfl, ⟨i + 1, rfl, by omega, by rw [hcs], ?_, ?_⟩, by omega⟩
          · rw [htl]; rfl
          · rw [take_snoc hx, List.map_append, List.range_succ, List.map_cons, List.map_nil, oE_snoc htr2]; exact congrArg (fun r => oE (List.range i) ((es.take i).map (sub1 t)) ++ [r]) (show [PV.own i (List.take (0 + (x.r.map eI).length) ([] ++ x.r.map eI)), PV.lit (.string x.d)] = eO i (sub1 t x) by rw [frzO, hf]; rfl)
        · rename_i q3
          rw [if_neg (of_decide_eq_false q3)] at hcs
          conv => whnf
          rw [hwi]
          refine ⟨_, _, _, _, rfl, rfl, ⟨i + 1, rfl, by omega, by rw [hcs]; rfl, ?_, ?_⟩, by omega⟩
          · rw [htl]; rfl
          · rw [take_snoc hx, List.map_append, List.range_succ, List.map_cons, List.map_nil, oE_snoc htr2]; exact congrArg (fun r => oE (List.range i) ((es.take i).map (sub1 t)) ++ [r]) (show [PV.own i (List.take (0 + (x.r.map eI).length) ([] ++ x.r.map eI)), PV.lit (.string x.d)] = eO i (sub1 t x) by rw [frzO, hf]; rfl)
    · rename_i q1
      have q1p := of_decide_eq_false q1
      have ei : i = es.length := by omega
      subst ei
      have hins := addO_at h.eq (t := t) (by rw [htr, htd]; exact hR) (by rw [htr]; exact hu1)
      rw [List.take_length] at htl hcnt ⊢
      have hm2 : (addE es t).length = es.length + 1 := by
        rw [addE_list h.eq (t := t) (by rw [htr, htd]; exact hR) (by rw [htr]; exact hu1), List.length_append, List.length_take, List.length_cons, List.length_drop, List.length_map]
        omega
      conv => whnf
      refine ⟨⟨litsT u, trivial, trivial⟩, ?_⟩
      conv => whnf
      refine .eat _ _ _ Tryz.call73 (good_ins (oE (List.range es.length) (es.map (sub1 t))) [PV.own es.length (List.take u.length (u.map eI)), PV.lit (.string e)] es.length (cntL t es) htl.symm (by omega) (by omega)) rfl ?_
      conv => whnf
      have hins2 : insAt (oE (List.range es.length) (es.map (sub1 t))) (cntL t es) [PV.own es.length (List.take u.length (u.map eI)), PV.lit (.string e)] = oE (insT es.length (cntL t es)) (addE es t) := by rw [← hins, takeI1, ht]; rfl
      obtain ⟨AE, hAE⟩ : ∃ AE, AE = oE (insT es.length (cntL t es)) (addE es t) := ⟨_, rfl⟩
      have hAEl : AE.length = es.length + 1 := by rw [hAE, oE_len (by rw [insT_len (cntL_le t es), hm2]), hm2]
      have hAE2 : ∀ x ∈ AE, x.length = 2 := hAE ▸ oE_two _ _
      rw [hins2, ← hAE]
      have htk : List.take (es.length + 1) (List.drop 0 AE) = AE := by rw [List.drop_zero, List.take_of_length_le (by omega)]
      rw [htk]
      refine ⟨⟨rfl, rfl, rfl⟩, by omega, ?_⟩
      conv => whnf
      refine ⟨(fun q => by cases q), appE (show 0 + AE.length ≤ _ by omega), hAE2, ?_⟩
      conv => whnf
      refine ⟨⟨⟨by decide +kernel, Nat.le_of_ble_eq_true rfl⟩, trivial⟩, ?_⟩
      conv => whnf
      refine ⟨?_, ?_⟩
      · show _ = AV.tup [.agg [.p (.lit (.int .i64 c)), .p (.lit (.int .i64 z)), .hs 0 0 (addE es t).length], vint 0]
        rw [show (addE es t).length = 0 + AE.length by omega]; rfl
      · refine congrArg (fun E => [Blk.arr 2 E]) ?_
        rw [← ht, ← hAE]; rfl
end Go.Abs.F

set_option linter.unusedSimpArgs false
set_option linter.unusedVariables false
namespace Go.Abs.F
open Go Go.Abs Go.Proofs Go.RowKit
attribute [local irreducible] IntKind.wrap
/-- How many marks a list of equations takes. -/
def sumE : List Eqn → Nat
  | [] => 0
  | x :: xs => x.r.length + 1 + sumE xs
theorem sumE_bd {B : Nat} : ∀ {es : List Eqn}, (∀ e ∈ es, e.r.length ≤ B) → sumE es ≤ es.length * (B + 1)
  | [], _ => Nat.zero_le _
  | x :: xs, h => by
    have ih := sumE_bd (es := xs) fun e he => h e (List.mem_cons_of_mem _ he)
    have hx := h x (List.mem_cons_self ..)
    show x.r.length + 1 + sumE xs ≤ (xs.length + 1) * (B + 1)
    rw [Nat.add_mul, Nat.one_mul]
    omega
theorem sok_sum {c z : Int} {es : List Eqn} (h : SOk c z es) : sumE es ≤ 1100000 := by
  have h1 := eqs_len0 h
  have h2 := sumE_bd (B := 24) (es := es) fun e he => row_len ((h.eq.row e he).1.mono h.c2)
  omega
theorem fgtP (l s : Int) (ws gs : List Int) : FgtV (planF l s ws gs) (planF l s ws gs) := .agg (.cons (fgtL _) (.cons (fgtL _) (.cons (.p (fgt_int ws rfl)) (.cons (.p (fgt_int gs rfl)) .nil))))
theorem fgtG (l s : Int) (ws gs : List Int) (c z : Int) (es : List Eqn) : FgtV (getF l s ws gs c z es) (getF l s ws gs c z es) :=
  .agg (.cons (fgtL _) (.cons (fgtL _) (.cons (.p (fgt_int ws rfl)) (.cons (.p (fgt_int gs rfl)) (.cons (fgtL _) (.cons (fgtL _) (.cons (.p (fgt_eE es rfl)) .nil)))))))
theorem arrII_noSl (a b : List Int) : ∀ k ∈ [Blk.arr 1 (a.map eI), Blk.arr 1 (b.map eI)], k.noSl := fun k hk => by
  rcases List.mem_cons.1 hk with rfl | hk
  · exact arrI_noSl a _ (List.mem_cons_self ..)
  · exact arrI_noSl b k hk
theorem arrG_noSl (a b : List Int) (ts : List Nat) (es : List Eqn) : ∀ k ∈ [Blk.arr 1 (a.map eI), Blk.arr 1 (b.map eI), Blk.arr 2 (oE ts es)], k.noSl := fun k hk => by
  rcases List.mem_cons.1 hk with rfl | hk
  · exact arrI_noSl a _ (List.mem_cons_self ..)
  · rcases List.mem_cons.1 hk with rfl | hk
    · exact arrI_noSl b _ (List.mem_cons_self ..)
    · exact arrO_noSl ts es k hk
@[reducible] def gtR (l s : Int) (ws gs : List Int) (c z : Int) (es : List Eqn) : AV := .agg [.p (.lit (.int .i64 l)), .p (.lit (.int .i64 s)), .hs 0 0 ws.length, .hs 1 0 gs.length, .p (.lit (.int .i64 c)), .p (.lit (.int .i64 z)), .hs 2 0 es.length]
@[reducible] def gtB (ws gs : List Int) (ts : List Nat) (es : List Eqn) : List Blk := [.arr 1 (ws.map eI), .arr 1 (gs.map eI), .arr 2 (oE ts es)]
set_option maxHeartbeats 16000000 in
set_option maxRecDepth 100000 in
theorem implCloneG_o (l s : Int) (ws gs : List Int) (c z : Int) (es : List Eqn) (hw : ws.length ≤ 1100000) (hg : gs.length ≤ 1100000) (hB : SBd c z es) : GoodO true Tryz.prog 28 [getF l s ws gs c z es] [] (gtR l s ws gs c z es) (gtB ws gs (List.range es.length) es) := by
  refine good_eO (some 0) noM Tryz.func28 rfl rfl ?_
  conv => whnf
  refine VDraw.goR [0, 1, 3, 0, 8, 31, 63, 127] [2, 5, 7] [] [(7, [8])] rfl (by decide +kernel) ?_
  conv => whnf
  refine .own _ (fgt1 (fgtP _ _ _ _)) _ _ Tryz.call65 (clonePlan_own l s ws gs hw hg).up (Nat.le_of_ble_eq_true rfl) (AV.nsB_iff rfl) (arrII_noSl _ _) ?_
  conv => whnf
  refine .own _ (fgt1 (fgtS _ _ _)) _ _ Tryz.call66 (implClone_o c z es hB) (Nat.le_of_ble_eq_true rfl) (AV.nsB_iff rfl) (arrO_noSl _ _) ?_
  conv => whnf
  refine ⟨⟨⟨by decide +kernel, Nat.le_of_ble_eq_true rfl⟩, trivial⟩, ?_⟩
  conv => whnf
  exact ⟨rfl, rfl⟩
/-- What GetAdd answers, said with blocks: the value, and where it lies. -/
inductive GAO : AV → AV → List Blk → Prop
  | bad : GAO (.tup [getN, vint 3]) (.tup [getN, vint 3]) []
  | got (l s : Int) (ws gs : List Int) (c z : Int) (es : List Eqn) (k : Int) (ts : List Nat) (hn : ts.Nodup) (hl : ts.length = es.length) (hw : ws.length ≤ 1100000) (hg : gs.length ≤ 1100000) (hB : SBd c z es) (hs : sumE es ≤ 1100000) : GAO (.tup [getF l s ws gs c z es, vint k]) (.tup [gtR l s ws gs c z es, vint k]) (gtB ws gs ts es)
set_option maxHeartbeats 16000000 in
set_option maxRecDepth 100000 in
theorem implGA_o (l s : Int) (ws gs : List Int) (c z : Int) (es : List Eqn) (hw : ws.length ≤ 1100000) (hg : gs.length ≤ 1100000) (hB : SBd c z es) (id : Int) (d : ByteArray) (hds : d.size ≤ 100000000) (v : AV) (hv : GAR l s ws gs c z es id d v) : ∃ r out, GAO v r out ∧ GoodO true Tryz.prog 6 [getF l s ws gs c z es, vint id, vstr d] [] r out := by
  obtain ⟨b, hb⟩ := gok_ex l s ws gs c z es
  cases hv with
  | bad hn =>
    obtain rfl := gok_f hb hn
    refine ⟨_, _, .bad, ?_⟩
    refine good_eO (some 0) noM Tryz.func6 rfl rfl ?_
    conv => whnf
    refine .own _ (fgt1 (fgtG _ _ _ _ _ _ _)) _ _ Tryz.call9 (implGOk_ok l s ws gs c z es (by omega) hB _ hb).up (Nat.le_of_ble_eq_true rfl) (AV.nsB_iff rfl) (fun k hk => by cases hk) ?_
    conv => whnf
    refine ⟨⟨⟨by decide +kernel, Nat.le_of_ble_eq_true rfl⟩, trivial⟩, ?_⟩
    conv => whnf
    exact ⟨rfl, rfl⟩
  | out hk ho =>
    obtain rfl := hb.2 hk
    refine ⟨_, _, .got l s ws gs c z es 3 (List.range es.length) List.nodup_range List.length_range hw hg hB (sok_sum hk.so), ?_⟩
    refine good_eO (some 0) noM Tryz.func6 rfl rfl ?_
    conv => whnf
    refine .own _ (fgt1 (fgtG _ _ _ _ _ _ _)) _ _ Tryz.call9 (implGOk_ok l s ws gs c z es (by omega) hB _ hb).up (Nat.le_of_ble_eq_true rfl) (AV.nsB_iff rfl) (fun k hk => by cases hk) ?_
    conv => whnf
    refine .own _ (fgt1 (fgtG _ _ _ _ _ _ _)) _ _ Tryz.call28 (implCloneG_o l s ws gs c z es (by omega) (by omega) hB) (Nat.le_of_ble_eq_true rfl) (AV.nsB_iff rfl) (arrG_noSl _ _ _ _) ?_
    conv => whnf
    refine .own _ (fgt3 (fgtV1 _) (fgtV1 _) (fgtV1 _)) _ _ Tryz.call29 (within_ok id 0 9999).up (Nat.le_of_ble_eq_true rfl) (AV.nsB_iff rfl) (fun k hk => by cases hk) ?_
    conv => whnf
    cases hi : inR id 0 9999 with
    | false =>
      conv => whnf
      refine ⟨⟨⟨by decide +kernel, Nat.le_of_ble_eq_true rfl⟩, trivial⟩, ?_⟩
      conv => whnf
      exact ⟨rfl, rfl⟩
    | true =>
      have hi' := inR_iff.1 hi
      have hne : ((d.size : Int) != s) = true := bne_iff_ne.2 fun q => ho ⟨hi'.1, hi'.2, q⟩
      conv => whnf
      rw [hne]
      conv => whnf
      refine ⟨⟨⟨by decide +kernel, Nat.le_of_ble_eq_true rfl⟩, trivial⟩, ?_⟩
      conv => whnf
      exact ⟨rfl, rfl⟩
  | new hk h0 h1 hd r hr A hA =>
    obtain rfl := hb.2 hk
    have hin : inR id 0 9999 = true := inR_iff.2 ⟨h0, h1⟩
    have hne : ((d.size : Int) != s) = false := by
      cases q : ((d.size : Int) != s) with
      | false => rfl
      | true => exact absurd hd (bne_iff_ne.1 q)
    have hrow := prow_row hk.pl h0 hr
    rw [← hk.ce] at hrow
    have hc2 := hk.so.c2
    have hz1 := hk.so.z1
    have hze := hk.ze
    have hrl := row_len (hrow.mono hc2)
    have hrm : (r.map eI).length = r.length := List.length_map ..
    obtain ⟨q, hq⟩ : ∃ q, q = red es (r, d) := ⟨_, rfl⟩
    rw [← hq] at hA
    have hA1 : SOk c z A.1 := (addR_ok (r := r) (d := d) hk.so hrow (by omega) (by rw [← hq]; exact hA)).1
    obtain ⟨ts, hts, htl, gA⟩ := implAdd_o c z es hB hk.so r d hrow (by omega) q hq A hA
    refine ⟨_, _, .got l s ws gs c z A.1 A.2 ts hts htl hw hg (sok_bd hA1) (sok_sum hA1), ?_⟩
    refine good_eO (some 0) noM Tryz.func6 rfl rfl ?_
    conv => whnf
    refine .own _ (fgt1 (fgtG _ _ _ _ _ _ _)) _ _ Tryz.call9 (implGOk_ok l s ws gs c z es (by omega) hB _ hb).up (Nat.le_of_ble_eq_true rfl) (AV.nsB_iff rfl) (fun k hk => by cases hk) ?_
    conv => whnf
    refine .own _ (fgt1 (fgtG _ _ _ _ _ _ _)) _ _ Tryz.call28 (implCloneG_o l s ws gs c z es (by omega) (by omega) hB) (Nat.le_of_ble_eq_true rfl) (AV.nsB_iff rfl) (arrG_noSl _ _ _ _) ?_
    conv => whnf
    refine .own _ (fgt3 (fgtV1 _) (fgtV1 _) (fgtV1 _)) _ _ Tryz.call29 (within_ok id 0 9999).up (Nat.le_of_ble_eq_true rfl) (AV.nsB_iff rfl) (fun k hk => by cases hk) ?_
    conv => whnf
    rw [hin]
    conv => whnf
    rw [hne]
    conv => whnf
    refine VDraw.goR [0, 1, 0, 4, 0, 28, 0, 127, 255, 511, 511, 0, 3071, 8191] [5, 7, 11, 12] [(7, [5]), (12, [11])] [] rfl (by decide +kernel) ?_
    conv => whnf
    refine .own _ (fgt2 (fgtP _ _ _ _) (fgtV1 _)) _ _ Tryz.call31 (planRow_ok l s ws gs hk.pl id h0 h1 r hr).up (Nat.le_of_ble_eq_true rfl) (AV.nsB_iff rfl) (arrI_noSl _) ?_
    conv => whnf
    have htk : List.take r.length (List.drop 0 (r.map eI)) = r.map eI := takeI r
    refine ⟨by rw [hrm]; omega, ?_⟩
    conv => whnf
    rw [htk]
    refine .own _ (fgt3 (fgtS _ _ _) (fgtR _) (fgtV1 _)) _ _ Tryz.call30 gA (Nat.le_of_ble_eq_true rfl) (AV.nsB_iff rfl) (arrO_noSl _ _) ?_
    conv => whnf
    refine ⟨⟨⟨by decide +kernel, Nat.le_of_ble_eq_true rfl⟩, trivial⟩, ?_⟩
    conv => whnf
    exact ⟨rfl, rfl⟩
end Go.Abs.F

set_option linter.unusedSimpArgs false
set_option linter.unusedVariables false
namespace Go.Abs.F
open Go Go.Abs Go.Proofs Go.RowKit
attribute [local irreducible] IntKind.wrap
theorem tab_repF {α : Type} (n : Nat) (z : α) : List.replicate n z = tab n fun _ => z := by
  apply List.ext_getElem (by rw [tab_length, List.length_replicate])
  intro i h1 h2
  simp only [tab, List.getElem_replicate, List.getElem_map]
def zQ : Eqn := ⟨[], ⟨#[]⟩⟩
theorem tab_oE (es : List Eqn) : tab es.length (fun k => eO k (es.getD k zQ)) = oE (List.range es.length) es := by
  apply List.ext_getElem?
  intro i
  unfold oE
  rw [tab_get?, List.getElem?_zipWith]
  by_cases h : i < es.length
  · rw [if_pos h, List.getElem?_range h, List.getElem?_eq_getElem h, List.getD_eq_getElem?_getD, List.getElem?_eq_getElem h]; rfl
  · rw [if_neg h, List.getElem?_eq_none (by rw [List.length_range]; omega)]
set_option maxHeartbeats 16000000 in
set_option maxRecDepth 100000 in
theorem toIntS_ok (r : List Int) (hl : r.length ≤ 1100000) : Good Tryz.prog 92 [.one (.p (slI r))] [] (.one (.hs 0 0 r.length)) [.arr 1 (r.map eI)] := by
  have hm : (r.map eI).length = r.length := List.length_map ..
  refine good_e noM Tryz.func92 rfl rfl ?_
  conv => whnf
  rw [hm]
  refine ⟨by omega, by omega, Int.lt_of_le_of_lt (Int.mul_le_mul (show (r.length : Int) ≤ 1100000 by omega) (show ((Tryz.prog.bytesOf 3 + 1 : Nat) : Int) ≤ 100 from Int.ofNat_le.2 bytes3) (by omega) (by omega)) (by decide), ?_⟩
  conv => whnf
  refine VLoop.enter [0, 3, 4] ?_
  conv => whnf
  refine VLoop.ind2 (n0 := 1) (α := Int) (β := List (List PV)) noM [0, 3, 4] (fun a E => ⟨22, 0, [(0, .one (.p (slI r))), (3, .one (.hs 0 0 r.length)), (4, vint a)], [(0, some (.arr 1 E))]⟩)
    (fun a E => ∃ i : Nat, a = i ∧ i ≤ r.length ∧ E = mid r.length i (fun k => eI (r.getD k 0)) (fun _ => eI 0)) (fun a _ => ((r.length : Int) - a).toNat) ?_ 0 _ ⟨0, rfl, by omega, ?_⟩
  rotate_left
  · rw [mid_zero, ← tab_repF]; rfl
  rintro _ _ ⟨i, rfl, hi, rfl⟩
  conv => whnf
  rw [hm]
  split
  · rename_i q1
    have q1' := of_decide_eq_true q1
    have hil : i < r.length := by omega
    have en : (i : Int).toNat = i := Int.toNat_natCast i
    have e0 : 0 + (i : Int).toNat = i := by omega
    have hw : IntKind.i64.wrap ((i : Int) + 1) = i + 1 := wi _ (by omega) (by omega)
    conv => whnf
    refine ⟨by omega, by rw [hm]; omega, _, atI r en hil, ?_⟩
    conv => whnf
    refine ⟨by omega, by omega, by rw [mid_length]; omega, ?_⟩
    conv => whnf
    refine ⟨_, mid_getD [] e0 (by omega), by rw [mid_length]; omega, ?_⟩
    conv => whnf
    refine ⟨_, _, rfl, rfl, ⟨i + 1, by rw [hw]; simp, by omega, mid_set e0 rfl hil⟩, by rw [hw]; omega⟩
  · rename_i q1
    have q1' := of_decide_eq_false q1
    conv => whnf
    obtain rfl : i = r.length := by omega
    refine ⟨trivial, ?_⟩
    conv => whnf
    refine ⟨rfl, ?_⟩
    rw [mid_all]
    exact congrArg (fun E => [Blk.arr 1 E]) (tab_of r eI 0).symm
set_option maxHeartbeats 16000000 in
set_option maxRecDepth 100000 in
theorem toEq_ok (x : Eqn) (hl : x.r.length ≤ 1100000) : Good Tryz.prog 115 [.agg [.p (slI x.r), .p (.lit (.string x.d))]] [] (.agg [.hs 0 0 x.r.length, .p (.lit (.string x.d))]) [.arr 1 (x.r.map eI)] := by
  refine good_e noM Tryz.func115 rfl rfl ?_
  conv => whnf
  refine .mk _ _ false Tryz.call92 (toIntS_ok x.r hl) (Nat.le_of_ble_eq_true rfl) (.inl rfl) ?_
  conv => whnf
  refine ⟨⟨⟨by decide +kernel, Nat.le_of_ble_eq_true rfl⟩, trivial⟩, ?_⟩
  conv => whnf
  exact ⟨rfl, rfl⟩
set_option maxHeartbeats 16000000 in
set_option maxRecDepth 100000 in
theorem toEqS_o (es : List Eqn) (hl : es.length ≤ 1100000) (hr : ∀ e ∈ es, e.r.length ≤ 1100000) : GoodO true Tryz.prog 93 [.one (.p (.sl (es.map eE)))] [] (.one (.hs 0 0 es.length)) [.arr 2 (oE (List.range es.length) es)] := by
  have hm : (es.map eE).length = es.length := List.length_map ..
  refine good_eO (some 4) noM Tryz.func93 rfl rfl ?_
  conv => whnf
  rw [hm]
  refine ⟨by omega, by omega, Int.lt_of_le_of_lt (Int.mul_le_mul (show (es.length : Int) ≤ 1100000 by omega) (show ((Tryz.prog.bytesOf 96 + 1 : Nat) : Int) ≤ 100 from Int.ofNat_le.2 bytesEq) (by omega) (by omega)) (by decide), ?_⟩
  conv => whnf
  refine VLoop.enter [0, 3, 4] ?_
  conv => whnf
  refine VLoop.ind2 (n0 := 1) (α := Int) (β := List (List PV)) noM [0, 3, 4] (fun a E => ⟨23, ⟨0, some 4, []⟩, [(0, .one (.p (.sl (es.map eE)))), (3, .one (.hs 0 0 es.length)), (4, vint a)], [(0, some (.arr 2 E))]⟩)
    (fun a E => ∃ i : Nat, a = i ∧ i ≤ es.length ∧ E = mid es.length i (fun k => eO k (es.getD k zQ)) (fun _ => [.lit (.slice none 0 0), .lit (.string ⟨#[]⟩)])) (fun a _ => ((es.length : Int) - a).toNat) ?_ 0 _ ⟨0, rfl, by omega, ?_⟩
  rotate_left
  · rw [mid_zero, ← tab_repF]; rfl
  rintro _ _ ⟨i, rfl, hi, rfl⟩
  conv => whnf
  rw [hm]
  split
  · rename_i q1
    have q1' := of_decide_eq_true q1
    have hil : i < es.length := by omega
    have en : (i : Int).toNat = i := Int.toNat_natCast i
    have e0 : 0 + (i : Int).toNat = i := by omega
    have hw : IntKind.i64.wrap ((i : Int) + 1) = i + 1 := wi _ (by omega) (by omega)
    obtain ⟨x, hx⟩ : ∃ x, es[i]? = some x := ⟨_, List.getElem?_eq_getElem hil⟩
    have hxr := hr x (mem_at hx)
    have hxe : es.getD i zQ = x := by rw [List.getD_eq_getElem?_getD, hx]; rfl
    conv => whnf
    refine ⟨by omega, by rw [hm]; omega, _, atE es en hx, ?_⟩
    conv => whnf
    refine .own _ (fgt1 (.agg (.cons (.p (fgt_int x.r rfl)) (.cons (fgtL _) .nil)))) _ _ Tryz.call115 (toEq_ok x hxr).up (Nat.le_of_ble_eq_true rfl) (AV.nsB_iff rfl) (arrI_noSl _) ?_
    conv => whnf
    refine ⟨by omega, by omega, by rw [mid_length]; omega, ?_⟩
    conv => whnf
    refine ⟨⟨litsT x.r, trivial, trivial⟩, ?_⟩
    conv => whnf
    refine ⟨_, mid_getD [] e0 (by omega), by rw [mid_length]; omega, ?_⟩
    conv => whnf
    refine ⟨_, _, rfl, rfl, ⟨i + 1, by rw [hw]; simp, by omega, mid_set e0 ?_ hil⟩, by rw [hw]; omega⟩
    show [PV.own (i : Int).toNat (List.take x.r.length (x.r.map eI)), PV.lit (.string x.d)] = eO i (es.getD i zQ)
    rw [hxe, en, takeI1]; rfl
  · rename_i q1
    have q1' := of_decide_eq_false q1
    conv => whnf
    obtain rfl : i = es.length := by omega
    refine ⟨trivial, ?_⟩
    conv => whnf
    refine ⟨rfl, ?_⟩
    rw [mid_all]
    exact congrArg (fun E => [Blk.arr 2 E]) (tab_oE es)
set_option maxHeartbeats 16000000 in
set_option maxRecDepth 100000 in
theorem toPlan_ok (l s : Int) (ws gs : List Int) (hw : ws.length ≤ 1100000) (hg : gs.length ≤ 1100000) : Good Tryz.prog 52 [planF l s ws gs] [] (planR l s ws gs) [.arr 1 (ws.map eI), .arr 1 (gs.map eI)] := by
  refine good_e noM Tryz.func52 rfl rfl ?_
  conv => whnf
  refine .mk _ _ false Tryz.call92 (toIntS_ok ws hw) (Nat.le_of_ble_eq_true rfl) (.inl rfl) ?_
  conv => whnf
  refine .mk _ _ false Tryz.call92 (toIntS_ok gs hg) (Nat.le_of_ble_eq_true rfl) (.inl rfl) ?_
  conv => whnf
  refine ⟨⟨⟨by decide +kernel, Nat.le_of_ble_eq_true rfl⟩, trivial⟩, ?_⟩
  conv => whnf
  exact ⟨rfl, rfl⟩
set_option maxHeartbeats 16000000 in
set_option maxRecDepth 100000 in
theorem toSolver_o (c z : Int) (es : List Eqn) (hB : SBd c z es) : GoodO true Tryz.prog 53 [solF c z es] [] (.agg [.p (.lit (.int .i64 c)), .p (.lit (.int .i64 z)), .hs 0 0 es.length]) [.arr 2 (oE (List.range es.length) es)] := by
  refine good_eO (some 0) noM Tryz.func53 rfl rfl ?_
  conv => whnf
  refine .own _ (fgt1 (.one (.p (fgt_eE es rfl)))) _ _ Tryz.call93 (toEqS_o es hB.n fun e he => (hB.r e he).1) (Nat.le_of_ble_eq_true rfl) (AV.nsB_iff rfl) (arrO_noSl _ _) ?_
  conv => whnf
  refine ⟨⟨⟨by decide +kernel, Nat.le_of_ble_eq_true rfl⟩, trivial⟩, ?_⟩
  conv => whnf
  exact ⟨rfl, rfl⟩
set_option maxHeartbeats 16000000 in
set_option maxRecDepth 100000 in
theorem toGetting_o (l s : Int) (ws gs : List Int) (c z : Int) (es : List Eqn) (hw : ws.length ≤ 1100000) (hg : gs.length ≤ 1100000) (hB : SBd c z es) : GoodO true Tryz.prog 18 [getF l s ws gs c z es] [] (gtR l s ws gs c z es) (gtB ws gs (List.range es.length) es) := by
  refine good_eO (some 0) noM Tryz.func18 rfl rfl ?_
  conv => whnf
  refine .own _ (fgt1 (fgtP _ _ _ _)) _ _ Tryz.call52 (toPlan_ok l s ws gs hw hg).up (Nat.le_of_ble_eq_true rfl) (AV.nsB_iff rfl) (arrII_noSl _ _) ?_
  conv => whnf
  refine .own _ (fgt1 (fgtS _ _ _)) _ _ Tryz.call53 (toSolver_o c z es hB) (Nat.le_of_ble_eq_true rfl) (AV.nsB_iff rfl) (arrO_noSl _ _) ?_
  conv => whnf
  refine ⟨⟨⟨by decide +kernel, Nat.le_of_ble_eq_true rfl⟩, trivial⟩, ?_⟩
  conv => whnf
  exact ⟨rfl, rfl⟩
end Go.Abs.F

set_option linter.unusedSimpArgs false
set_option linter.unusedVariables false
namespace Go.Abs.F
open Go Go.Abs Go.Proofs Go.RowKit
attribute [local irreducible] IntKind.wrap
theorem sumE_app (a b : List Eqn) : sumE (a ++ b) = sumE a + sumE b := by
  induction a with
  | nil => show sumE b = 0 + sumE b; omega
  | cons x xs ih => show x.r.length + 1 + sumE (xs ++ b) = x.r.length + 1 + sumE xs + sumE b; omega
theorem sumE_snoc {es : List Eqn} {i : Nat} {x : Eqn} (h : es[i]? = some x) : sumE (es.take (i + 1)) = sumE (es.take i) + (x.r.length + 1) := by
  rw [take_snoc h, sumE_app]; rfl
theorem sumE_mem {es : List Eqn} : ∀ {x : Eqn}, x ∈ es → x.r.length + 1 ≤ sumE es := by
  induction es with
  | nil => intro x h; cases h
  | cons y ys ih =>
    intro x h
    show x.r.length + 1 ≤ y.r.length + 1 + sumE ys
    rcases List.mem_cons.1 h with rfl | h
    · omega
    · have := ih h; omega
theorem sumE_len (es : List Eqn) : es.length ≤ sumE es := by
  induction es with
  | nil => exact Nat.le_refl 0
  | cons y ys ih => show ys.length + 1 ≤ y.r.length + 1 + sumE ys; omega
set_option maxHeartbeats 16000000 in
set_option maxRecDepth 100000 in
theorem szIntS_ex (r : List Int) (left : Int) (h0 : 0 ≤ left) (h1 : left ≤ 1048576) (hr : r.length ≤ 9223372036854775807) : ∃ a out, (∃ v, a = vint v ∧ out = [] ∧ v ≤ left ∧ (0 ≤ v → v = left - r.length)) ∧ Good Tryz.prog 90 [.one (.p (slI r)), vint left] [] a out := by
  have hm : (r.map eI).length = r.length := List.length_map ..
  refine good_v noM Tryz.func90 rfl rfl ?_
  conv => whnf
  have w1 : IntKind.i64.wrap (left - ((r.map eI).length : Int)) = left - r.length := by rw [hm]; exact wrap_in _ (by omega) (by omega)
  rw [w1]
  split
  · conv => whnf
    refine ⟨trivial, ?_⟩
    conv => whnf
    exact ⟨_, rfl, rfl, by omega, fun h => by omega⟩
  · conv => whnf
    refine ⟨trivial, ?_⟩
    conv => whnf
    exact ⟨_, rfl, rfl, by omega, fun h => rfl⟩
set_option maxHeartbeats 16000000 in
set_option maxRecDepth 100000 in
theorem szEq_ex (x : Eqn) (left : Int) (h0 : 0 ≤ left) (h1 : left ≤ 1048576) (hr : x.r.length ≤ 9223372036854775807) (hd : x.d.size ≤ 9223372036854775807) : ∃ a out, (∃ v, a = vint v ∧ out = [] ∧ v ≤ left ∧ (0 ≤ v → v = left - x.r.length - x.d.size)) ∧ Good Tryz.prog 114 [.agg [.p (slI x.r), .p (.lit (.string x.d))], vint left] [] a out := by
  obtain ⟨_, _, ⟨v, rfl, rfl, hv, hv2⟩, hg⟩ := szIntS_ex x.r left h0 h1 hr
  refine good_v noM Tryz.func114 rfl rfl ?_
  conv => whnf
  refine .mk _ _ false Tryz.call90 hg (Nat.le_of_ble_eq_true rfl) (.inl rfl) ?_
  conv => whnf
  split
  · conv => whnf
    refine ⟨trivial, ?_⟩
    conv => whnf
    exact ⟨_, rfl, rfl, by omega, fun h => by omega⟩
  · rename_i q
    have q' := of_decide_eq_false q
    have e := hv2 (by omega)
    subst e
    have w1 : IntKind.i64.wrap (left - x.r.length - (x.d.size : Int)) = left - x.r.length - x.d.size := wrap_in _ (by omega) (by omega)
    conv => whnf
    rw [w1]
    split
    · conv => whnf
      refine ⟨trivial, ?_⟩
      conv => whnf
      exact ⟨_, rfl, rfl, by omega, fun h => by omega⟩
    · conv => whnf
      refine ⟨trivial, ?_⟩
      conv => whnf
      exact ⟨_, rfl, rfl, by omega, fun h => rfl⟩
set_option maxHeartbeats 16000000 in
set_option maxRecDepth 100000 in
theorem szEqS_ex (es : List Eqn) (left : Int) (h0 : 0 ≤ left) (h1 : left ≤ 1048576) (hn : es.length ≤ 9223372036854775807) (hs : ∀ e ∈ es, e.r.length ≤ 9223372036854775807 ∧ e.d.size ≤ 9223372036854775807) :
    ∃ a out, (∃ v, a = vint v ∧ out = [] ∧ v ≤ left ∧ (0 ≤ v → v + sumE es ≤ left ∧ ∀ e ∈ es, e.d.size ≤ 1048576)) ∧ Good Tryz.prog 91 [.one (.p (.sl (es.map eE))), vint left] [] a out := by
  have hm : (es.map eE).length = es.length := List.length_map ..
  refine good_v noM Tryz.func91 rfl rfl ?_
  conv => whnf
  have w1 : IntKind.i64.wrap (left - ((es.map eE).length : Int)) = left - es.length := by rw [hm]; exact wrap_in _ (by omega) (by omega)
  rw [w1]
  split
  · conv => whnf
    refine ⟨trivial, ?_⟩
    conv => whnf
    exact ⟨_, rfl, rfl, by omega, fun h => by omega⟩
  · rename_i q
    have q' := of_decide_eq_false q
    conv => whnf
    refine VLoop.enter [0, 1, 5] ?_
    conv => whnf
    refine VLoop.ind2 (n0 := 0) (α := Int) (β := Int) noM [0, 1, 5] (fun a b => ⟨27, 0, [(0, .one (.p (.sl (es.map eE)))), (1, vint b), (5, vint a)], []⟩)
      (fun a b => ∃ i : Nat, a = i ∧ i ≤ es.length ∧ 0 ≤ b ∧ b + sumE (es.take i) + (es.length - i) ≤ left ∧ ∀ e ∈ es.take i, e.d.size ≤ 1048576) (fun a _ => ((es.length : Int) - a).toNat) ?_ 0 _ ⟨0, rfl, by omega, by omega, by show _ - _ + ((0 : Nat) : Int) + _ ≤ _; omega, fun e h => by simp at h⟩
    rintro _ b ⟨i, rfl, hi, hb0, hb1, hb2⟩
    conv => whnf
    rw [hm]
    split
    · rename_i q1
      have q1' := of_decide_eq_true q1
      have hil : i < es.length := by omega
      have en : (i : Int).toNat = i := Int.toNat_natCast i
      have hw : IntKind.i64.wrap ((i : Int) + 1) = i + 1 := wi _ (by omega) (by omega)
      obtain ⟨x, hx⟩ : ∃ x, es[i]? = some x := ⟨_, List.getElem?_eq_getElem hil⟩
      have hxm := mem_at hx
      obtain ⟨_, _, ⟨v, rfl, rfl, hv, hv2⟩, hg⟩ := szEq_ex x b hb0 (by omega) (hs x hxm).1 (hs x hxm).2
      conv => whnf
      refine ⟨by omega, by rw [hm]; omega, _, atE es en hx, ?_⟩
      conv => whnf
      refine .mk _ _ false Tryz.call114 hg (Nat.le_of_ble_eq_true rfl) (.inl rfl) ?_
      conv => whnf
      split
      · conv => whnf
        refine ⟨trivial, ?_⟩
        conv => whnf
        exact ⟨_, rfl, rfl, by omega, fun h => by omega⟩
      · rename_i q2
        have q2' := of_decide_eq_false q2
        have e := hv2 (by omega)
        have hsm := sumE_snoc hx
        conv => whnf
        refine ⟨_, _, rfl, rfl, ⟨i + 1, by rw [hw]; simp, by omega, by omega, by rw [hsm]; omega, fun y hy => ?_⟩, by rw [hw]; omega⟩
        rw [take_snoc hx] at hy
        rcases List.mem_append.1 hy with hy | hy
        · exact hb2 y hy
        · cases List.mem_singleton.1 hy; omega
    · rename_i q1
      have q1' := of_decide_eq_false q1
      obtain rfl : i = es.length := by omega
      rw [List.take_length] at hb1 hb2
      conv => whnf
      refine ⟨trivial, ?_⟩
      conv => whnf
      exact ⟨_, rfl, rfl, by omega, fun h => ⟨by omega, hb2⟩⟩
set_option maxHeartbeats 16000000 in
set_option maxRecDepth 100000 in
theorem szPlan_ex (l s : Int) (ws gs : List Int) (left : Int) (h0 : 0 ≤ left) (h1 : left ≤ 1048576) (hw : ws.length ≤ 9223372036854775807) (hg : gs.length ≤ 9223372036854775807) :
    ∃ a out, (∃ v, a = vint v ∧ out = [] ∧ v ≤ left ∧ (0 ≤ v → v = left - ws.length - gs.length)) ∧ Good Tryz.prog 50 [planF l s ws gs, vint left] [] a out := by
  obtain ⟨_, _, ⟨v, rfl, rfl, hv, hv2⟩, hgd⟩ := szIntS_ex ws left h0 h1 hw
  by_cases q : 0 ≤ v
  · obtain ⟨_, _, ⟨u, rfl, rfl, hu, hu2⟩, hgd2⟩ := szIntS_ex gs v q (by omega) hg
    have e := hv2 q
    refine good_v noM Tryz.func50 rfl rfl ?_
    conv => whnf
    refine .mk _ _ false Tryz.call90 hgd (Nat.le_of_ble_eq_true rfl) (.inl rfl) ?_
    conv => whnf
    rw [decide_eq_false (by omega : ¬ v < 0)]
    conv => whnf
    refine .mk _ _ false Tryz.call90 hgd2 (Nat.le_of_ble_eq_true rfl) (.inl rfl) ?_
    conv => whnf
    split
    · conv => whnf
      refine ⟨trivial, ?_⟩
      conv => whnf
      exact ⟨_, rfl, rfl, by omega, fun h => by omega⟩
    · conv => whnf
      refine ⟨trivial, ?_⟩
      conv => whnf
      exact ⟨_, rfl, rfl, by omega, fun h => by have := hu2 h; omega⟩
  · refine good_v noM Tryz.func50 rfl rfl ?_
    conv => whnf
    refine .mk _ _ false Tryz.call90 hgd (Nat.le_of_ble_eq_true rfl) (.inl rfl) ?_
    conv => whnf
    rw [decide_eq_true (by omega : v < 0)]
    conv => whnf
    refine ⟨trivial, ?_⟩
    conv => whnf
    exact ⟨_, rfl, rfl, by omega, fun h => by omega⟩
set_option maxHeartbeats 16000000 in
set_option maxRecDepth 100000 in
theorem szSolver_ex (c z : Int) (es : List Eqn) (left : Int) (h0 : 0 ≤ left) (h1 : left ≤ 1048576) (hn : es.length ≤ 9223372036854775807) (hs : ∀ e ∈ es, e.r.length ≤ 9223372036854775807 ∧ e.d.size ≤ 9223372036854775807) :
    ∃ a out, (∃ v, a = vint v ∧ out = [] ∧ v ≤ left ∧ (0 ≤ v → v + sumE es ≤ left ∧ ∀ e ∈ es, e.d.size ≤ 1048576)) ∧ Good Tryz.prog 51 [solF c z es, vint left] [] a out := by
  obtain ⟨_, _, ⟨v, rfl, rfl, hv, hv2⟩, hgd⟩ := szEqS_ex es left h0 h1 hn hs
  refine good_v noM Tryz.func51 rfl rfl ?_
  conv => whnf
  refine .mk _ _ false Tryz.call91 hgd (Nat.le_of_ble_eq_true rfl) (.inl rfl) ?_
  conv => whnf
  split
  · conv => whnf
    refine ⟨trivial, ?_⟩
    conv => whnf
    exact ⟨_, rfl, rfl, by omega, fun h => by omega⟩
  · conv => whnf
    refine ⟨trivial, ?_⟩
    conv => whnf
    exact ⟨_, rfl, rfl, by omega, hv2⟩
/-- What is known of an argument that is not too long. -/
structure GSz (ws gs : List Int) (es : List Eqn) : Prop where
  n : ws.length + gs.length + sumE es ≤ 1048576
  d : ∀ e ∈ es, e.d.size ≤ 1048576
theorem GSz.bd {ws gs : List Int} {es : List Eqn} (h : GSz ws gs es) (c z : Int) : SBd c z es :=
  ⟨by have := h.n; have := sumE_len es; omega, fun e he => ⟨by have := h.n; have := sumE_mem he; omega, by have := h.d e he; omega⟩⟩
set_option maxHeartbeats 16000000 in
set_option maxRecDepth 100000 in
theorem szGetting_ex (l s : Int) (ws gs : List Int) (c z : Int) (es : List Eqn) (hw : ws.length ≤ 9223372036854775807) (hg : gs.length ≤ 9223372036854775807) (hn : es.length ≤ 9223372036854775807) (hs : ∀ e ∈ es, e.r.length ≤ 9223372036854775807 ∧ e.d.size ≤ 9223372036854775807) :
    ∃ a out, (∃ v, a = vint v ∧ out = [] ∧ (0 ≤ v → GSz ws gs es)) ∧ Good Tryz.prog 17 [getF l s ws gs c z es, vint 1048576] [] a out := by
  obtain ⟨_, _, ⟨v, rfl, rfl, hv, hv2⟩, hgd⟩ := szPlan_ex l s ws gs 1048576 (by omega) (by omega) hw hg
  by_cases q : 0 ≤ v
  · obtain ⟨_, _, ⟨u, rfl, rfl, hu, hu2⟩, hgd2⟩ := szSolver_ex c z es v q (by omega) hn hs
    have e := hv2 q
    refine good_v noM Tryz.func17 rfl rfl ?_
    conv => whnf
    refine .mk _ _ false Tryz.call50 hgd (Nat.le_of_ble_eq_true rfl) (.inl rfl) ?_
    conv => whnf
    rw [decide_eq_false (by omega : ¬ v < 0)]
    conv => whnf
    refine .mk _ _ false Tryz.call51 hgd2 (Nat.le_of_ble_eq_true rfl) (.inl rfl) ?_
    conv => whnf
    split
    · conv => whnf
      refine ⟨trivial, ?_⟩
      conv => whnf
      exact ⟨_, rfl, rfl, fun h => by omega⟩
    · conv => whnf
      refine ⟨trivial, ?_⟩
      conv => whnf
      exact ⟨_, rfl, rfl, fun h => by have := hu2 h; exact ⟨by omega, this.2⟩⟩
  · refine good_v noM Tryz.func17 rfl rfl ?_
    conv => whnf
    refine .mk _ _ false Tryz.call50 hgd (Nat.le_of_ble_eq_true rfl) (.inl rfl) ?_
    conv => whnf
    rw [decide_eq_true (by omega : v < 0)]
    conv => whnf
    refine ⟨trivial, ?_⟩
    conv => whnf
    exact ⟨_, rfl, rfl, fun h => by omega⟩
end Go.Abs.F

set_option linter.unusedSimpArgs false
set_option linter.unusedVariables false
namespace Go.Abs.F
open Go Go.Abs Go.Proofs Go.RowKit
attribute [local irreducible] IntKind.wrap
theorem str_tF {a b : ByteArray} (h : a = b) : (!(a.toList == b.toList)) = false := by subst h; simp
set_option maxHeartbeats 16000000 in
set_option maxRecDepth 100000 in
theorem eqIntS_same (r : List Int) (hr : r.length ≤ 1100000) : Good Tryz.prog 94 [.one (.p (slI r)), .one (.p (slI r))] [] (vbool true) [] := by
  have hm : (r.map eI).length = r.length := List.length_map ..
  refine good_e noM Tryz.func94 rfl rfl ?_
  conv => whnf
  rw [show ((((r.map eI).length : Nat) : Int) != (((r.map eI).length : Nat) : Int)) = false by simp]
  conv => whnf
  refine VLoop.enter [0, 1, 5] ?_
  conv => whnf
  refine VLoop.ind1 (n0 := 0) (α := Int) noM [0, 1, 5] (fun i => ⟨26, 0, [(0, .one (.p (slI r))), (1, .one (.p (slI r))), (5, vint i)], []⟩)
    (fun i => ∃ j : Nat, i = j ∧ j ≤ r.length) (fun i => (r.length - i).toNat) ?_ 0 ⟨0, rfl, by omega⟩
  rintro _ ⟨i, rfl, hi⟩
  conv => whnf
  rw [hm]
  split
  · rename_i k
    have k' := of_decide_eq_true k
    have hil : i < r.length := by omega
    have en : (i : Int).toNat = i := Int.toNat_natCast i
    have hw : IntKind.i64.wrap ((i : Int) + 1) = i + 1 := wi _ (by omega) (by omega)
    conv => whnf
    refine VDraw.goR [0, 0, 3, 7, 0, 0, 48, 112, 255] [] [] [] rfl (by decide +kernel) ?_
    conv => whnf
    refine ⟨by omega, by rw [hm]; omega, _, atI r en hil, ?_⟩
    conv => whnf
    refine ⟨by omega, by rw [hm]; omega, _, atI r en hil, ?_⟩
    conv => whnf
    rw [show ((r.getD i 0 : Int) != r.getD i 0) = false by simp]
    conv => whnf
    refine ⟨_, rfl, rfl, ⟨i + 1, by rw [hw]; simp, by omega⟩, by rw [hw]; omega⟩
  · conv => whnf
    refine ⟨trivial, ?_⟩
    conv => whnf
    exact ⟨rfl, rfl⟩
set_option maxHeartbeats 16000000 in
set_option maxRecDepth 100000 in
theorem eqEq_same (x : Eqn) (hr : x.r.length ≤ 1100000) : Good Tryz.prog 116 [.agg [.p (slI x.r), .p (.lit (.string x.d))], .agg [.p (slI x.r), .p (.lit (.string x.d))]] [] (vbool true) [] := by
  refine good_e noM Tryz.func116 rfl rfl ?_
  conv => whnf
  refine .mk _ _ false Tryz.call94 (eqIntS_same x.r hr) (Nat.le_of_ble_eq_true rfl) (.inl rfl) ?_
  conv => whnf
  rw [str_tF rfl]
  conv => whnf
  refine ⟨trivial, ?_⟩
  conv => whnf
  exact ⟨rfl, rfl⟩
set_option maxHeartbeats 16000000 in
set_option maxRecDepth 100000 in
theorem eqEqS_same (es : List Eqn) (hn : es.length ≤ 1100000) (hr : ∀ e ∈ es, e.r.length ≤ 1100000) : Good Tryz.prog 95 [.one (.p (.sl (es.map eE))), .one (.p (.sl (es.map eE)))] [] (vbool true) [] := by
  have hm : (es.map eE).length = es.length := List.length_map ..
  refine good_e noM Tryz.func95 rfl rfl ?_
  conv => whnf
  rw [show ((((es.map eE).length : Nat) : Int) != (((es.map eE).length : Nat) : Int)) = false by simp]
  conv => whnf
  refine VLoop.enter [0, 1, 5] ?_
  conv => whnf
  refine VLoop.ind1 (n0 := 0) (α := Int) noM [0, 1, 5] (fun i => ⟨27, 0, [(0, .one (.p (.sl (es.map eE)))), (1, .one (.p (.sl (es.map eE)))), (5, vint i)], []⟩)
    (fun i => ∃ j : Nat, i = j ∧ j ≤ es.length) (fun i => (es.length - i).toNat) ?_ 0 ⟨0, rfl, by omega⟩
  rintro _ ⟨i, rfl, hi⟩
  conv => whnf
  rw [hm]
  split
  · rename_i k
    have k' := of_decide_eq_true k
    have hil : i < es.length := by omega
    have en : (i : Int).toNat = i := Int.toNat_natCast i
    have hw : IntKind.i64.wrap ((i : Int) + 1) = i + 1 := wi _ (by omega) (by omega)
    obtain ⟨x, hx⟩ : ∃ x, es[i]? = some x := ⟨_, List.getElem?_eq_getElem hil⟩
    have hxm := mem_at hx
    conv => whnf
    refine VDraw.goR [0, 0, 3, 7, 0, 0, 48, 112, 255, 511] [8] [] [] rfl (by decide +kernel) ?_
    conv => whnf
    refine ⟨by omega, by rw [hm]; omega, _, atE es en hx, ?_⟩
    conv => whnf
    refine ⟨by omega, by rw [hm]; omega, _, atE es en hx, ?_⟩
    conv => whnf
    refine .mk _ _ false Tryz.call116 (eqEq_same x (hr x hxm)) (Nat.le_of_ble_eq_true rfl) (.inl rfl) ?_
    conv => whnf
    refine ⟨_, rfl, rfl, ⟨i + 1, by rw [hw]; simp, by omega⟩, by rw [hw]; omega⟩
  · conv => whnf
    refine ⟨trivial, ?_⟩
    conv => whnf
    exact ⟨rfl, rfl⟩
theorem neqF (a : Int) : (a != a) = false := by simp
set_option maxHeartbeats 16000000 in
set_option maxRecDepth 100000 in
theorem eqPlan_same (l s : Int) (ws gs : List Int) (hw : ws.length ≤ 1100000) (hg : gs.length ≤ 1100000) : Good Tryz.prog 54 [planF l s ws gs, planF l s ws gs] [] (vbool true) [] := by
  refine good_e noM Tryz.func54 rfl rfl ?_
  conv => whnf
  rw [neqF]
  conv => whnf
  rw [neqF]
  conv => whnf
  refine .mk _ _ false Tryz.call94 (eqIntS_same ws hw) (Nat.le_of_ble_eq_true rfl) (.inl rfl) ?_
  conv => whnf
  refine .mk _ _ false Tryz.call94 (eqIntS_same gs hg) (Nat.le_of_ble_eq_true rfl) (.inl rfl) ?_
  conv => whnf
  refine ⟨trivial, ?_⟩
  conv => whnf
  exact ⟨rfl, rfl⟩
set_option maxHeartbeats 16000000 in
set_option maxRecDepth 100000 in
theorem eqSolver_same (c z : Int) (es : List Eqn) (hB : SBd c z es) : Good Tryz.prog 55 [solF c z es, solF c z es] [] (vbool true) [] := by
  refine good_e noM Tryz.func55 rfl rfl ?_
  conv => whnf
  rw [neqF]
  conv => whnf
  rw [neqF]
  conv => whnf
  refine .mk _ _ false Tryz.call95 (eqEqS_same es hB.n fun e he => (hB.r e he).1) (Nat.le_of_ble_eq_true rfl) (.inl rfl) ?_
  conv => whnf
  refine ⟨trivial, ?_⟩
  conv => whnf
  exact ⟨rfl, rfl⟩
set_option maxHeartbeats 16000000 in
set_option maxRecDepth 100000 in
theorem eqGetting_same (l s : Int) (ws gs : List Int) (c z : Int) (es : List Eqn) (hw : ws.length ≤ 1100000) (hg : gs.length ≤ 1100000) (hB : SBd c z es) : Good Tryz.prog 19 [getF l s ws gs c z es, getF l s ws gs c z es] [] (vbool true) [] := by
  refine good_e noM Tryz.func19 rfl rfl ?_
  conv => whnf
  refine .mk _ _ false Tryz.call54 (eqPlan_same l s ws gs hw hg) (Nat.le_of_ble_eq_true rfl) (.inl rfl) ?_
  conv => whnf
  refine .mk _ _ false Tryz.call55 (eqSolver_same c z es hB) (Nat.le_of_ble_eq_true rfl) (.inl rfl) ?_
  conv => whnf
  refine ⟨trivial, ?_⟩
  conv => whnf
  exact ⟨rfl, rfl⟩
/-- The same at values that say more. -/
theorem good_arg {own : Bool} {P : Program} {f : FuncId} {args args' : List AV} {lent out : List Blk} {r : AV} (h : GoodO own P f args' lent r out) (hl : args.length = args'.length)
    (ha : ∀ (i : Nat) a a', args[i]? = some a → args'[i]? = some a' → (∀ (w : World) (S : Kx → Prop) (σ : Nat → Loc) (v : Value), RepV w S σ a v → RepV w S σ a' v) ∧ (a.InA (· < lent.length) → a'.InA (· < lent.length))) : GoodO own P f args lent r out := by
  intro w vs σ S h1 h2 h3 h4 h5 h6 h7 h8
  have at1 : ∀ i a', args'[i]? = some a' → ∃ a, args[i]? = some a := fun i a' q => by
    have := (List.getElem?_eq_some_iff.1 q).1
    exact ⟨_, List.getElem?_eq_getElem (by omega)⟩
  refine h w vs σ S (hl ▸ h1) (fun i a' v q1 q2 => ?_) (fun a' hm => ?_) h4 h5 h6 h7 h8
  · obtain ⟨a, e⟩ := at1 i a' q1
    exact (ha i a a' e q1).1 w S σ v (h2 i a v e q2)
  · obtain ⟨i, hi⟩ := List.mem_iff_getElem?.1 hm
    obtain ⟨a, e⟩ := at1 i a' hi
    exact (ha i a a' e hi).2 (h3 a (List.mem_of_getElem? e))
theorem getN_rep {w : World} {S : Kx → Prop} {σ : Nat → Loc} {v : Value} (h : RepV w S σ getN v) : RepV w S σ (getF 0 0 [] [] 0 0 []) v := by
  cases h with
  | agg _ vs hl hr =>
    refine .agg _ vs hl fun i c u h1 h2 => ?_
    rcases i with _ | _ | _ | _ | _ | _ | _ | i
    · cases h1; exact hr 0 _ u rfl h2
    · cases h1; exact hr 1 _ u rfl h2
    · cases h1; exact nil_rep (hr 2 _ u rfl h2)
    · cases h1; exact nil_rep (hr 3 _ u rfl h2)
    · cases h1; exact hr 4 _ u rfl h2
    · cases h1; exact hr 5 _ u rfl h2
    · cases h1; exact nil_rep (hr 6 _ u rfl h2)
    · simp at h1
theorem getN_in {A : Nat → Prop} : (getF 0 0 [] [] 0 0 []).InA A := .agg fun c hc => by
  simp only [List.mem_cons, List.not_mem_nil, or_false] at hc
  rcases hc with rfl | rfl | rfl | rfl | rfl | rfl | rfl <;> trivial
theorem eqGetting_no : Good Tryz.prog 19 [getN, getN] [] (vbool true) [] := by
  refine good_arg (eqGetting_same 0 0 [] [] 0 0 [] (Nat.zero_le _) (Nat.zero_le _) ⟨Nat.zero_le _, fun e h => by cases h⟩) rfl fun i a a' q1 q2 => ?_
  rcases i with _ | _ | i
  · cases q1; cases q2; exact ⟨fun w S σ v h => getN_rep h, fun _ => getN_in⟩
  · cases q1; cases q2; exact ⟨fun w S σ v h => getN_rep h, fun _ => getN_in⟩
  · cases q1
end Go.Abs.F

set_option linter.unusedSimpArgs false
set_option linter.unusedVariables false
namespace Go.Abs.F
open Go Go.Abs Go.Proofs Go.RowKit
attribute [local irreducible] IntKind.wrap
set_option maxHeartbeats 16000000 in
set_option maxRecDepth 100000 in
theorem markText_ex (n : Int) (h1 : 1 ≤ n) (h2 : n ≤ 1000000000) : ∃ r out, (∃ s : ByteArray, r = vstr s ∧ out = []) ∧ Good Tryz.prog 117 [vint n] [] r out := by
  refine good_v noM Tryz.func117 rfl rfl ?_
  conv => whnf
  rw [decide_eq_false (by omega : ¬ n ≤ 0)]
  conv => whnf
  refine VLoop.enter [0, 3] ?_
  conv => whnf
  refine VLoop.ind2 (n0 := 0) (α := Int) (β := ByteArray) noM [0, 3] (fun i s => ⟨20, 0, [(0, vint i), (3, vstr s)], []⟩)
    (fun i s => 0 ≤ i ∧ (s.size : Int) + i ≤ 1000000000) (fun i _ => i.toNat) ?_ n ⟨#[]⟩ ⟨by omega, by show ((0 : Nat) : Int) + n ≤ _; omega⟩
  rintro i s ⟨h0, h3⟩
  conv => whnf
  split
  · rename_i k
    have k' := of_decide_eq_true k
    conv => whnf
    refine ⟨trivial, ?_⟩
    conv => whnf
    refine ⟨⟨Nat.le_refl 1, fun el hel => by cases List.mem_singleton.1 hel; exact ⟨_, rfl⟩⟩, ?_⟩
    conv => whnf
    rw [abin_cat (a := _) (b := _) rfl rfl (by rw [elsBytes_size]; show 1 + s.size ≤ _; omega)]
    conv => whnf
    have hw : IntKind.i64.wrap (i.tdiv 10) = i / 10 := by rw [Int.tdiv_eq_ediv_of_nonneg h0, wrap_in _ (by omega) (by omega)]
    refine ⟨_, _, rfl, rfl, ⟨by rw [hw]; omega, ?_⟩, by rw [hw]; omega⟩
    rw [hw, ByteArray.size_append, elsBytes_size]
    show ((1 + s.size : Nat) : Int) + _ ≤ _
    omega
  · conv => whnf
    rw [abin_cat (a := _) (b := _) rfl rfl (by show 1 + s.size ≤ _; omega)]
    conv => whnf
    refine ⟨trivial, ?_⟩
    conv => whnf
    exact ⟨_, rfl, rfl⟩
theorem mark_fn : ∃ M : Int → ByteArray, ∀ n, 1 ≤ n → n ≤ 1000000000 → Good Tryz.prog 117 [vint n] [] (vstr (M n)) [] := by
  have h : ∀ n : Int, ∃ s : ByteArray, 1 ≤ n → n ≤ 1000000000 → Good Tryz.prog 117 [vint n] [] (vstr s) [] := fun n => by
    by_cases h1 : 1 ≤ n
    · by_cases h2 : n ≤ 1000000000
      · obtain ⟨_, _, ⟨s, rfl, rfl⟩, hg⟩ := markText_ex n h1 h2
        exact ⟨s, fun _ _ => hg⟩
      · exact ⟨⟨#[]⟩, fun _ q => (h2 q).elim⟩
    · exact ⟨⟨#[]⟩, fun q => (h1 q).elim⟩
  exact ⟨fun n => (h n).choose, fun n => (h n).choose_spec⟩
/-- The marks of a row. -/
def mkI (m : Int) (n : Nat) : List Int := tab n fun k => m + k
theorem mkI_len (m : Int) (n : Nat) : (mkI m n).length = n := tab_length
theorem mkI_at (m : Int) {n i : Nat} (h : i < n) : (mkI m n).getD i 0 = m + i := tab_getD 0 h
theorem mkI_eI (m : Int) (n : Nat) : (mkI m n).map eI = tab n fun k => eI (m + k) := by
  unfold mkI tab; rw [List.map_map]; rfl
/-- The marks of equations. -/
def mkE (M : Int → ByteArray) : Int → List Eqn → List Eqn
  | _, [] => []
  | m, x :: xs => ⟨mkI m x.r.length, M (m + x.r.length)⟩ :: mkE M (m + x.r.length + 1) xs
theorem mkE_len (M : Int → ByteArray) : ∀ (es : List Eqn) (m : Int), (mkE M m es).length = es.length
  | [], m => rfl
  | x :: xs, m => by show (mkE M _ xs).length + 1 = _; rw [mkE_len M xs]; rfl
theorem mkE_at (M : Int → ByteArray) : ∀ (es : List Eqn) (m : Int) (i : Nat) (x : Eqn), es[i]? = some x → (mkE M m es)[i]? = some ⟨mkI (m + sumE (es.take i)) x.r.length, M (m + sumE (es.take i) + x.r.length)⟩
  | [], m, i, x, h => by simp at h
  | y :: ys, m, 0, x, h => by
    cases h
    show some (⟨mkI m y.r.length, M (m + y.r.length)⟩ : Eqn) = some ⟨mkI (m + ((0 : Nat) : Int)) y.r.length, M (m + ((0 : Nat) : Int) + y.r.length)⟩
    rw [Int.natCast_zero, Int.add_zero]
  | y :: ys, m, i + 1, x, h => by
    have ih := mkE_at M ys (m + y.r.length + 1) i x h
    show (mkE M (m + y.r.length + 1) ys)[i]? = _
    rw [ih]
    have e : m + (y.r.length : Int) + 1 + (sumE (ys.take i) : Nat) = m + (sumE ((y :: ys).take (i + 1)) : Nat) := by
      show _ = m + ((y.r.length + 1 + sumE (ys.take i) : Nat) : Int)
      omega
    rw [e]
theorem sumE_mk (M : Int → ByteArray) : ∀ (es : List Eqn) (m : Int), sumE (mkE M m es) = sumE es
  | [], m => rfl
  | x :: xs, m => by
    show (mkI m x.r.length).length + 1 + sumE (mkE M _ xs) = x.r.length + 1 + sumE xs
    rw [mkI_len, sumE_mk M xs]
theorem sumE_take_le (es : List Eqn) (i : Nat) : sumE (es.take i) ≤ sumE es := by
  have := sumE_app (es.take i) (es.drop i)
  rw [List.take_append_drop] at this; omega
set_option maxHeartbeats 16000000 in
set_option maxRecDepth 100000 in
theorem markIntS_ok (r : List Int) (m : Int) (hr : r.length ≤ 1100000) (h1 : 1 ≤ m) (h2 : m ≤ 10000000) : Good Tryz.prog 96 [.one (.hs 0 0 r.length), vint m] [.arr 1 (r.map eI)] (vint (m + r.length)) [.arr 1 ((mkI m r.length).map eI)] := by
  refine good_e noM Tryz.func96 rfl rfl ?_
  conv => whnf
  refine VLoop.enter [0, 1, 5] ?_
  conv => whnf
  refine VLoop.ind3 (n0 := 1) (α := Int) (β := Int) (γ := List (List PV)) noM [0, 1, 5] (fun a i E => ⟨19, 1, [(0, .one (.hs 0 0 r.length)), (1, vint a), (5, vint i)], [(0, some (.arr 1 E))]⟩)
    (fun a i E => ∃ n : Nat, i = n ∧ a = m + n ∧ n ≤ r.length ∧ E = mid r.length n (fun k => eI (m + k)) (fun k => eI (r.getD k 0))) (fun _ i _ => (r.length - i).toNat) ?_ m 0 _ ⟨0, rfl, by omega, Nat.zero_le _, by rw [mid_zero]; exact tab_of r eI 0⟩
  rintro _ _ _ ⟨n, rfl, rfl, hn, rfl⟩
  conv => whnf
  split
  · rename_i k
    have k' := of_decide_eq_true k
    have e0 : 0 + (n : Int).toNat = n := by omega
    conv => whnf
    refine ⟨by omega, by omega, by rw [mid_length]; omega, ?_⟩
    conv => whnf
    refine ⟨_, mid_getD [] e0 (by omega), by rw [mid_length]; omega, ?_⟩
    conv => whnf
    have hw1 : IntKind.i64.wrap ((n : Int) + 1) = ((n + 1 : Nat) : Int) := by rw [wrap_in _ (by omega) (by omega)]; omega
    have hw2 : IntKind.i64.wrap (m + (n : Int) + 1) = m + ((n + 1 : Nat) : Int) := by rw [wrap_in _ (by omega) (by omega)]; omega
    refine ⟨_, _, _, rfl, rfl, ⟨n + 1, hw1, hw2, by omega, mid_set e0 rfl (by omega)⟩, by rw [hw1]; omega⟩
  · rename_i k
    have k' := of_decide_eq_false k
    obtain rfl : n = r.length := by omega
    rw [mid_all, mkI_eI]
    conv => whnf
    refine ⟨trivial, ?_⟩
    conv => whnf
    exact ⟨rfl, rfl⟩
set_option maxHeartbeats 16000000 in
set_option maxRecDepth 100000 in
theorem heldIntS_ok (m : Int) (n : Nat) (hr : n ≤ 1100000) (h1 : 1 ≤ m) (h2 : m ≤ 10000000) : Good Tryz.prog 98 [.one (.p (slI (mkI m n))), vint m] [] (vint (m + n)) [] := by
  have hm : ((mkI m n).map eI).length = n := by rw [List.length_map, mkI_len]
  refine good_e noM Tryz.func98 rfl rfl ?_
  conv => whnf
  refine VLoop.enter [0, 1, 5] ?_
  conv => whnf
  refine VLoop.ind2 (n0 := 0) (α := Int) (β := Int) noM [0, 1, 5] (fun a i => ⟨21, 0, [(0, .one (.p (slI (mkI m n)))), (1, vint a), (5, vint i)], []⟩)
    (fun a i => ∃ k : Nat, i = k ∧ a = m + k ∧ k ≤ n) (fun _ i => (n - i).toNat) ?_ m 0 ⟨0, rfl, by omega, Nat.zero_le _⟩
  rintro _ _ ⟨k, rfl, rfl, hk⟩
  conv => whnf
  rw [hm]
  split
  · rename_i q
    have q' := of_decide_eq_true q
    have hil : k < n := by omega
    have en : (k : Int).toNat = k := Int.toNat_natCast k
    conv => whnf
    refine ⟨by omega, by rw [hm]; omega, _, atI (mkI m n) en (by rw [mkI_len]; exact hil), ?_⟩
    conv => whnf
    rw [mkI_at m hil, neqF]
    conv => whnf
    have hw1 : IntKind.i64.wrap ((k : Int) + 1) = ((k + 1 : Nat) : Int) := by rw [wrap_in _ (by omega) (by omega)]; omega
    have hw2 : IntKind.i64.wrap (m + (k : Int) + 1) = m + ((k + 1 : Nat) : Int) := by rw [wrap_in _ (by omega) (by omega)]; omega
    refine ⟨_, _, rfl, rfl, ⟨k + 1, hw1, hw2, by omega⟩, by rw [hw1]; omega⟩
  · rename_i q
    have q' := of_decide_eq_false q
    obtain rfl : k = n := by omega
    conv => whnf
    refine ⟨trivial, ?_⟩
    conv => whnf
    exact ⟨rfl, rfl⟩
set_option maxHeartbeats 16000000 in
set_option maxRecDepth 100000 in
theorem heldEqS_ok (M : Int → ByteArray) (hM : ∀ n, 1 ≤ n → n ≤ 1000000000 → Good Tryz.prog 117 [vint n] [] (vstr (M n)) []) (m : Int) (es : List Eqn) (hs : sumE es ≤ 1100000) (h1 : 1 ≤ m) (h2 : m ≤ 5000000) :
    Good Tryz.prog 99 [.one (.p (.sl ((mkE M m es).map eE))), vint m] [] (vint (m + sumE es)) [] := by
  have hm : ((mkE M m es).map eE).length = es.length := by rw [List.length_map, mkE_len]
  have hn := sumE_len es
  refine good_e noM Tryz.func99 rfl rfl ?_
  conv => whnf
  refine VLoop.enter [0, 1, 5] ?_
  conv => whnf
  refine VLoop.ind2 (n0 := 0) (α := Int) (β := Int) noM [0, 1, 5] (fun a i => ⟨32, 0, [(0, .one (.p (.sl ((mkE M m es).map eE)))), (1, vint a), (5, vint i)], []⟩)
    (fun a i => ∃ k : Nat, i = k ∧ a = m + sumE (es.take k) ∧ k ≤ es.length) (fun _ i => (es.length - i).toNat) ?_ m 0 ⟨0, rfl, by show m = m + ((0 : Nat) : Int); omega, Nat.zero_le _⟩
  rintro _ _ ⟨k, rfl, rfl, hk⟩
  conv => whnf
  rw [hm]
  split
  · rename_i q
    have q' := of_decide_eq_true q
    have hil : k < es.length := by omega
    have en : (k : Int).toNat = k := Int.toNat_natCast k
    obtain ⟨x, hx⟩ : ∃ x, es[k]? = some x := ⟨_, List.getElem?_eq_getElem hil⟩
    have hxm := mem_at hx
    have hxs := sumE_mem hxm
    have hsm := sumE_snoc hx
    have hst := sumE_take_le es (k + 1)
    have hat := mkE_at M es m k x hx
    obtain ⟨a, ha⟩ : ∃ a : Int, a = m + sumE (es.take k) := ⟨_, rfl⟩
    rw [← ha] at hat ⊢
    have hg := heldIntS_ok a x.r.length (by omega) (by omega) (by omega)
    conv => whnf
    refine ⟨by omega, by rw [hm]; omega, _, atE (mkE M m es) en hat, ?_⟩
    conv => whnf
    refine .mk _ _ false Tryz.call98 hg (Nat.le_of_ble_eq_true rfl) (.inl rfl) ?_
    conv => whnf
    rw [decide_eq_false (by omega : ¬ a + (x.r.length : Int) < 0)]
    conv => whnf
    refine VDraw.goR [0, 0, 3, 7, 15, 0, 32, 127] [6] [] [] rfl (by decide +kernel) ?_
    conv => whnf
    refine ⟨by omega, by rw [hm]; omega, _, atE (mkE M m es) en hat, ?_⟩
    conv => whnf
    refine .mk _ _ false Tryz.call117 (hM (a + x.r.length) (by omega) (by omega)) (Nat.le_of_ble_eq_true rfl) (.inl rfl) ?_
    conv => whnf
    rw [str_tF rfl]
    conv => whnf
    have hw1 : IntKind.i64.wrap ((k : Int) + 1) = ((k + 1 : Nat) : Int) := by rw [wrap_in _ (by omega) (by omega)]; omega
    have hw2 : IntKind.i64.wrap (a + (x.r.length : Int) + 1) = m + sumE (es.take (k + 1)) := by rw [wrap_in _ (by omega) (by omega), hsm]; omega
    refine ⟨_, _, rfl, rfl, ⟨k + 1, hw1, hw2, by omega⟩, by rw [hw1]; omega⟩
  · rename_i q
    have q' := of_decide_eq_false q
    obtain rfl : k = es.length := by omega
    rw [List.take_length]
    conv => whnf
    refine ⟨trivial, ?_⟩
    conv => whnf
    exact ⟨rfl, rfl⟩
set_option maxHeartbeats 16000000 in
set_option maxRecDepth 100000 in
theorem heldPlan_ok (l s : Int) (m : Int) (a b : Nat) (ha : a ≤ 1100000) (hb : b ≤ 1100000) (h1 : 1 ≤ m) (h2 : m ≤ 5000000) : Good Tryz.prog 58 [planF l s (mkI m a) (mkI (m + a) b), vint m] [] (vint (m + a + b)) [] := by
  refine good_e noM Tryz.func58 rfl rfl ?_
  conv => whnf
  refine .mk _ _ false Tryz.call98 (heldIntS_ok m a ha h1 (by omega)) (Nat.le_of_ble_eq_true rfl) (.inl rfl) ?_
  conv => whnf
  rw [decide_eq_false (by omega : ¬ m + (a : Int) < 0)]
  conv => whnf
  refine .mk _ _ false Tryz.call98 (heldIntS_ok (m + a) b hb (by omega) (by omega)) (Nat.le_of_ble_eq_true rfl) (.inl rfl) ?_
  conv => whnf
  rw [decide_eq_false (by omega : ¬ m + (a : Int) + b < 0)]
  conv => whnf
  refine ⟨trivial, ?_⟩
  conv => whnf
  exact ⟨rfl, rfl⟩
set_option maxHeartbeats 16000000 in
set_option maxRecDepth 100000 in
theorem heldSolver_ok (M : Int → ByteArray) (hM : ∀ n, 1 ≤ n → n ≤ 1000000000 → Good Tryz.prog 117 [vint n] [] (vstr (M n)) []) (c z : Int) (m : Int) (es : List Eqn) (hs : sumE es ≤ 1100000) (h1 : 1 ≤ m) (h2 : m ≤ 5000000) :
    Good Tryz.prog 59 [solF c z (mkE M m es), vint m] [] (vint (m + sumE es)) [] := by
  refine good_e noM Tryz.func59 rfl rfl ?_
  conv => whnf
  refine .mk _ _ false Tryz.call99 (heldEqS_ok M hM m es hs h1 h2) (Nat.le_of_ble_eq_true rfl) (.inl rfl) ?_
  conv => whnf
  rw [decide_eq_false (by omega : ¬ m + (sumE es : Int) < 0)]
  conv => whnf
  refine ⟨trivial, ?_⟩
  conv => whnf
  exact ⟨rfl, rfl⟩
set_option maxHeartbeats 16000000 in
set_option maxRecDepth 100000 in
theorem heldGetting_ok (M : Int → ByteArray) (hM : ∀ n, 1 ≤ n → n ≤ 1000000000 → Good Tryz.prog 117 [vint n] [] (vstr (M n)) []) (l s c z : Int) (a b : Nat) (es : List Eqn) (ha : a ≤ 1100000) (hb : b ≤ 1100000) (hs : sumE es ≤ 1100000) :
    Good Tryz.prog 21 [getF l s (mkI 1 a) (mkI (1 + a) b) c z (mkE M (1 + a + b) es), vint 1] [] (vint (1 + a + b + sumE es)) [] := by
  refine good_e noM Tryz.func21 rfl rfl ?_
  conv => whnf
  refine .mk _ _ false Tryz.call58 (heldPlan_ok l s 1 a b ha hb (by omega) (by omega)) (Nat.le_of_ble_eq_true rfl) (.inl rfl) ?_
  conv => whnf
  rw [decide_eq_false (by omega : ¬ 1 + (a : Int) + b < 0)]
  conv => whnf
  refine .mk _ _ false Tryz.call59 (heldSolver_ok M hM c z (1 + a + b) es hs (by omega) (by omega)) (Nat.le_of_ble_eq_true rfl) (.inl rfl) ?_
  conv => whnf
  rw [decide_eq_false (by omega : ¬ 1 + (a : Int) + b + (sumE es : Int) < 0)]
  conv => whnf
  refine ⟨trivial, ?_⟩
  conv => whnf
  exact ⟨rfl, rfl⟩
end Go.Abs.F

set_option linter.unusedSimpArgs false
set_option linter.unusedVariables false
namespace Go.Abs.F
open Go Go.Abs Go.Proofs Go.RowKit
attribute [local irreducible] IntKind.wrap
theorem calls_vX {P : Program} (own : Option Tmp) (tg : List Ex) {f : FuncId} {fn : Func} {c : Code} (M : FuncId → Bool) (hf : P.funcs[f]? = some fn) (hb : fn.body = some c) {args : List AV} {lent : List Blk} (hn : Nat.ble args.length fn.ntmps = true) {Qf : AV → List Blk → Prop}
    (h : lenN lent fun nl => vcode P M c (vfin P fn.results.toList Qf) nl ⟨fn.ntmps, ⟨nl, own, tg⟩, argT 0 args, lentB 0 lent⟩) : ∃ r out, Qf r out ∧ ∀ (w : World) (vs : Array Value) (σ : Nat → Loc) (S : Kx → Prop),
    args.length = vs.size → (∀ (i : Nat) av v, args[i]? = some av → vs[i]? = some v → RepV w S σ av v) → (∀ av ∈ args, av.InA (· < lent.length)) →
    (∀ (b : Nat) blk, lent[b]? = some blk → BlkRep w S σ b blk ∧ blk.inA (· < lent.length) ∧ ∀ x, S x → x.b ≠ (σ b).k) →
    (∀ b b', b < lent.length → b' < lent.length → b ≠ b' → (σ b).k ≠ (σ b').k) → (∀ k, S k → k.b < w.heap.size) → Glob w S → Go.Abs.SOk S → (own = none → Free S) → (∀ e ∈ tg, S (.t e.k e.t) ∧ e.ok w) →
    Calls P f vs w fun en w' => ∃ v, en = .returned v ∧ PostX own.isSome w lent.length σ S r out v w' :=
  calls_ofX own tg hf hb (Nat.le_of_ble_eq_true hn) ((vcode_sound c ((lenN_iff lent _).1 h)).mono vfin_fin)
theorem good_eM {P : Program} (t : Tmp) {f : FuncId} {fn : Func} {c : Code} (M : FuncId → Bool) (hf : P.funcs[f]? = some fn) (hb : fn.body = some c) {args : List AV} {lent : List Blk} (hn : Nat.ble args.length fn.ntmps = true) {r0 : AV} {out0 : List Blk}
    (h : lenN lent fun nl => vcode P M c (vfin P fn.results.toList (fun r out => r = r0 ∧ out = out0)) nl ⟨fn.ntmps, ⟨nl, some t, []⟩, argT 0 args, lentB 0 lent⟩) : GoodM P f args lent r0 out0 := by
  obtain ⟨r, out, ⟨rfl, rfl⟩, h⟩ := good_ofM t hf hb (Nat.le_of_ble_eq_true hn) ((vcode_sound c ((lenN_iff lent _).1 h)).mono vfin_fin)
  assumption
set_option maxHeartbeats 16000000 in
set_option maxRecDepth 100000 in
theorem markIntS_nil (m : Int) : Good Tryz.prog 96 [.one (.p (.sl [])), vint m] [] (vint m) [] := by
  refine good_e noM Tryz.func96 rfl rfl ?_
  conv => whnf
  refine VLoop.step noM ?_
  conv => whnf
  refine ⟨trivial, ?_⟩
  conv => whnf
  exact ⟨rfl, rfl⟩
theorem markRow (n : Nat) (m : Int) (hr : n ≤ 1100000) (h1 : 1 ≤ m) (h2 : m ≤ 10000000) : RowC Tryz.prog 96 n (.int .i64 m) (mkI m n) (.int .i64 (m + n)) where
  len := mkI_len m n
  g rs h := by
    have := markIntS_ok rs m (by omega) h1 h2
    rw [h] at this
    exact this
  g0 h := by
    subst h
    have := markIntS_nil m
    rw [show m + ((0 : Nat) : Int) = m by omega]
    exact this
/-- A row's cells, before its mark. -/
@[reducible] def rowX (Ad : Nat → Option Addr) (Cp : Nat → Nat) (es : List Eqn) (i : Nat) : List PV := [.lit (.slice (Ad i) (es.getD i zQ).r.length (Cp i)), .lit (.string (es.getD i zQ).d)]
@[reducible] def rowY (M : Int → ByteArray) (m : Int) (ts : List Nat) (es : List Eqn) (i : Nat) : List PV := eO (ts.getD i 0) ((mkE M m es).getD i zQ)
theorem tab_rowY (M : Int → ByteArray) (m : Int) (ts : List Nat) (es : List Eqn) (hl : ts.length = es.length) : tab es.length (rowY M m ts es) = oE ts (mkE M m es) := by
  apply List.ext_getElem?
  intro i
  unfold oE
  rw [tab_get?, List.getElem?_zipWith]
  by_cases h : i < es.length
  · have h2 : i < (mkE M m es).length := by rw [mkE_len]; exact h
    rw [if_pos h, List.getElem?_eq_getElem (show i < ts.length by omega), List.getElem?_eq_getElem h2]
    show some (eO (ts.getD i 0) ((mkE M m es).getD i zQ)) = _
    rw [List.getD_eq_getElem?_getD, List.getD_eq_getElem?_getD, List.getElem?_eq_getElem (show i < ts.length by omega), List.getElem?_eq_getElem h2]; rfl
  · rw [if_neg h, List.getElem?_eq_none (show ts.length ≤ i by omega)]
theorem told_set {e : Ex} {rs' : List Int} {L : List (List PV)} {k : Nat} {d : PV} (h : L[k]? = some [.lit e.v, d]) : Told e rs' L (L.set k [.own e.t (rs'.map eIx), d]) := by
  refine ⟨List.length_set .., fun i el' hi => ?_⟩
  by_cases q : k = i
  · subst q
    have hlt := (List.getElem?_eq_some_iff.1 h).1
    rw [List.getElem?_set_self hlt] at hi
    cases hi
    refine ⟨_, h, rfl, fun j x' hj => ?_⟩
    rcases j with _ | _ | j
    · cases hj; exact .inr ⟨rfl, rfl⟩
    · cases hj; exact .inl rfl
    · simp at hj
  · rw [List.getElem?_set_ne q] at hi
    exact ⟨el', hi, rfl, fun j x' hj => .inl hj⟩
theorem mid_get? {α : Type} {n i : Nat} {f g : Nat → α} {j : Nat} : (mid n i f g)[j]? = if j < n then some (if j < i then f j else g j) else none := by
  unfold mid; rw [tab_get?]
set_option maxHeartbeats 16000000 in
set_option maxRecDepth 100000 in
theorem markEqS_w (M : Int → ByteArray) (hM : ∀ n, 1 ≤ n → n ≤ 1000000000 → Good Tryz.prog 117 [vint n] [] (vstr (M n)) []) (m : Int) (ts : List Nat) (es : List Eqn) (hn : ts.Nodup) (hl : ts.length = es.length) (hs : sumE es ≤ 1100000) (h1 : 1 ≤ m) (h2 : m ≤ 5000000)
    (K : Nat → Nat) (Ad : Nat → Option Addr) (Cp : Nat → Nat) (tg : List Ex) (htg : tg = tab es.length fun i => ⟨K i, ts.getD i 0, (es.getD i zQ).r.length, .slice (Ad i) (es.getD i zQ).r.length (Cp i)⟩) (hK : ∀ i j, i < es.length → j < es.length → K i = K j → i = j) :
    ∃ r out, (r = vint (m + sumE es) ∧ out = [Blk.arr 2 (oE ts (mkE M m es))]) ∧ ∀ (w : World) (vs : Array Value) (σ : Nat → Loc) (S : Kx → Prop),
    [.one (.hs 0 0 es.length), vint m].length = vs.size → (∀ (i : Nat) av v, [.one (.hs 0 0 es.length), vint m][i]? = some av → vs[i]? = some v → RepV w S σ av v) → (∀ av ∈ [.one (.hs 0 0 es.length), vint m], av.InA (· < 1)) →
    (∀ (b : Nat) blk, [Blk.arr 2 (tab es.length (rowX Ad Cp es))][b]? = some blk → BlkRep w S σ b blk ∧ blk.inA (· < 1) ∧ ∀ x, S x → x.b ≠ (σ b).k) →
    (∀ b b', b < 1 → b' < 1 → b ≠ b' → (σ b).k ≠ (σ b').k) → (∀ k, S k → k.b < w.heap.size) → Glob w S → Go.Abs.SOk S → (some 0 = none → Free S) → (∀ e ∈ tg, S (.t e.k e.t) ∧ e.ok w) →
    Calls Tryz.prog 97 vs w fun en w' => ∃ v, en = .returned v ∧ PostX true w 1 σ S r out v w' := by
  have hnl := sumE_len es
  have hmem : ∀ i, i < es.length → (⟨K i, ts.getD i 0, (es.getD i zQ).r.length, .slice (Ad i) (es.getD i zQ).r.length (Cp i)⟩ : Ex) ∈ tg := fun i hi => by
    rw [htg]; exact List.mem_of_getElem? (i := i) (by rw [tab_get?, if_pos hi])
  have huniq : ∀ i, i < es.length → ∀ e' ∈ tg, e'.k = K i → e' = ⟨K i, ts.getD i 0, (es.getD i zQ).r.length, .slice (Ad i) (es.getD i zQ).r.length (Cp i)⟩ := fun i hi e' he hk => by
    rw [htg] at he
    obtain ⟨j, hj⟩ := List.mem_iff_getElem?.1 he
    rw [tab_get?] at hj
    split at hj
    · rename_i hjl
      cases hj
      have := hK j i hjl hi hk
      subst this; rfl
    · cases hj
  clear htg
  refine calls_vX (args := [.one (.hs 0 0 es.length), vint m]) (lent := [.arr 2 (tab es.length (rowX Ad Cp es))]) (Qf := fun r out => r = vint (m + sumE es) ∧ out = [Blk.arr 2 (oE ts (mkE M m es))]) (some 0) tg noM Tryz.func97 rfl rfl ?_
  conv => whnf
  refine VLoop.enter [0, 1, 5] ?_
  conv => whnf
  refine VLoop.ind3 (n0 := 1) (α := Int) (β := Int) (γ := List (List PV)) noM [0, 1, 5] (fun a i L => ⟨28, ⟨1, some 0, tg⟩, [(0, .one (.hs 0 0 es.length)), (1, vint a), (5, vint i)], [(0, some (.arr 2 L))]⟩)
    (fun a i L => ∃ k : Nat, i = k ∧ a = m + sumE (es.take k) ∧ k ≤ es.length ∧ L = mid es.length k (rowY M m ts es) (rowX Ad Cp es)) (fun _ i _ => (es.length - i).toNat) ?_ m 0 _ ⟨0, rfl, by show m = m + ((0 : Nat) : Int); omega, Nat.zero_le _, by rw [mid_zero]⟩
  rintro _ _ _ ⟨k, rfl, rfl, hk, rfl⟩
  conv => whnf
  split
  · rename_i q
    have q' := of_decide_eq_true q
    have hil : k < es.length := by omega
    have e0 : 0 + (k : Int).toNat = k := by omega
    obtain ⟨x, hx⟩ : ∃ x, es[k]? = some x := ⟨_, List.getElem?_eq_getElem hil⟩
    have hxm := mem_at hx
    have hxs := sumE_mem hxm
    have hsm := sumE_snoc hx
    have hst := sumE_take_le es (k + 1)
    have hat := mkE_at M es m k x hx
    have hxe : es.getD k zQ = x := by rw [List.getD_eq_getElem?_getD, hx]; rfl
    have he := hmem k hil
    have hu := huniq k hil
    rw [hxe] at he hu
    obtain ⟨a, ha⟩ : ∃ a : Int, a = m + sumE (es.take k) := ⟨_, rfl⟩
    rw [← ha] at hat ⊢
    have hLk : (mid es.length k (rowY M m ts es) (rowX Ad Cp es))[k]? = some [.lit (.slice (Ad k) x.r.length (Cp k)), .lit (.string x.d)] := by
      rw [mid_get?, if_pos hil, if_neg (Nat.lt_irrefl _)]
      show some [PV.lit (.slice (Ad k) (es.getD k zQ).r.length (Cp k)), PV.lit (.string (es.getD k zQ).d)] = _
      rw [hxe]
    obtain ⟨L, hL⟩ : ∃ L, L = mid es.length k (rowY M m ts es) (rowX Ad Cp es) := ⟨_, rfl⟩
    have hLl : L.length = es.length := by rw [hL, mid_length]
    have hnoT : (Blk.arr 2 L).noT [ts.getD k 0] := by
      intro el hel z hz
      rw [hL] at hel
      obtain ⟨j, hj⟩ := List.mem_iff_getElem?.1 hel
      rw [mid_get?] at hj
      split at hj
      · rename_i hjl
        cases hj
        split at hz
        · rename_i hjk
          rcases List.mem_cons.1 hz with rfl | hz
          · have hne : ¬ ts.getD j 0 = ts.getD k 0 := fun q => by
              rw [List.getD_eq_getElem?_getD, List.getD_eq_getElem?_getD, List.getElem?_eq_getElem (show j < ts.length by omega), List.getElem?_eq_getElem (show k < ts.length by omega)] at q
              have := (List.getElem_inj hn).1 q
              omega
            show (!([ts.getD k 0].contains (ts.getD j 0))) = true
            simpa using hne
          · cases List.mem_singleton.1 hz; rfl
        · rcases List.mem_cons.1 hz with rfl | hz
          · rfl
          · cases List.mem_singleton.1 hz; rfl
      · cases hj
    have hfin : ∀ z : List PV, z = rowY M m ts es k → (L.set k z) = mid es.length (k + 1) (rowY M m ts es) (rowX Ad Cp es) := fun z hz => by
      rw [hL]; exact mid_set rfl hz hil
    rw [← hL] at hLk ⊢
    have hgk : L.getD (0 + (k : Int).toNat) [] = [.lit (.slice (Ad k) x.r.length (Cp k)), .lit (.string x.d)] := by rw [e0, List.getD_eq_getElem?_getD, hLk]; rfl
    have hg2 : ∀ z : List PV, (L.set k z).getD (0 + (k : Int).toNat) [] = z := fun z => by rw [e0]; exact getD_set_self _ _ _ _ (by rw [hLl]; exact hil)
    clear hL
    conv => whnf
    refine ⟨by omega, by omega, by rw [hLl]; omega, ?_⟩
    conv => whnf
    refine ⟨_, hgk, ?_⟩
    conv => whnf
    refine .row ⟨K k, ts.getD k 0, x.r.length, .slice (Ad k) x.r.length (Cp k)⟩ (.int .i64 a) (.int .i64 (a + x.r.length)) 0 2 L _ (mkI a x.r.length) Tryz.call96 (markRow x.r.length a (by omega) (by omega) (by omega)) he hu ⟨.inr hnoT, trivial⟩ (told_set hLk) ?_
    conv => whnf
    refine .frz _ _ Tryz.call117 (hM (a + x.r.length) (by omega) (by omega)) (Nat.le_of_ble_eq_true rfl) rfl ?_
    conv => whnf
    refine ⟨by omega, by omega, by rw [List.length_set, hLl]; omega, ?_⟩
    conv => whnf
    refine ⟨_, hg2 _, by rw [List.length_set, hLl]; omega, ?_⟩
    conv => whnf
    have hw1 : IntKind.i64.wrap ((k : Int) + 1) = ((k + 1 : Nat) : Int) := by rw [wrap_in _ (by omega) (by omega)]; omega
    have hw2 : IntKind.i64.wrap (a + (x.r.length : Int) + 1) = m + sumE (es.take (k + 1)) := by rw [wrap_in _ (by omega) (by omega), hsm]; omega
    refine ⟨_, _, _, rfl, rfl, ⟨k + 1, hw1, hw2, by omega, ?_⟩, by rw [hw1]; omega⟩
    rw [e0, List.set_set]
    refine hfin _ ?_
    show [PV.own (ts.getD k 0) (List.map eIx (mkI a x.r.length)), PV.lit (.string (M (a + x.r.length)))] = eO (ts.getD k 0) ((mkE M m es).getD k zQ)
    rw [List.getD_eq_getElem?_getD (l := mkE M m es), hat]; rfl
  · rename_i q
    have q' := of_decide_eq_false q
    obtain rfl : k = es.length := by omega
    rw [List.take_length, mid_all, tab_rowY M m ts es hl]
    conv => whnf
    refine ⟨trivial, ?_⟩
    conv => whnf
    exact ⟨rfl, rfl⟩
end Go.Abs.F

set_option linter.unusedSimpArgs false
set_option linter.unusedVariables false
namespace Go.Abs.F
open Go Go.Abs Go.Proofs Go.RowKit
attribute [local irreducible] IntKind.wrap
/-- What an own row of numbers is, in memory. -/
theorem own_ex {w : World} {S : Kx → Prop} {t : Nat} {r : List Int} {v : Value} (h : RepP w S (.own t (r.map eI)) v) : ∃ (k : Nat) (ad : Option Addr) (cap : Nat), v = .slice ad r.length cap ∧ S (.t k t) ∧ (⟨k, t, r.length, .slice ad r.length cap⟩ : Ex).ok w := by
  have gen : ∀ els, els = r.map eI → RepP w S (.own t els) v → ∃ (k : Nat) (ad : Option Addr) (cap : Nat), v = .slice ad r.length cap ∧ S (.t k t) ∧ (⟨k, t, r.length, .slice ad r.length cap⟩ : Ex).ok w := by
    intro els he h
    cases h with
    | own0 _ k hk a cap =>
      have hr : r.length = 0 := by
        have := congrArg List.length he
        rw [List.length_map] at this; exact this.symm
      rw [hr]
      exact ⟨k, a, cap, rfl, hk, .inl ⟨rfl, a, cap, rfl⟩⟩
    | own _ _ k sz n cap tot c ty fr hn hcap hct hk hb hfr hcs hone hsz hc =>
      subst he
      have hrl : r.length = n := by rw [← hn, List.length_map]
      subst hrl
      refine ⟨k, some ⟨k, 0, none⟩, cap, rfl, hk, ?_⟩
      by_cases h0 : r.length = 0
      · exact .inl ⟨h0, _, cap, by show Value.slice _ r.length cap = _; rw [h0]⟩
      · have h1 : sz = 1 := by
          obtain ⟨x, hx⟩ : ∃ x, r[0]? = some x := ⟨_, List.getElem?_eq_getElem (by omega)⟩
          exact (hsz 0 (eI x) (by rw [List.getElem?_map, hx]; rfl)).symm
        subst h1
        refine .inr ⟨cap, r, c, ty, fr, rfl, hcap, by omega, rfl, hb, fun o ho => hfr o (.inl ho), hone, fun j hj => ?_⟩
        have hj : j < r.length := hj
        have hx : r[j]? = some r[j] := List.getElem?_eq_getElem hj
        obtain ⟨u, e1, e2⟩ := hc j (eI r[j]) 0 _ (by rw [List.getElem?_map, hx]; rfl) rfl
        cases e1
        rw [Nat.mul_one, Nat.add_zero] at e2
        rw [e2, List.getD_eq_getElem?_getD, hx]; rfl
  exact gen _ rfl h
theorem oE_get {ts : List Nat} {es : List Eqn} (hl : ts.length = es.length) {i : Nat} (h : i < es.length) : (oE ts es)[i]? = some (eO (ts.getD i 0) (es.getD i zQ)) := by
  unfold oE
  rw [List.getElem?_zipWith, List.getElem?_eq_getElem (show i < ts.length by omega), List.getElem?_eq_getElem h, List.getD_eq_getElem?_getD, List.getD_eq_getElem?_getD, List.getElem?_eq_getElem (show i < ts.length by omega), List.getElem?_eq_getElem h]; rfl
theorem markEqS_m (M : Int → ByteArray) (hM : ∀ n, 1 ≤ n → n ≤ 1000000000 → Good Tryz.prog 117 [vint n] [] (vstr (M n)) []) (m : Int) (ts : List Nat) (es : List Eqn) (hn : ts.Nodup) (hl : ts.length = es.length) (hs : sumE es ≤ 1100000) (h1 : 1 ≤ m) (h2 : m ≤ 5000000) :
    GoodM Tryz.prog 97 [.one (.hs 0 0 es.length), vint m] [.arr 2 (oE ts es)] (vint (m + sumE es)) [.arr 2 (oE ts (mkE M m es))] := by
  intro w vs σ S q1 q2 q3 q4 q5 q6 q7 q8
  obtain ⟨⟨c, ty, fr, g1, g0, g2, g3, g6, g4, g5⟩, _, hnS⟩ := q4 0 _ rfl
  rw [g6] at g5
  have hrow : ∀ i, ∃ kac : Nat × Option Addr × Nat, i < es.length → c[i * 2 + 0]? = some (.slice kac.2.1 (es.getD i zQ).r.length kac.2.2) ∧ S (.t kac.1 (ts.getD i 0)) ∧ (⟨kac.1, ts.getD i 0, (es.getD i zQ).r.length, .slice kac.2.1 (es.getD i zQ).r.length kac.2.2⟩ : Ex).ok w ∧ c[i * 2 + 1]? = some (.string (es.getD i zQ).d) := by
    intro i
    by_cases h : i < es.length
    · obtain ⟨v, e1, e2⟩ := (g5 i _ (oE_get hl h)).2 0 _ rfl
      obtain ⟨v', e3, e4⟩ := (g5 i _ (oE_get hl h)).2 1 _ rfl
      cases e4
      obtain ⟨k, ad, cap, rfl, hS, hk⟩ := own_ex e2
      exact ⟨(k, ad, cap), fun _ => ⟨e1, hS, hk, e3⟩⟩
    · exact ⟨(0, none, 0), fun q => (h q).elim⟩
  have hspec := fun i => Classical.choose_spec (hrow i)
  obtain ⟨F, hF⟩ : ∃ F : Nat → Nat × Option Addr × Nat, F = fun i => Classical.choose (hrow i) := ⟨_, rfl⟩
  have hsp : ∀ i, i < es.length → c[i * 2 + 0]? = some (.slice (F i).2.1 (es.getD i zQ).r.length (F i).2.2) ∧ S (.t (F i).1 (ts.getD i 0)) ∧ (⟨(F i).1, ts.getD i 0, (es.getD i zQ).r.length, .slice (F i).2.1 (es.getD i zQ).r.length (F i).2.2⟩ : Ex).ok w ∧ c[i * 2 + 1]? = some (.string (es.getD i zQ).d) := by
    intro i hi
    rw [hF]; exact hspec i hi
  clear hF hspec
  have hK : ∀ i j, i < es.length → j < es.length → (F i).1 = (F j).1 → i = j := by
    intro i j hi hj e
    have := q8.one _ _ _ (e ▸ (hsp i hi).2.1) (hsp j hj).2.1
    rw [List.getD_eq_getElem?_getD, List.getD_eq_getElem?_getD, List.getElem?_eq_getElem (show i < ts.length by omega), List.getElem?_eq_getElem (show j < ts.length by omega)] at this
    exact (List.getElem_inj hn).1 this
  obtain ⟨r, out, ⟨rfl, rfl⟩, H⟩ := markEqS_w M hM m ts es hn hl hs h1 h2 (fun i => (F i).1) (fun i => (F i).2.1) (fun i => (F i).2.2) _ rfl hK
  refine H w vs σ S q1 q2 q3 (fun b blk hb => ?_) q5 q6 q7 q8 (fun e => by cases e) (fun e he => ?_)
  · rcases b with _ | b
    · cases hb
      refine ⟨⟨c, ty, fr, g1, g0, g2, g3, g6, by rw [tab_length, ← oE_len hl]; exact g4, fun i el hi => ?_⟩, trivial, hnS⟩
      rw [tab_get?] at hi
      split at hi
      · rename_i hil
        cases hi
        rw [g6]
        refine ⟨rfl, fun j x hj => ?_⟩
        rcases j with _ | _ | j
        · cases hj; exact ⟨_, (hsp i hil).1, .lit _⟩
        · cases hj; exact ⟨_, (hsp i hil).2.2.2, .lit _⟩
        · simp at hj
      · cases hi
    · simp at hb
  · obtain ⟨i, hi⟩ := List.mem_iff_getElem?.1 he
    rw [tab_get?] at hi
    split at hi
    · rename_i hil
      cases hi
      exact ⟨(hsp i hil).2.1, (hsp i hil).2.2.1⟩
    · cases hi
end Go.Abs.F

set_option linter.unusedSimpArgs false
set_option linter.unusedVariables false
namespace Go.Abs.F
open Go Go.Abs Go.Proofs Go.RowKit
attribute [local irreducible] IntKind.wrap
def mM : FuncId → Bool := fun f => [96, 97, 56, 57].contains f
theorem arrI_nOwn (r : List Int) : (Blk.arr 1 (r.map eI)).nOwn := fun el hel x hx => by
  obtain ⟨a, _, rfl⟩ := List.mem_map.1 hel
  cases List.mem_singleton.1 hx; rfl
theorem twoI_nOwn (a b : List Int) : ∀ blk ∈ [Blk.arr 1 (a.map eI), Blk.arr 1 (b.map eI)], blk.nOwn := fun blk h => by
  rcases List.mem_cons.1 h with rfl | h
  · exact arrI_nOwn a
  · cases List.mem_singleton.1 h; exact arrI_nOwn b
theorem arrI_noT (T : List Nat) (r : List Int) : (Blk.arr 1 (r.map eI)).noT T := fun el hel x hx => by
  obtain ⟨a, _, rfl⟩ := List.mem_map.1 hel
  cases List.mem_singleton.1 hx; rfl
theorem box_noT {T : List Nat} {cs : List AC} (h : cs.all (AC.noT T) = true) : (Blk.box cs).noT T := fun c hc => List.all_eq_true.1 h c hc
theorem oE_mem {ts : List Nat} {es : List Eqn} {el : List PV} (h : el ∈ oE ts es) : ∃ t ∈ ts, ∃ x : Eqn, el = eO t x := by
  obtain ⟨i, hi⟩ := List.mem_iff_getElem?.1 h
  unfold oE at hi
  rw [List.getElem?_zipWith] at hi
  cases h1 : ts[i]? with
  | none => rw [h1] at hi; cases hi
  | some t =>
    cases h2 : es[i]? with
    | none => rw [h1, h2] at hi; cases hi
    | some x => rw [h1, h2] at hi; cases hi; exact ⟨t, List.mem_of_getElem? h1, x, rfl⟩
theorem oE_inT (ts : List Nat) (es : List Eqn) : (Blk.arr 2 (oE ts es)).inT ts := fun el hel x hx => by
  obtain ⟨t, ht, y, rfl⟩ := oE_mem hel
  rcases List.mem_cons.1 hx with rfl | hx
  · exact List.contains_iff_mem.2 ht
  · cases List.mem_singleton.1 hx; rfl
theorem oE_noT (ts T : List Nat) (es : List Eqn) (h : ∀ t ∈ ts, t ∉ T) : (Blk.arr 2 (oE ts es)).noT T := fun el hel x hx => by
  obtain ⟨t, ht, y, rfl⟩ := oE_mem hel
  rcases List.mem_cons.1 hx with rfl | hx
  · show (!T.contains t) = true
    have := h t ht
    simpa using this
  · cases List.mem_singleton.1 hx; rfl
theorem oneE_arr (ts : List Nat) (es : List Eqn) : ∀ blk ∈ [Blk.arr 2 (oE ts es)], ∃ sz els, blk = .arr sz els := fun blk h => by cases List.mem_singleton.1 h; exact ⟨_, _, rfl⟩
theorem oneE_inT (ts : List Nat) (es : List Eqn) : ∀ blk ∈ [Blk.arr 2 (oE ts es)], blk.inT ts := fun blk h => by cases List.mem_singleton.1 h; exact oE_inT ts es
set_option maxHeartbeats 16000000 in
set_option maxRecDepth 100000 in
theorem markPlan_ok (l s : Int) (ws gs : List Int) (m : Int) (hw : ws.length ≤ 1100000) (hg : gs.length ≤ 1100000) (h1 : 1 ≤ m) (h2 : m ≤ 5000000) :
    Good Tryz.prog 56 [planR l s ws gs, vint m] [.arr 1 (ws.map eI), .arr 1 (gs.map eI)] (vint (m + ws.length + gs.length)) [.arr 1 ((mkI m ws.length).map eI), .arr 1 ((mkI (m + ws.length) gs.length).map eI)] := by
  refine good_e mM Tryz.func56 rfl rfl ?_
  conv => whnf
  refine .mk _ _ false Tryz.call96 (markIntS_ok ws m hw h1 (by omega)) (Nat.le_of_ble_eq_true rfl) (.inl rfl) ?_
  conv => whnf
  refine .mk _ _ false Tryz.call96 (markIntS_ok gs (m + ws.length) hg (by omega) (by omega)) (Nat.le_of_ble_eq_true rfl) (.inl rfl) ?_
  conv => whnf
  refine ⟨trivial, ?_⟩
  conv => whnf
  exact ⟨rfl, rfl⟩
set_option maxHeartbeats 16000000 in
set_option maxRecDepth 100000 in
theorem markSolver_m (M : Int → ByteArray) (hM : ∀ n, 1 ≤ n → n ≤ 1000000000 → Good Tryz.prog 117 [vint n] [] (vstr (M n)) []) (c z m : Int) (ts : List Nat) (es : List Eqn) (hn : ts.Nodup) (hl : ts.length = es.length) (hs : sumE es ≤ 1100000) (h1 : 1 ≤ m) (h2 : m ≤ 5000000) :
    GoodM Tryz.prog 57 [.agg [.p (.lit (.int .i64 c)), .p (.lit (.int .i64 z)), .hs 0 0 es.length], vint m] [.arr 2 (oE ts es)] (vint (m + sumE es)) [.arr 2 (oE ts (mkE M m es))] := by
  refine good_eM 0 mM Tryz.func57 rfl rfl ?_
  conv => whnf
  refine .mark ts _ _ Tryz.call97 (markEqS_m M hM m ts es hn hl hs h1 h2) (oneE_arr ts es) (oneE_inT ts es) ⟨.inr (box_noT rfl), .inl rfl, trivial⟩ ?_
  conv => whnf
  refine ⟨trivial, ?_⟩
  conv => whnf
  exact ⟨rfl, rfl⟩
set_option maxHeartbeats 16000000 in
set_option maxRecDepth 100000 in
theorem markGetting_m (M : Int → ByteArray) (hM : ∀ n, 1 ≤ n → n ≤ 1000000000 → Good Tryz.prog 117 [vint n] [] (vstr (M n)) []) (l s : Int) (ws gs : List Int) (c z : Int) (ts : List Nat) (es : List Eqn) (hn : ts.Nodup) (hl : ts.length = es.length) (hw : ws.length ≤ 1100000) (hg : gs.length ≤ 1100000) (hs : sumE es ≤ 1100000) :
    GoodM Tryz.prog 20 [gtR l s ws gs c z es, vint 1] (gtB ws gs ts es) (vint (1 + ws.length + gs.length + sumE es)) (gtB (mkI 1 ws.length) (mkI (1 + ws.length) gs.length) ts (mkE M (1 + ws.length + gs.length) es)) := by
  refine good_eM 0 mM Tryz.func20 rfl rfl ?_
  conv => whnf
  refine .lend _ _ Tryz.call56 (markPlan_ok l s ws gs 1 hw hg (by omega) (by omega)) (twoI_nOwn ws gs) ?_
  conv => whnf
  refine .mark ts _ _ Tryz.call57 (markSolver_m M hM c z (1 + ws.length + gs.length) ts es hn hl hs (by omega) (by omega)) (oneE_arr ts es) (oneE_inT ts es) ⟨.inr (arrI_noT _ _), .inr (arrI_noT _ _), .inr (box_noT rfl), .inr (arrI_noT _ _), .inr (arrI_noT _ _), .inl rfl, trivial⟩ ?_
  conv => whnf
  refine ⟨trivial, ?_⟩
  conv => whnf
  exact ⟨rfl, rfl⟩
end Go.Abs.F

set_option linter.unusedSimpArgs false
set_option linter.unusedVariables false
namespace Go.Abs.F
open Go Go.Abs Go.Proofs Go.RowKit
attribute [local irreducible] IntKind.wrap
theorem tab_eEs (es : List Eqn) : tab es.length (fun k => eE (es.getD k zQ)) = es.map eE := (tab_of es eE zQ).symm
theorem toIntS_fz (r : List Int) (hl : r.length ≤ 1100000) : Good Tryz.prog 92 [.one (.p (slI r))] [] (.one (.p (slI r))) [] :=
  good_frz (toIntS_ok r hl) (.v (.one (.sl rfl (List.length_map ..).symm (Nat.zero_le _)))) rfl (fun _ h => by cases h)
set_option maxHeartbeats 16000000 in
set_option maxRecDepth 100000 in
theorem toEq_fz (x : Eqn) (hl : x.r.length ≤ 1100000) : Good Tryz.prog 115 [.agg [.p (slI x.r), .p (.lit (.string x.d))]] [] (.agg [.p (slI x.r), .p (.lit (.string x.d))]) [] := by
  refine good_e noM Tryz.func115 rfl rfl ?_
  conv => whnf
  refine .mk _ _ false Tryz.call92 (toIntS_fz x.r hl) (Nat.le_of_ble_eq_true rfl) (.inl rfl) ?_
  conv => whnf
  refine ⟨⟨⟨by decide +kernel, Nat.le_of_ble_eq_true rfl⟩, trivial⟩, ?_⟩
  conv => whnf
  exact ⟨rfl, rfl⟩
set_option maxHeartbeats 16000000 in
set_option maxRecDepth 100000 in
theorem toEqS_ok (es : List Eqn) (hl : es.length ≤ 1100000) (hr : ∀ e ∈ es, e.r.length ≤ 1100000) : Good Tryz.prog 93 [.one (.p (.sl (es.map eE)))] [] (.one (.hs 0 0 es.length)) [.arr 2 (es.map eE)] := by
  have hm : (es.map eE).length = es.length := List.length_map ..
  refine good_e noM Tryz.func93 rfl rfl ?_
  conv => whnf
  rw [hm]
  refine ⟨by omega, by omega, Int.lt_of_le_of_lt (Int.mul_le_mul (show (es.length : Int) ≤ 1100000 by omega) (show ((Tryz.prog.bytesOf 96 + 1 : Nat) : Int) ≤ 100 from Int.ofNat_le.2 bytesEq) (by omega) (by omega)) (by decide), ?_⟩
  conv => whnf
  refine VLoop.enter [0, 3, 4] ?_
  conv => whnf
  refine VLoop.ind2 (n0 := 1) (α := Int) (β := List (List PV)) noM [0, 3, 4] (fun a E => ⟨23, 0, [(0, .one (.p (.sl (es.map eE)))), (3, .one (.hs 0 0 es.length)), (4, vint a)], [(0, some (.arr 2 E))]⟩)
    (fun a E => ∃ i : Nat, a = i ∧ i ≤ es.length ∧ E = mid es.length i (fun k => eE (es.getD k zQ)) (fun _ => [.lit (.slice none 0 0), .lit (.string ⟨#[]⟩)])) (fun a _ => ((es.length : Int) - a).toNat) ?_ 0 _ ⟨0, rfl, by omega, ?_⟩
  rotate_left
  · rw [mid_zero, ← tab_repF]; rfl
  rintro _ _ ⟨i, rfl, hi, rfl⟩
  conv => whnf
  rw [hm]
  split
  · rename_i q1
    have q1' := of_decide_eq_true q1
    have hil : i < es.length := by omega
    have en : (i : Int).toNat = i := Int.toNat_natCast i
    have e0 : 0 + (i : Int).toNat = i := by omega
    have hw : IntKind.i64.wrap ((i : Int) + 1) = i + 1 := wi _ (by omega) (by omega)
    obtain ⟨x, hx⟩ : ∃ x, es[i]? = some x := ⟨_, List.getElem?_eq_getElem hil⟩
    have hxr := hr x (mem_at hx)
    have hxe : es.getD i zQ = x := by rw [List.getD_eq_getElem?_getD, hx]; rfl
    conv => whnf
    refine ⟨by omega, by rw [hm]; omega, _, atE es en hx, ?_⟩
    conv => whnf
    refine .mk _ _ false Tryz.call115 (toEq_fz x hxr) (Nat.le_of_ble_eq_true rfl) (.inl rfl) ?_
    conv => whnf
    refine ⟨by omega, by omega, by rw [mid_length]; omega, ?_⟩
    conv => whnf
    refine ⟨_, mid_getD [] e0 (by omega), by rw [mid_length]; omega, ?_⟩
    conv => whnf
    refine ⟨_, _, rfl, rfl, ⟨i + 1, by rw [hw]; simp, by omega, mid_set e0 (by rw [hxe]; rfl) hil⟩, by rw [hw]; omega⟩
  · rename_i q1
    have q1' := of_decide_eq_false q1
    conv => whnf
    obtain rfl : i = es.length := by omega
    refine ⟨trivial, ?_⟩
    conv => whnf
    refine ⟨rfl, ?_⟩
    rw [mid_all]
    exact congrArg (fun E => [Blk.arr 2 E]) (tab_eEs es)
theorem toEqS_fz (es : List Eqn) (hl : es.length ≤ 1100000) (hr : ∀ e ∈ es, e.r.length ≤ 1100000) : Good Tryz.prog 93 [.one (.p (.sl (es.map eE)))] [] (.one (.p (.sl (es.map eE)))) [] :=
  good_frz (toEqS_ok es hl hr) (.v (.one (.sl rfl (List.length_map ..).symm (Nat.zero_le _)))) rfl (fun _ h => by cases h)
set_option maxHeartbeats 16000000 in
set_option maxRecDepth 100000 in
theorem toSolver_fz (c z : Int) (es : List Eqn) (hB : SBd c z es) : Good Tryz.prog 53 [solF c z es] [] (solF c z es) [] := by
  refine good_e noM Tryz.func53 rfl rfl ?_
  conv => whnf
  refine .mk _ _ false Tryz.call93 (toEqS_fz es hB.n fun e he => (hB.r e he).1) (Nat.le_of_ble_eq_true rfl) (.inl rfl) ?_
  conv => whnf
  refine ⟨⟨⟨by decide +kernel, Nat.le_of_ble_eq_true rfl⟩, trivial⟩, ?_⟩
  conv => whnf
  exact ⟨rfl, rfl⟩
set_option maxHeartbeats 16000000 in
set_option maxRecDepth 100000 in
theorem toGetting_fz (l s : Int) (ws gs : List Int) (c z : Int) (es : List Eqn) (hw : ws.length ≤ 1100000) (hg : gs.length ≤ 1100000) (hB : SBd c z es) : Good Tryz.prog 18 [getF l s ws gs c z es] [] (getF l s ws gs c z es) [] := by
  refine good_e noM Tryz.func18 rfl rfl ?_
  conv => whnf
  refine .mk _ _ false Tryz.call52 (plan_fz (toPlan_ok l s ws gs hw hg)) (Nat.le_of_ble_eq_true rfl) (.inl rfl) ?_
  conv => whnf
  refine .mk _ _ false Tryz.call53 (toSolver_fz c z es hB) (Nat.le_of_ble_eq_true rfl) (.inl rfl) ?_
  conv => whnf
  refine ⟨⟨⟨by decide +kernel, Nat.le_of_ble_eq_true rfl⟩, trivial⟩, ?_⟩
  conv => whnf
  exact ⟨rfl, rfl⟩
set_option maxHeartbeats 16000000 in
set_option maxRecDepth 100000 in
theorem markEqS_nil (m : Int) : Good Tryz.prog 97 [.one (.p (.sl [])), vint m] [] (vint m) [] := by
  refine good_e noM Tryz.func97 rfl rfl ?_
  conv => whnf
  refine VLoop.step noM ?_
  conv => whnf
  refine ⟨trivial, ?_⟩
  conv => whnf
  exact ⟨rfl, rfl⟩
set_option maxHeartbeats 16000000 in
set_option maxRecDepth 100000 in
theorem markPlan_nil (m : Int) : Good Tryz.prog 56 [planF 0 0 [] [], vint m] [] (vint m) [] := by
  refine good_e noM Tryz.func56 rfl rfl ?_
  conv => whnf
  refine .mk _ _ false Tryz.call96 (markIntS_nil m) (Nat.le_of_ble_eq_true rfl) (.inl rfl) ?_
  conv => whnf
  refine .mk _ _ false Tryz.call96 (markIntS_nil m) (Nat.le_of_ble_eq_true rfl) (.inl rfl) ?_
  conv => whnf
  refine ⟨trivial, ?_⟩
  conv => whnf
  exact ⟨rfl, rfl⟩
set_option maxHeartbeats 16000000 in
set_option maxRecDepth 100000 in
theorem markSolver_nil (m : Int) : Good Tryz.prog 57 [solF 0 0 [], vint m] [] (vint m) [] := by
  refine good_e noM Tryz.func57 rfl rfl ?_
  conv => whnf
  refine .mk _ _ false Tryz.call97 (markEqS_nil m) (Nat.le_of_ble_eq_true rfl) (.inl rfl) ?_
  conv => whnf
  refine ⟨trivial, ?_⟩
  conv => whnf
  exact ⟨rfl, rfl⟩
set_option maxHeartbeats 16000000 in
set_option maxRecDepth 100000 in
theorem markGetting_nil (m : Int) : Good Tryz.prog 20 [getF 0 0 [] [] 0 0 [], vint m] [] (vint m) [] := by
  refine good_e noM Tryz.func20 rfl rfl ?_
  conv => whnf
  refine .mk _ _ false Tryz.call56 (markPlan_nil m) (Nat.le_of_ble_eq_true rfl) (.inl rfl) ?_
  conv => whnf
  refine .mk _ _ false Tryz.call57 (markSolver_nil m) (Nat.le_of_ble_eq_true rfl) (.inl rfl) ?_
  conv => whnf
  refine ⟨trivial, ?_⟩
  conv => whnf
  exact ⟨rfl, rfl⟩
theorem argN2 {own : Bool} {f : FuncId} {y : AV} {r : AV} (h : GoodO own Tryz.prog f [getF 0 0 [] [] 0 0 [], y] [] r []) : GoodO own Tryz.prog f [getN, y] [] r [] := by
  refine good_arg h rfl fun i a a' q1 q2 => ?_
  rcases i with _ | _ | i
  · cases q1; cases q2; exact ⟨fun w S σ v h => getN_rep h, fun _ => getN_in⟩
  · cases q1; cases q2; exact ⟨fun w S σ v h => h, fun h => h⟩
  · cases q1
theorem markGetting_no : Good Tryz.prog 20 [getN, vint 1] [] (vint 1) [] := argN2 (markGetting_nil 1)
theorem heldGetting_no (M : Int → ByteArray) (hM : ∀ n, 1 ≤ n → n ≤ 1000000000 → Good Tryz.prog 117 [vint n] [] (vstr (M n)) []) : Good Tryz.prog 21 [getN, vint 1] [] (vint 1) [] :=
  argN2 (heldGetting_ok M hM 0 0 0 0 0 0 [] (Nat.zero_le _) (Nat.zero_le _) (Nat.zero_le _))
/-! ### other tags -/
def rentP (g : Nat → Nat) : PV → PV
  | .own t els => .own (g t) els
  | x => x
def rentK (g : Nat → Nat) : Blk → Blk
  | .arr sz els => .arr sz (els.map (List.map (rentP g)))
  | .box cs => .box cs
/-- The tags of S, said otherwise. -/
def rentS (g : Nat → Nat) (S : Kx → Prop) : Kx → Prop
  | .m k => S (.m k)
  | .t k t => ∃ t0, g t0 = t ∧ S (.t k t0)
theorem RepP.rent (g : Nat → Nat) {w : World} {S : Kx → Prop} {x : PV} {v : Value} (h : RepP w S x v) : RepP w (rentS g S) (rentP g x) v := by
  have key : x.notOwn = true → RepP w (rentS g S) x v := fun q => (h.setm q).mono (fun _ _ => rfl) (fun k hk => by cases k with | m k => exact hk | t k t => exact hk.elim)
  cases h with
  | own0 t k hk a cap => exact .own0 (g t) k ⟨t, rfl, hk⟩ a cap
  | own t els k sz n cap tot c ty fr hl hcap hct hk hb hfr hcs hone hsz hc => exact .own (g t) els k sz n cap tot c ty fr hl hcap hct ⟨t, rfl, hk⟩ hb hfr hcs hone hsz hc
  | _ => exact key rfl
mutual
def nOwnT : AV → Bool
  | .one c => c.nOwnH
  | .agg cs => cs.all AC.nOwnH
  | .tup vs => nOwnTs vs
  | _ => false
def nOwnTs : List AV → Bool
  | [] => true
  | v :: vs => nOwnT v && nOwnTs vs
end
theorem nOwnTs_mem : ∀ {vs : List AV}, nOwnTs vs = true → ∀ v ∈ vs, nOwnT v = true
  | [], _, v, hv => by cases hv
  | x :: xs, h, v, hv => by
    simp only [nOwnTs, Bool.and_eq_true] at h
    rcases List.mem_cons.1 hv with rfl | hv
    · exact h.1
    · exact nOwnTs_mem h.2 v hv
theorem setmT {w : World} {S : Kx → Prop} {σ : Nat → Loc} {c : AV} {v : Value} (h : RepV w S σ c v) : nOwnT c = true → RepV w (setm S) σ c v := by
  induction h with
  | one h => intro hn; exact .one (h.setmH (by simpa [nOwnT] using hn))
  | agg cs vs hl h => intro hn; exact .agg cs vs hl fun i c v h1 h2 => (h i c v h1 h2).setmH (List.all_eq_true.1 (by simpa only [nOwnT] using hn) c (List.mem_of_getElem? h1))
  | tup us vs hl h ih => intro hn; exact .tup us vs hl fun i c v h1 h2 => ih i c v h1 h2 (nOwnTs_mem (by simpa only [nOwnT] using hn) c (List.mem_of_getElem? h1))
  | _ => intro hn; simp [nOwnT] at hn
/-- The contract of what hands back rows of its own, with other tags. -/
theorem good_rent (g : Nat → Nat) (hg : ∀ a b, g a = g b → a = b) {P : Program} {f : FuncId} {args : List AV} {r : AV} {out : List Blk} (h : GoodO true P f args [] r out) (hr : nOwnT r = true) (ho : ∀ blk ∈ out, ∃ sz els, blk = .arr sz els) : GoodO true P f args [] r (out.map (rentK g)) := by
  intro w vs σ S h1 h2 h3 h4 h5 h6 h7 h8
  refine (h w vs σ S h1 h2 h3 h4 h5 h6 h7 h8).mono ?_
  rintro en w' ⟨v, rfl, σ', S', p1, p2, p3, p4, p5, p6, p7, p8, p9, p10, p11, p12, p13, p14, p15, p16⟩
  have hlen : (out.map (rentK g)).length = out.length := List.length_map ..
  have hb : ∀ y, rentS g S' y → ∃ z, S' z ∧ z.b = y.b := fun y q => by
    cases y with
    | m k => exact ⟨_, q, rfl⟩
    | t k t => obtain ⟨t0, _, q⟩ := q; exact ⟨_, q, rfl⟩
  refine ⟨v, rfl, σ', rentS g S', ((setmT p1 hr).mono p2 (fun _ _ => rfl) (fun k hk => by cases k with | m k => exact hk | t k t => exact hk.elim) (fun _ _ => rfl)), by rw [hlen]; exact p2, by rw [hlen]; exact p3, fun b blk q => ?_, by rw [hlen]; exact p5, p6, by rw [hlen]; exact p7, fun y q => ?_, fun y q hlt => ?_, p10, p11, p12, p13, p14, ⟨fun k t q1 q2 => ?_, fun k t t' q1 q2 => ?_⟩, fun e => by cases e⟩
  · rw [List.getElem?_map] at q
    cases hq : out[b]? with
    | none => rw [hq] at q; cases q
    | some k0 =>
      rw [hq] at q
      cases q
      obtain ⟨sz, els, rfl⟩ := ho k0 (List.mem_of_getElem? hq)
      obtain ⟨⟨c, ty, fr, a1, a0, a2, a3, a4⟩, _, a6⟩ := p4 b _ hq
      refine ⟨⟨c, ty, fr, a1, a0, a2, a3, a4.1, by rw [List.length_map]; exact a4.2.1, fun i el hi => ?_⟩, trivial, fun y hy => let ⟨z, z1, z2⟩ := hb y hy; z2 ▸ a6 z z1⟩
      rw [List.getElem?_map] at hi
      cases he : els[i]? with
      | none => rw [he] at hi; cases hi
      | some el0 =>
        rw [he] at hi
        cases hi
        refine ⟨by rw [List.length_map]; exact (a4.2.2 i el0 he).1, fun j x hj => ?_⟩
        rw [List.getElem?_map] at hj
        cases hx : el0[j]? with
        | none => rw [hx] at hj; cases hj
        | some x0 =>
          rw [hx] at hj
          cases hj
          obtain ⟨u, u1, u2⟩ := (a4.2.2 i el0 he).2 j x0 hx
          exact ⟨u, u1, RepP.rent g u2⟩
  · obtain ⟨z, z1, z2⟩ := hb y q; exact z2 ▸ p8 z z1
  · cases y with
    | m k => exact p9 (.m k) q hlt
    | t k t => obtain ⟨t0, _, q⟩ := q; exact (h8 k t0 (p9 (.t k t0) q hlt)).elim
  · obtain ⟨t0, _, q1⟩ := q1; exact p15.nm k t0 q1 q2
  · obtain ⟨t0, e0, q1⟩ := q1
    obtain ⟨t1, e1, q2⟩ := q2
    rw [← e0, ← e1, p15.one k t0 t1 q1 q2]
theorem rent_oE (g : Nat → Nat) (ts : List Nat) (es : List Eqn) : (oE ts es).map (List.map (rentP g)) = oE (ts.map g) es := by
  unfold oE
  rw [List.map_zipWith, List.zipWith_map_left]; rfl
theorem rent_arrI (g : Nat → Nat) (r : List Int) : (r.map eI).map (List.map (rentP g)) = r.map eI := by
  rw [List.map_map]; rfl
theorem rent_gtB (g : Nat → Nat) (ws gs : List Int) (ts : List Nat) (es : List Eqn) : (gtB ws gs ts es).map (rentK g) = gtB ws gs (ts.map g) es := by
  show [rentK g _, rentK g _, rentK g _] = _
  show [Blk.arr 1 ((ws.map eI).map (List.map (rentP g))), Blk.arr 1 ((gs.map eI).map (List.map (rentP g))), Blk.arr 2 ((oE ts es).map (List.map (rentP g)))] = _
  rw [rent_arrI, rent_arrI, rent_oE]
end Go.Abs.F

set_option linter.unusedSimpArgs false
set_option linter.unusedVariables false
namespace Go.Abs.F
open Go Go.Abs Go.Proofs Go.RowKit
attribute [local irreducible] IntKind.wrap
def xM : FuncId → Bool := fun f => [20].contains f
theorem good_down {P : Program} {f : FuncId} {args : List AV} {v : Value} (h : GoodO true P f args [] (lit v) []) : Good P f args [] (lit v) [] := by
  intro w vs σ S h1 h2 h3 h4 h5 h6 h7 h8
  refine (h w vs σ S h1 h2 h3 h4 h5 h6 h7 h8).mono ?_
  rintro en w' ⟨u, rfl, σ', S', p1, p2, p3, p4, p5, p6, p7, p8, p9, p10, p11, p12, p13, p14, p15, p16⟩
  have := lit_inv p1 rfl
  subst this
  exact ⟨_, rfl, σ, S, .one (.p (.lit _)), .one trivial, Nat.le_refl _, fun b blk q => by simp at q, fun b b' q => by simp at q, fun b q => rfl, fun b q1 q2 => by simp at q2, fun k hk => Nat.lt_of_lt_of_le (h6 k hk) p13, fun k hk _ => hk, p10, p11, p12, p13, p14, h8.ok, fun _ => h8⟩
theorem fgtGR (l s : Int) (ws gs : List Int) (c z : Int) (ts : List Nat) (es : List Eqn) (hl : ts.length = es.length) {E1 E2 E3 : List (List PV)} (h1 : E1 = ws.map eI) (h2 : E2 = gs.map eI) (h3 : E3 = oE ts es) :
    FgtV (.agg [.p (.lit (.int .i64 l)), .p (.lit (.int .i64 s)), .p (.sl E1), .p (.sl E2), .p (.lit (.int .i64 c)), .p (.lit (.int .i64 z)), .p (.sl E3)]) (getF l s ws gs c z es) :=
  .agg (.cons (fgtL _) (.cons (fgtL _) (.cons (.p (fgt_int ws h1)) (.cons (.p (fgt_int gs h2)) (.cons (fgtL _) (.cons (fgtL _) (.cons (.p (fgt_oE ts es hl h3)) .nil)))))))
theorem fgtN : FgtV getN getN := .agg (.cons (fgtL _) (.cons (fgtL _) (.cons (fgtL _) (.cons (fgtL _) (.cons (fgtL _) (.cons (fgtL _) (.cons (fgtL _) .nil)))))))
theorem takeL {α : Type} (L : List α) (n : Nat) (h : n = L.length) : List.take n (List.drop 0 L) = L := by subst h; rw [List.drop_zero, List.take_length]
theorem gtB_arr (ws gs : List Int) (ts : List Nat) (es : List Eqn) : ∀ blk ∈ gtB ws gs ts es, ∃ sz els, blk = .arr sz els := fun blk h => by
  rcases List.mem_cons.1 h with rfl | h
  · exact ⟨_, _, rfl⟩
  · rcases List.mem_cons.1 h with rfl | h
    · exact ⟨_, _, rfl⟩
    · cases List.mem_singleton.1 h; exact ⟨_, _, rfl⟩
theorem arrI_inT (T : List Nat) (r : List Int) : (Blk.arr 1 (r.map eI)).inT T := fun el hel x hx => by
  obtain ⟨a, _, rfl⟩ := List.mem_map.1 hel
  cases List.mem_singleton.1 hx; rfl
theorem gtB_inT (ws gs : List Int) (ts : List Nat) (es : List Eqn) : ∀ blk ∈ gtB ws gs ts es, blk.inT ts := fun blk h => by
  rcases List.mem_cons.1 h with rfl | h
  · exact arrI_inT ts ws
  · rcases List.mem_cons.1 h with rfl | h
    · exact arrI_inT ts gs
    · cases List.mem_singleton.1 h; exact oE_inT ts es
set_option maxHeartbeats 16000000 in
set_option maxRecDepth 100000 in
theorem exact_new (l s : Int) (ws gs : List Int) (c z : Int) (es : List Eqn) (id : Int) (d : ByteArray) (hd : d.size ≤ 1048576) (v : Int) (hv : 0 ≤ v) (hsz : Good Tryz.prog 17 [getF l s ws gs c z es, vint 1048576] [] (vint v) []) (hz : GSz ws gs es)
    (M : Int → ByteArray) (hM : ∀ n, 1 ≤ n → n ≤ 1000000000 → Good Tryz.prog 117 [vint n] [] (vstr (M n)) [])
    (l2 s2 : Int) (ws2 gs2 : List Int) (c2 z2 : Int) (es2 : List Eqn) (k : Int) (ts : List Nat) (hn : ts.Nodup) (hl : ts.length = es2.length) (hw2 : ws2.length ≤ 1100000) (hg2 : gs2.length ≤ 1100000) (hB2 : SBd c2 z2 es2) (hs2 : sumE es2 ≤ 1100000)
    (gS : Good Tryz.prog 7 [getF l s ws gs c z es, vint id, vstr d] [] (.tup [getF l2 s2 ws2 gs2 c2 z2 es2, vint k]) [])
    (gI : Good Tryz.prog 6 [getF l s ws gs c z es, vint id, vstr d] [] (.tup [getF l2 s2 ws2 gs2 c2 z2 es2, vint k]) [])
    (gO : GoodO true Tryz.prog 6 [getF l s ws gs c z es, vint id, vstr d] [] (.tup [gtR l2 s2 ws2 gs2 c2 z2 es2, vint k]) (gtB ws2 gs2 (ts.map fun t => 2 * t + 1) es2)) :
    GoodO true Tryz.prog 4 [getF l s ws gs c z es, vint id, vstr d] [] (vbool true) [] := by
  have hw : ws.length ≤ 1100000 := by have := hz.n; omega
  have hg : gs.length ≤ 1100000 := by have := hz.n; omega
  have hse : sumE es ≤ 1100000 := by have := hz.n; omega
  have hB : SBd c z es := hz.bd c z
  obtain ⟨xs, hxs⟩ : ∃ xs, xs = (List.range es.length).map fun t => 2 * t := ⟨_, rfl⟩
  have hxl : xs.length = es.length := by rw [hxs, List.length_map, List.length_range]
  have hxn : xs.Nodup := by
    rw [hxs]
    exact List.pairwise_map.2 (List.Pairwise.imp (fun {a b} (h : a ≠ b) (q : 2 * a = 2 * b) => h (by omega)) List.nodup_range)
  have gT : GoodO true Tryz.prog 18 [getF l s ws gs c z es] [] (gtR l s ws gs c z es) (gtB ws gs xs es) := by
    have := good_rent (fun t => 2 * t) (fun a b h => by omega) (toGetting_o l s ws gs c z es hw hg hB) rfl (fun blk h => by
      rcases List.mem_cons.1 h with rfl | h
      · exact ⟨_, _, rfl⟩
      · rcases List.mem_cons.1 h with rfl | h
        · exact ⟨_, _, rfl⟩
        · cases List.mem_singleton.1 h; exact ⟨_, _, rfl⟩)
    rwa [rent_gtB, ← hxs] at this
  have hdis : ∀ t ∈ ts.map (fun t => 2 * t + 1), t ∉ xs := fun t h1 h2 => by
    rw [hxs] at h2
    obtain ⟨a, _, rfl⟩ := List.mem_map.1 h1
    obtain ⟨b, _, h⟩ := List.mem_map.1 h2
    omega
  obtain ⟨us, hus⟩ : ∃ us, us = ts.map fun t => 2 * t + 1 := ⟨_, rfl⟩
  rw [← hus] at gO hdis
  have hul : us.length = es2.length := by rw [hus, List.length_map]; exact hl
  have hun : us.Nodup := by
    rw [hus]
    exact List.pairwise_map.2 (List.Pairwise.imp (fun {a b} (h : a ≠ b) (q : 2 * a + 1 = 2 * b + 1) => h (by omega)) hn)
  clear hxs hus
  have hdz : decide (((d.size : Nat) : Int) > 1048576) = false := decide_eq_false (by omega)
  have lI : ∀ r : List Int, 0 + r.length ≤ (r.map eI).length := fun r => by rw [List.length_map]; omega
  have lX : 0 + es.length ≤ (oE xs es).length := by rw [oE_len hxl]; omega
  have lU : 0 + es2.length ≤ (oE us es2).length := by rw [oE_len hul]; omega
  have fX := fgtGR l s ws gs c z xs es hxl (takeI ws) (takeI gs) (takeL _ _ (oE_len hxl).symm)
  have fU := fgtGR l2 s2 ws2 gs2 c2 z2 us es2 hul (takeI ws2) (takeI gs2) (takeL _ _ (oE_len hul).symm)
  have hdis2 : ∀ t ∈ xs, t ∉ us := fun t h1 h2 => hdis t h2 h1
  have mI : ∀ (m : Int) (n : Nat), 0 + n ≤ ((mkI m n).map eI).length := fun m n => by rw [List.length_map, mkI_len]; omega
  have mL : us.length = (mkE M (1 + ws2.length + gs2.length) es2).length := by rw [mkE_len]; exact hul
  have mU : 0 + es2.length ≤ (oE us (mkE M (1 + ws2.length + gs2.length) es2)).length := by rw [oE_len mL, mkE_len]; omega
  have fM := fgtGR l2 s2 (mkI 1 ws2.length) (mkI (1 + ws2.length) gs2.length) c2 z2 us (mkE M (1 + ws2.length + gs2.length) es2) mL (takeL ((mkI 1 ws2.length).map eI) ws2.length (by rw [List.length_map, mkI_len])) (takeL ((mkI (1 + ws2.length) gs2.length).map eI) gs2.length (by rw [List.length_map, mkI_len])) (takeL _ es2.length (by rw [oE_len mL, mkE_len]))
  have gH := heldGetting_ok M hM l2 s2 c2 z2 ws2.length gs2.length es2 hw2 hg2 hs2
  refine good_eO (some 3) xM Tryz.func4 rfl rfl ?_
  conv => whnf
  rw [hdz]
  conv => whnf
  refine .frz _ _ Tryz.call17 hsz (Nat.le_of_ble_eq_true rfl) rfl ?_
  conv => whnf
  rw [decide_eq_false (by omega : ¬ v < 0)]
  conv => whnf
  refine .frz _ _ Tryz.call18 (toGetting_fz l s ws gs c z es hw hg hB) (Nat.le_of_ble_eq_true rfl) rfl ?_
  conv => whnf
  refine .frz _ _ Tryz.call7 gS (Nat.le_of_ble_eq_true rfl) rfl ?_
  conv => whnf
  refine .own _ (fgt1 (fgtG _ _ _ _ _ _ _)) _ _ Tryz.call18 gT (Nat.le_of_ble_eq_true rfl) (AV.nsB_iff rfl) (arrG_noSl _ _ _ _) ?_
  conv => whnf
  refine ⟨lI ws, ?_⟩
  conv => whnf
  refine ⟨lI gs, ?_⟩
  conv => whnf
  refine ⟨lX, ?_⟩
  conv => whnf
  refine .own _ (fgt3 fX (fgtV1 _) (fgtV1 _)) _ _ Tryz.call6 gO (Nat.le_of_ble_eq_true rfl) (AV.nsB_iff rfl) (arrG_noSl _ _ _ _) ?_
  conv => whnf
  refine ⟨lI ws2, ?_⟩
  conv => whnf
  refine ⟨lI gs2, ?_⟩
  conv => whnf
  refine ⟨lU, ?_⟩
  conv => whnf
  refine .own _ (fgt2 fU (fgtG _ _ _ _ _ _ _)) _ _ Tryz.call19 (eqGetting_same l2 s2 ws2 gs2 c2 z2 es2 hw2 hg2 hB2).up (Nat.le_of_ble_eq_true rfl) (AV.nsB_iff rfl) (fun k hk => by cases hk) ?_
  conv => whnf
  rw [neqF]
  conv => whnf
  refine VDraw.goR [0, 0, 2, 7, 15] [2, 3] [] [] rfl (by decide +kernel) ?_
  conv => whnf
  refine .frz _ _ Tryz.call18 (toGetting_fz l s ws gs c z es hw hg hB) (Nat.le_of_ble_eq_true rfl) rfl ?_
  conv => whnf
  refine ⟨lI ws, ?_⟩
  conv => whnf
  refine ⟨lI gs, ?_⟩
  conv => whnf
  refine ⟨lX, ?_⟩
  conv => whnf
  refine .own _ (fgt2 fX (fgtG _ _ _ _ _ _ _)) _ _ Tryz.call19 (eqGetting_same l s ws gs c z es hw hg hB).up (Nat.le_of_ble_eq_true rfl) (AV.nsB_iff rfl) (fun k hk => by cases hk) ?_
  conv => whnf
  refine .mark xs _ _ Tryz.call20 (markGetting_m M hM l s ws gs c z xs es hxn hxl hw hg hse) (gtB_arr _ _ _ _) (gtB_inT _ _ _ _) (by repeat' (first | exact trivial | refine ⟨?_, ?_⟩ | exact .inl rfl | exact .inr (box_noT rfl) | exact .inr (arrI_noT _ _) | exact .inr (oE_noT _ _ _ hdis))) ?_
  conv => whnf
  refine ⟨lI ws2, ?_⟩
  conv => whnf
  refine ⟨lI gs2, ?_⟩
  conv => whnf
  refine ⟨lU, ?_⟩
  conv => whnf
  refine .own _ (fgt2 fU (fgtG _ _ _ _ _ _ _)) _ _ Tryz.call19 (eqGetting_same l2 s2 ws2 gs2 c2 z2 es2 hw2 hg2 hB2).up (Nat.le_of_ble_eq_true rfl) (AV.nsB_iff rfl) (fun k hk => by cases hk) ?_
  conv => whnf
  rw [neqF]
  conv => whnf
  refine .mark us _ _ Tryz.call20 (markGetting_m M hM l2 s2 ws2 gs2 c2 z2 us es2 hun hul hw2 hg2 hs2) (gtB_arr _ _ _ _) (gtB_inT _ _ _ _) (by repeat' (first | exact trivial | refine ⟨?_, ?_⟩ | exact .inl rfl | exact .inr (box_noT rfl) | exact .inr (arrI_noT _ _) | exact .inr (oE_noT _ _ _ hdis2))) ?_
  conv => whnf
  refine ⟨mI _ _, ?_⟩
  conv => whnf
  refine ⟨mI _ _, ?_⟩
  conv => whnf
  refine ⟨mU, ?_⟩
  conv => whnf
  refine .own _ (fgt2 fM (fgtV1 _)) _ _ Tryz.call21 gH.up (Nat.le_of_ble_eq_true rfl) (AV.nsB_iff rfl) (fun k hk => by cases hk) ?_
  conv => whnf
  rw [neqF]
  conv => whnf
  refine .frz _ _ Tryz.call18 (toGetting_fz l s ws gs c z es hw hg hB) (Nat.le_of_ble_eq_true rfl) rfl ?_
  conv => whnf
  refine .frz _ _ Tryz.call6 gI (Nat.le_of_ble_eq_true rfl) rfl ?_
  conv => whnf
  refine .frz _ _ Tryz.call19 (eqGetting_same l2 s2 ws2 gs2 c2 z2 es2 hw2 hg2 hB2) (Nat.le_of_ble_eq_true rfl) rfl ?_
  conv => whnf
  rw [neqF]
  conv => whnf
  refine ⟨mI _ _, ?_⟩
  conv => whnf
  refine ⟨mI _ _, ?_⟩
  conv => whnf
  refine ⟨mU, ?_⟩
  conv => whnf
  refine .own _ (fgt2 fM (fgtV1 _)) _ _ Tryz.call21 gH.up (Nat.le_of_ble_eq_true rfl) (AV.nsB_iff rfl) (fun k hk => by cases hk) ?_
  conv => whnf
  rw [neqF]
  conv => whnf
  refine ⟨trivial, ?_⟩
  conv => whnf
  exact ⟨rfl, rfl⟩
end Go.Abs.F

set_option linter.unusedSimpArgs false
set_option linter.unusedVariables false
namespace Go.Abs.F
open Go Go.Abs Go.Proofs Go.RowKit
attribute [local irreducible] IntKind.wrap
set_option maxHeartbeats 16000000 in
set_option maxRecDepth 100000 in
theorem exact_bad (l s : Int) (ws gs : List Int) (c z : Int) (es : List Eqn) (id : Int) (d : ByteArray) (hd : d.size ≤ 1048576) (v : Int) (hv : 0 ≤ v) (hsz : Good Tryz.prog 17 [getF l s ws gs c z es, vint 1048576] [] (vint v) []) (hz : GSz ws gs es)
    (M : Int → ByteArray) (hM : ∀ n, 1 ≤ n → n ≤ 1000000000 → Good Tryz.prog 117 [vint n] [] (vstr (M n)) [])
    (gS : Good Tryz.prog 7 [getF l s ws gs c z es, vint id, vstr d] [] (.tup [getN, vint 3]) [])
    (gI : Good Tryz.prog 6 [getF l s ws gs c z es, vint id, vstr d] [] (.tup [getN, vint 3]) [])
    (gO : GoodO true Tryz.prog 6 [getF l s ws gs c z es, vint id, vstr d] [] (.tup [getN, vint 3]) []) :
    GoodO true Tryz.prog 4 [getF l s ws gs c z es, vint id, vstr d] [] (vbool true) [] := by
  have hw : ws.length ≤ 1100000 := by have := hz.n; omega
  have hg : gs.length ≤ 1100000 := by have := hz.n; omega
  have hse : sumE es ≤ 1100000 := by have := hz.n; omega
  have hB : SBd c z es := hz.bd c z
  obtain ⟨xs, hxs⟩ : ∃ xs, xs = (List.range es.length).map fun t => 2 * t := ⟨_, rfl⟩
  have hxl : xs.length = es.length := by rw [hxs, List.length_map, List.length_range]
  have hxn : xs.Nodup := by
    rw [hxs]
    exact List.pairwise_map.2 (List.Pairwise.imp (fun {a b} (h : a ≠ b) (q : 2 * a = 2 * b) => h (by omega)) List.nodup_range)
  have gT : GoodO true Tryz.prog 18 [getF l s ws gs c z es] [] (gtR l s ws gs c z es) (gtB ws gs xs es) := by
    have := good_rent (fun t => 2 * t) (fun a b h => by omega) (toGetting_o l s ws gs c z es hw hg hB) rfl (fun blk h => by
      rcases List.mem_cons.1 h with rfl | h
      · exact ⟨_, _, rfl⟩
      · rcases List.mem_cons.1 h with rfl | h
        · exact ⟨_, _, rfl⟩
        · cases List.mem_singleton.1 h; exact ⟨_, _, rfl⟩)
    rwa [rent_gtB, ← hxs] at this
  clear hxs
  have hdisX : ∀ t ∈ ([] : List Nat), t ∉ xs := fun t h => by cases h
  have hdz : decide (((d.size : Nat) : Int) > 1048576) = false := decide_eq_false (by omega)
  have lI : ∀ r : List Int, 0 + r.length ≤ (r.map eI).length := fun r => by rw [List.length_map]; omega
  have lX : 0 + es.length ≤ (oE xs es).length := by rw [oE_len hxl]; omega
  have fX := fgtGR l s ws gs c z xs es hxl (takeI ws) (takeI gs) (takeL _ _ (oE_len hxl).symm)
  refine good_eO (some 3) xM Tryz.func4 rfl rfl ?_
  conv => whnf
  rw [hdz]
  conv => whnf
  refine .frz _ _ Tryz.call17 hsz (Nat.le_of_ble_eq_true rfl) rfl ?_
  conv => whnf
  rw [decide_eq_false (by omega : ¬ v < 0)]
  conv => whnf
  refine .frz _ _ Tryz.call18 (toGetting_fz l s ws gs c z es hw hg hB) (Nat.le_of_ble_eq_true rfl) rfl ?_
  conv => whnf
  refine .frz _ _ Tryz.call7 gS (Nat.le_of_ble_eq_true rfl) rfl ?_
  conv => whnf
  refine .own _ (fgt1 (fgtG _ _ _ _ _ _ _)) _ _ Tryz.call18 gT (Nat.le_of_ble_eq_true rfl) (AV.nsB_iff rfl) (arrG_noSl _ _ _ _) ?_
  conv => whnf
  refine ⟨lI ws, ?_⟩
  conv => whnf
  refine ⟨lI gs, ?_⟩
  conv => whnf
  refine ⟨lX, ?_⟩
  conv => whnf
  refine .own _ (fgt3 fX (fgtV1 _) (fgtV1 _)) _ _ Tryz.call6 gO (Nat.le_of_ble_eq_true rfl) (AV.nsB_iff rfl) (fun k hk => by cases hk) ?_
  conv => whnf
  refine .frz _ _ Tryz.call19 eqGetting_no (Nat.le_of_ble_eq_true rfl) rfl ?_
  conv => whnf
  refine VDraw.goR [0, 0, 2, 7, 15] [2, 3] [] [] rfl (by decide +kernel) ?_
  conv => whnf
  refine .frz _ _ Tryz.call18 (toGetting_fz l s ws gs c z es hw hg hB) (Nat.le_of_ble_eq_true rfl) rfl ?_
  conv => whnf
  refine ⟨lI ws, ?_⟩
  conv => whnf
  refine ⟨lI gs, ?_⟩
  conv => whnf
  refine ⟨lX, ?_⟩
  conv => whnf
  refine .own _ (fgt2 fX (fgtG _ _ _ _ _ _ _)) _ _ Tryz.call19 (eqGetting_same l s ws gs c z es hw hg hB).up (Nat.le_of_ble_eq_true rfl) (AV.nsB_iff rfl) (fun k hk => by cases hk) ?_
  conv => whnf
  refine .mark xs _ _ Tryz.call20 (markGetting_m M hM l s ws gs c z xs es hxn hxl hw hg hse) (gtB_arr _ _ _ _) (gtB_inT _ _ _ _) (by repeat' (first | exact trivial | refine ⟨?_, ?_⟩ | exact .inl rfl | exact .inr (box_noT rfl) | exact .inr (arrI_noT _ _) | exact .inr (oE_noT _ _ _ hdisX))) ?_
  conv => whnf
  refine .frz _ _ Tryz.call19 eqGetting_no (Nat.le_of_ble_eq_true rfl) rfl ?_
  conv => whnf
  refine .frz _ _ Tryz.call20 markGetting_no (Nat.le_of_ble_eq_true rfl) rfl ?_
  conv => whnf
  refine .frz _ _ Tryz.call21 (heldGetting_no M hM) (Nat.le_of_ble_eq_true rfl) rfl ?_
  conv => whnf
  refine .frz _ _ Tryz.call18 (toGetting_fz l s ws gs c z es hw hg hB) (Nat.le_of_ble_eq_true rfl) rfl ?_
  conv => whnf
  refine .frz _ _ Tryz.call6 gI (Nat.le_of_ble_eq_true rfl) rfl ?_
  conv => whnf
  refine .frz _ _ Tryz.call19 eqGetting_no (Nat.le_of_ble_eq_true rfl) rfl ?_
  conv => whnf
  refine .frz _ _ Tryz.call21 (heldGetting_no M hM) (Nat.le_of_ble_eq_true rfl) rfl ?_
  conv => whnf
  refine ⟨trivial, ?_⟩
  conv => whnf
  exact ⟨rfl, rfl⟩
set_option maxHeartbeats 16000000 in
set_option maxRecDepth 100000 in
theorem exact_long (l s : Int) (ws gs : List Int) (c z : Int) (es : List Eqn) (id : Int) (d : ByteArray) (hd : 1048576 < d.size) : Good Tryz.prog 4 [getF l s ws gs c z es, vint id, vstr d] [] (vbool true) [] := by
  refine good_e noM Tryz.func4 rfl rfl ?_
  conv => whnf
  rw [decide_eq_true (by omega : ((d.size : Nat) : Int) > 1048576)]
  conv => whnf
  refine ⟨trivial, ?_⟩
  conv => whnf
  exact ⟨rfl, rfl⟩
set_option maxHeartbeats 16000000 in
set_option maxRecDepth 100000 in
theorem exact_big (l s : Int) (ws gs : List Int) (c z : Int) (es : List Eqn) (id : Int) (d : ByteArray) (hd : d.size ≤ 1048576) (v : Int) (hv : v < 0) (hsz : Good Tryz.prog 17 [getF l s ws gs c z es, vint 1048576] [] (vint v) []) : Good Tryz.prog 4 [getF l s ws gs c z es, vint id, vstr d] [] (vbool true) [] := by
  refine good_e noM Tryz.func4 rfl rfl ?_
  conv => whnf
  rw [decide_eq_false (by omega : ¬ ((d.size : Nat) : Int) > 1048576)]
  conv => whnf
  refine .mk _ _ false Tryz.call17 hsz (Nat.le_of_ble_eq_true rfl) (.inl rfl) ?_
  conv => whnf
  rw [decide_eq_true hv]
  conv => whnf
  refine ⟨trivial, ?_⟩
  conv => whnf
  exact ⟨rfl, rfl⟩
theorem exact_law (l s : Int) (ws gs : List Int) (c z : Int) (es : List Eqn) (hw : ws.length ≤ 9223372036854775807) (hg : gs.length ≤ 9223372036854775807) (hn : es.length ≤ 9223372036854775807) (hs : ∀ e ∈ es, e.r.length ≤ 9223372036854775807 ∧ e.d.size ≤ 9223372036854775807) (id : Int) (d : ByteArray) :
    ∃ r out, r = vbool true ∧ Good Tryz.prog 4 [getF l s ws gs c z es, vint id, vstr d] [] r out := by
  refine ⟨_, [], rfl, ?_⟩
  by_cases hd : d.size ≤ 1048576
  · obtain ⟨_, _, ⟨v, rfl, rfl, hv⟩, hsz⟩ := szGetting_ex l s ws gs c z es hw hg hn hs
    by_cases q : 0 ≤ v
    · have hz := hv q
      have hw' : ws.length ≤ 1100000 := by have := hz.n; omega
      have hg' : gs.length ≤ 1100000 := by have := hz.n; omega
      have hB := hz.bd c z
      obtain ⟨M, hM⟩ := mark_fn
      obtain ⟨va, hva⟩ := gar_ex l s ws gs c z es id d
      have gS := specGA_ok l s ws gs c z es hw' hg' hB id d (by omega) va hva
      have gI := implGA_ok l s ws gs c z es hw' hg' hB id d (by omega) va hva
      obtain ⟨ro, out, hO, gO⟩ := implGA_o l s ws gs c z es hw' hg' hB id d (by omega) va hva
      cases hO with
      | bad => exact good_down (exact_bad l s ws gs c z es id d hd v q hsz hz M hM gS gI gO)
      | got l2 s2 ws2 gs2 c2 z2 es2 k ts hn2 hl hw2 hg2 hB2 hs2 =>
        have gR := good_rent (fun t => 2 * t + 1) (fun a b (h : 2 * a + 1 = 2 * b + 1) => by omega) gO rfl (gtB_arr _ _ _ _)
        rw [rent_gtB] at gR
        exact good_down (exact_new l s ws gs c z es id d hd v q hsz hz M hM l2 s2 ws2 gs2 c2 z2 es2 k ts hn2 hl hw2 hg2 hB2 hs2 gS gI gR)
    · exact exact_big l s ws gs c z es id d hd v (by omega) hsz
  · exact exact_long l s ws gs c z es id d (by omega)
end Go.Abs.F

set_option linter.unusedSimpArgs false
set_option linter.unusedVariables false
namespace Go.Abs.F
open Go Go.Abs Go.Proofs Go.RowKit
attribute [local irreducible] IntKind.wrap
theorem fnExact_good (a0 : (Int × Int × List Int × List Int) × (Int × Int × List (List Int × ByteArray))) (a1 : Int) (a2 : ByteArray)
    (ok0 : ((Lit.int .i64 a0.1.1).wf = true ∧ (Lit.int .i64 a0.1.2.1).wf = true ∧ (a0.1.2.2.1.length ≤ 9223372036854775807 ∧ ∀ x ∈ a0.1.2.2.1, (Lit.int .i64 x).wf = true) ∧ (a0.1.2.2.2.length ≤ 9223372036854775807 ∧ ∀ x ∈ a0.1.2.2.2, (Lit.int .i64 x).wf = true)) ∧
      ((Lit.int .i64 a0.2.1).wf = true ∧ (Lit.int .i64 a0.2.2.1).wf = true ∧ (a0.2.2.2.length ≤ 9223372036854775807 ∧ ∀ x ∈ a0.2.2.2, (x.1.length ≤ 9223372036854775807 ∧ ∀ y ∈ x.1, (Lit.int .i64 y).wf = true) ∧ x.2.size ≤ 9223372036854775807)))
    (ok1 : (Lit.int .i64 a1).wf = true) (ok2 : a2.size ≤ 9223372036854775807) : ∃ r out, r = vbool true ∧ Good Tryz.prog 4 [.agg (List.map AC.p [.lit (.int .i64 a0.1.1), .lit (.int .i64 a0.1.2.1), .sl (a0.1.2.2.1.map eI), .sl (a0.1.2.2.2.map eI), .lit (.int .i64 a0.2.1), .lit (.int .i64 a0.2.2.1), .sl (a0.2.2.2.map fun p => [.sl (p.1.map eI), .lit (.string p.2)])]), .one (.p (.lit (.int .i64 a1))), .one (.p (.lit (.string a2)))] [] r out := by
  have h := exact_law a0.1.1 a0.1.2.1 a0.1.2.2.1 a0.1.2.2.2 a0.2.1 a0.2.2.1 (a0.2.2.2.map fun p => (⟨p.1, p.2⟩ : Eqn)) ok0.1.2.2.1.1 ok0.1.2.2.2.1 (by rw [List.length_map]; exact ok0.2.2.2.1) (fun e he => by
    obtain ⟨p, hp, rfl⟩ := List.mem_map.1 he
    have := ok0.2.2.2.2 p hp
    exact ⟨this.1.1, this.2⟩) a1 a2
  have e : (a0.2.2.2.map fun p => (⟨p.1, p.2⟩ : Eqn)).map eE = a0.2.2.2.map fun p => [.sl (p.1.map eI), .lit (.string p.2)] := by rw [List.map_map]; rfl
  rw [← e]
  exact h
end Go.Abs.F
