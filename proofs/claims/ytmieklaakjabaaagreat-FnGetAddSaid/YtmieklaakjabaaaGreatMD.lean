import Derived.Test.YtmieklaakjabaaaGreatMC
import Derived.Test.YtmieklaakjabaaaGreatMA
set_option linter.unusedSimpArgs false
set_option linter.unusedVariables false
namespace Go.Abs.F
open Go Go.Abs Go.Proofs Go.RowKit
attribute [local irreducible] IntKind.wrap
theorem asc_len : ∀ {r : List Int} {a c : Int}, r.Pairwise (· < ·) → (∀ x ∈ r, a ≤ x) → (∀ x ∈ r, x < c) → a ≤ c → (r.length : Int) ≤ c - a
  | [], a, c, _, _, _, h => by simp; omega
  | x :: r, a, c, hp, hl, hh, h => by
    obtain ⟨h1, h2⟩ := List.pairwise_cons.1 hp
    have hx := hl x List.mem_cons_self
    have hx2 := hh x List.mem_cons_self
    have := asc_len (a := x + 1) h2 (fun y hy => by have := h1 y hy; omega) (fun y hy => hh y (List.mem_cons_of_mem _ hy)) (by omega)
    rw [List.length_cons]; omega
theorem asc_full : ∀ {r : List Int} {a c : Int}, r.Pairwise (· < ·) → (∀ x ∈ r, a ≤ x) → (∀ x ∈ r, x < c) → (r.length : Int) = c - a → ∀ y, a ≤ y → y < c → y ∈ r
  | [], a, c, _, _, _, h, y, h1, h2 => by simp at h; omega
  | x :: r, a, c, hp, hl, hh, h, y, h1, h2 => by
    obtain ⟨p1, p2⟩ := List.pairwise_cons.1 hp
    have hx := hl x List.mem_cons_self
    have hx2 := hh x List.mem_cons_self
    have hlen := asc_len (a := x + 1) p2 (fun y hy => by have := p1 y hy; omega) (fun y hy => hh y (List.mem_cons_of_mem _ hy)) (by omega)
    rw [List.length_cons] at h
    have hxa : x = a := by omega
    subst hxa
    by_cases e : y = x
    · subst e; exact List.mem_cons_self
    · exact List.mem_cons_of_mem _ (asc_full (a := x + 1) p2 (fun z hz => by have := p1 z hz; omega) (fun z hz => hh z (List.mem_cons_of_mem _ hz)) (by omega) y (by omega) h2)
theorem pvs_row {c : Int} {z : Nat} {es : List Eqn} (h : EqOk c z es) : RowP c (es.map pv) := by
  refine ⟨by rw [List.pairwise_map]; exact h.asc, fun x hx => ?_, fun x hx => ?_⟩
  · obtain ⟨e, he, rfl⟩ := List.mem_map.1 hx
    exact (h.row e he).1.lo _ (pv_mem (h.row e he).2.1)
  · obtain ⟨e, he, rfl⟩ := List.mem_map.1 hx
    exact (h.row e he).1.hi _ (pv_mem (h.row e he).2.1)
theorem eqs_len {c : Int} {z : Nat} {es : List Eqn} (h : EqOk c z es) (hc : 0 ≤ c) : (es.length : Int) ≤ c := by
  have hp := pvs_row h
  have := asc_len (a := 0) hp.asc hp.lo hp.hi hc
  rw [List.length_map] at this; omega
theorem sok_bd {c z : Int} {es : List Eqn} (h : SOk c z es) : SBd c z es := by
  have h1 := h.c1; have h2 := h.c2; have h3 := h.z1; have h4 := h.z2
  refine ⟨by have := eqs_len h.eq (by omega); omega, fun e he => ?_⟩
  obtain ⟨r1, r2, r3⟩ := h.eq.row e he
  exact ⟨by have := row_len (r1.mono h2); omega, by omega⟩
theorem get_of {c : Int} {z : Nat} {es : List Eqn} (h : EqOk c z es) {e : Eqn} (he : e ∈ es) {a : Int} (hr : e.r = [a]) : getE es a = some e.d := by
  unfold getE
  cases q : es.find? (fun e => decide (e.r = [a])) with
  | none =>
    have := List.find?_eq_none.1 q e he
    simp [hr] at this
  | some f =>
    have hf := List.mem_of_find?_eq_some q
    have hf2 : f.r = [a] := by simpa using List.find?_some q
    have : pv f = pv e := by unfold pv; rw [hf2, hr]
    rw [h.pv_inj hf he this]; rfl
theorem get_inv {es : List Eqn} {a : Int} (h : (getE es a).isSome = true) : ∃ e ∈ es, e.r = [a] ∧ getE es a = some e.d := by
  unfold getE at h ⊢
  cases q : es.find? (fun e => decide (e.r = [a])) with
  | none => rw [q] at h; cases h
  | some f => exact ⟨f, List.mem_of_find?_eq_some q, by simpa using List.find?_some q, rfl⟩
theorem get_top {c : Int} {z : Nat} {es : List Eqn} (h : EqOk c z es) {a : Int} (ha : c ≤ a) : (getE es a).isSome = false := by
  cases q : (getE es a).isSome with
  | false => rfl
  | true =>
    obtain ⟨e, he, hr, _⟩ := get_inv q
    have := (h.row e he).1.hi a (by rw [hr]; exact List.mem_singleton.2 rfl)
    omega
theorem prefix_ex {c z : Int} {es : List Eqn} (h : SOk c z es) : ∃ n, PreP es n ∧ (n : Int) ≤ c := by
  have h1 := h.c1
  obtain ⟨n, hn, hc⟩ := pre_ex (es := es) (c := c.toNat) (get_top h.eq (by omega))
  exact ⟨n, hn, by omega⟩
theorem PreP.uniq {es : List Eqn} {n m : Nat} (h : PreP es n) (g : PreP es m) : n = m := by
  rcases Nat.lt_trichotomy n m with q | q | q
  · have := g.yes n q; rw [h.no] at this; cases this
  · exact q
  · have := h.yes m q; rw [g.no] at this; cases this
theorem done_iff {c z : Int} {es : List Eqn} (h : SOk c z es) {n : Nat} (hn : PreP es n) (hc : (n : Int) ≤ c) : (n : Int) = c ↔ (es.length : Int) = c := by
  have hp := pvs_row h.eq
  have h1 := h.c1
  constructor
  · intro e
    have hall : ∀ y : Int, 0 ≤ y → y < c → y ∈ es.map pv := fun y h0 h2 => by
      have := hn.yes y.toNat (by omega)
      rw [show ((y.toNat : Nat) : Int) = y by omega] at this
      obtain ⟨e, he, hr, _⟩ := get_inv this
      exact List.mem_map.2 ⟨e, he, by unfold pv; rw [hr]; rfl⟩
    have : es.map pv = rng c.toNat := asc_ext hp.asc (by
      unfold rng
      rw [List.pairwise_map]
      exact List.Pairwise.imp (fun h => Int.ofNat_lt.2 h) List.pairwise_lt_range) fun y => ⟨fun hy => rng_mem.2 ⟨hp.lo y hy, by have := hp.hi y hy; omega⟩, fun hy => by
        obtain ⟨a1, a2⟩ := rng_mem.1 hy
        exact hall y a1 (by omega)⟩
    have := congrArg List.length this
    rw [List.length_map, rng_len] at this
    omega
  · intro e
    rcases Int.lt_or_le n c with q | q
    · have hf := asc_full (a := 0) hp.asc hp.lo hp.hi (by rw [List.length_map]; omega)
      obtain ⟨x, hx, hpx⟩ := List.mem_map.1 (hf n (by omega) q)
      have hrow := (h.eq.row x hx).1
      have hr : x.r = [(n : Int)] := by
        refine asc_ext hrow.asc (List.pairwise_singleton ..) fun y => ⟨fun hy => ?_, fun hy => ?_⟩
        · obtain ⟨f, hf2, hpf⟩ := List.mem_map.1 (hf y (hrow.lo y hy) (hrow.hi y hy))
          have := h.eq.apart hf2 hx (hpf ▸ hy)
          subst this
          rw [List.mem_singleton]; omega
        · rw [List.mem_singleton.1 hy, ← hpx]
          exact pv_mem (h.eq.row x hx).2.1
      have := hn.no
      rw [get_of h.eq hx hr] at this
      cases this
    · omega
/-- What was known stays known. -/
theorem get_keeps {c : Int} {z : Nat} {es : List Eqn} (h : EqOk c z es) {t : Eqn} (ht : RedP c z es (t.r, t.d)) (hne : t.r ≠ []) {a : Int} (hs : (getE es a).isSome = true) : getE (addE es t) a = getE es a := by
  obtain ⟨e, he, hr, hd⟩ := get_inv hs
  have hpe : pv e = a := by unfold pv; rw [hr]; rfl
  have hno : pv t ∉ e.r := fun q => by
    rw [hr, List.mem_singleton] at q
    exact ht.no e he (by rw [hpe, ← q]; exact pv_mem hne)
  have hmem : e ∈ addE es t := mem_insE.2 (.inr (List.mem_map.2 ⟨e, he, if_neg hno⟩))
  rw [hd, get_of (addE_ok h ht hne) hmem hr]
/-- The first n blocks. -/
def catE (es : List Eqn) : Nat → ByteArray
  | 0 => ByteArray.empty
  | n + 1 => catE es n ++ (getE es n).getD ByteArray.empty
theorem catE_size {c : Int} {z : Nat} {es : List Eqn} (h : EqOk c z es) : ∀ n, (catE es n).size ≤ n * z
  | 0 => Nat.zero_le _
  | n + 1 => by
    have ih := catE_size h n
    have hb : ((getE es n).getD ByteArray.empty).size ≤ z := by
      cases q : (getE es n).isSome with
      | false =>
        rw [Option.isSome_eq_false_iff, Option.isNone_iff_eq_none] at q
        rw [q]; exact Nat.zero_le _
      | true =>
        obtain ⟨e, he, _, hd⟩ := get_inv q
        rw [hd]
        show e.d.size ≤ z
        rw [(h.row e he).2.2]; exact Nat.le_refl _
    show (catE es n ++ _).size ≤ (n + 1) * z
    rw [ByteArray.size_append, Nat.add_mul]; omega
theorem catE_eq {es es' : List Eqn} : ∀ {n : Nat}, (∀ i : Nat, i < n → getE es' i = getE es i) → catE es' n = catE es n
  | 0, _ => rfl
  | n + 1, h => by
    show catE es' n ++ _ = catE es n ++ _
    rw [catE_eq fun i hi => h i (by omega), h n (by omega)]
theorem catE_more (es : List Eqn) (n : Nat) : ∀ m, ∃ b, catE es (n + m) = catE es n ++ b
  | 0 => ⟨ByteArray.empty, by simp⟩
  | m + 1 => by
    obtain ⟨b, hb⟩ := catE_more es n m
    exact ⟨b ++ (getE es ((n + m : Nat) : Int)).getD ByteArray.empty, by show catE es (n + m) ++ _ = _; rw [hb, ByteArray.append_assoc]; rfl⟩
/-- Of what was learnt: what GetAdd leaves is ok. -/
theorem addR_ok {c z : Int} {es : List Eqn} (h : SOk c z es) {r : List Int} {d : ByteArray} (hr : RowP c r) (hd : d.size = z.toNat) {A : List Eqn × Int} (hA : A = addR es (red es (r, d)) z.toNat) : SOk c z A.1 ∧ ∀ a : Int, (getE es a).isSome = true → getE A.1 a = getE es a := by
  have hR := red_ok h.eq hr hd
  unfold addR at hA
  by_cases q : (red es (r, d)).1 = []
  · rw [if_pos q] at hA
    subst hA
    exact ⟨h, fun _ _ => rfl⟩
  · rw [if_neg q] at hA
    subst hA
    exact ⟨⟨h.c1, h.c2, h.z1, h.z2, addE_ok h.eq hR q⟩, fun a ha => get_keeps h.eq hR q ha⟩
end Go.Abs.F

set_option linter.unusedSimpArgs false
set_option linter.unusedVariables false
namespace Go.Abs.F
open Go Go.Abs Go.Proofs Go.RowKit
attribute [local irreducible] IntKind.wrap
/-- The beginning that is known. -/
def txt (es : List Eqn) (n : Nat) (l : Int) : ByteArray := if ((catE es n).size : Int) > l then (catE es n).extract 0 l.toNat else catE es n
@[reducible] def getB (l s : Int) (ws gs : List Int) (c z : Int) (es : List Eqn) : Blk := .box [.p (.lit (.int .i64 l)), .p (.lit (.int .i64 s)), .p (slI ws), .p (slI gs), .p (.lit (.int .i64 c)), .p (.lit (.int .i64 z)), .p (.sl (es.map eE))]
theorem cat24 {l s : Int} {ws gs : List Int} {c z : Int} {es : List Eqn} (h : GOk l s ws gs c z es) {n : Nat} (hn : (n : Int) ≤ c) : (catE es n).size ≤ 400 := by
  have h1 := catE_size h.so.eq n
  have h2 := h.so.c2; have h3 := h.so.z2; have h4 := h.so.z1
  have : n * z.toNat ≤ 24 * 16 := Nat.mul_le_mul (by omega) (by omega)
  omega
theorem txt_min (es : List Eqn) (n : Nat) (l : Int) (h : 0 ≤ l) : (catE es n).extract (Int.toNat 0) (if l < ((catE es n).size : Int) then l else ((catE es n).size : Int)).toNat = txt es n l := by
  unfold txt
  by_cases q : l < ((catE es n).size : Int)
  · rw [if_pos q, if_pos q]; rfl
  · rw [if_neg q, if_neg q, Int.toNat_natCast]
    exact ByteArray.extract_zero_size
set_option maxHeartbeats 16000000 in
set_option maxRecDepth 100000 in
theorem implText_ok (l s : Int) (ws gs : List Int) (c z : Int) (es : List Eqn) (hk : GOk l s ws gs c z es) (n : Nat) (hn : PreP es n) (hc : (n : Int) ≤ c) : Good Tryz.prog 11 [getF l s ws gs c z es] [] (vstr (txt es n l)) [] := by
  have hB := sok_bd hk.so
  have hw := hk.pl.w2
  have hl1 := hk.pl.l1
  have hc2 := hk.so.c2
  have hsz := cat24 hk hc
  refine good_e noM Tryz.func11 rfl rfl ?_
  conv => whnf
  refine .mk _ _ false Tryz.call9 (implGOk_ok l s ws gs c z es (by omega) hB true ⟨fun _ => hk, fun _ => rfl⟩) (Nat.le_of_ble_eq_true rfl) (.inl rfl) ?_
  conv => whnf
  refine .mk _ _ false Tryz.call44 (implPre_ok c z es hB n hn hc (by omega)) (Nat.le_of_ble_eq_true rfl) (.inl rfl) ?_
  conv => whnf
  refine VLoop.enter [1, 3, 12, 13] ?_
  conv => whnf
  refine VLoop.ind2 (n0 := 1) (α := ByteArray) (β := Int) noM [1, 3, 12, 13] (fun o i => ⟨35, 0, [(1, .one (.hp 0 0 0)), (3, vstr o), (12, vint n), (13, vint i)], [(0, some (getB l s ws gs c z es))]⟩)
    (fun o i => ∃ j : Nat, i = j ∧ j ≤ n ∧ o = catE es j) (fun _ i => ((n : Int) - i).toNat) ?_ _ 0 ⟨0, rfl, by omega, rfl⟩
  rintro _ _ ⟨j, rfl, hj, rfl⟩
  have hw : IntKind.i64.wrap ((j : Int) + 1) = ((j + 1 : Nat) : Int) := by rw [wrap_in _ (by omega) (by omega)]; omega
  have hszj := cat24 (n := j) hk (by omega)
  conv => whnf
  split
  · rename_i q
    have q' := of_decide_eq_true q
    have hszj1 := cat24 (n := j + 1) hk (by omega)
    obtain ⟨g, hg⟩ : ∃ g, g = getE es j := ⟨_, rfl⟩
    have hcn : catE es (j + 1) = catE es j ++ g.getD ByteArray.empty := by rw [hg]; rfl
    have gg := implGet_ok c z es hB j
    rw [← hg] at gg
    conv => whnf
    refine .mk _ _ false Tryz.call45 gg (Nat.le_of_ble_eq_true rfl) (.inl rfl) ?_
    conv => whnf
    rw [abin_cat (a := _) (b := _) rfl rfl (by rw [hcn, ByteArray.size_append] at hszj1; omega)]
    conv => whnf
    rw [← hcn, hw]
    exact ⟨_, _, rfl, rfl, ⟨j + 1, rfl, by omega, rfl⟩, by omega⟩
  · rename_i q
    have q' := of_decide_eq_false q
    have e : j = n := by omega
    subst e
    have hm := txt_min es j l (by omega)
    conv => whnf
    refine ⟨⟨by omega, by omega, by omega⟩, ?_⟩
    rw [hm]
    conv => whnf
    refine ⟨trivial, ?_⟩
    conv => whnf
    exact ⟨rfl, rfl⟩
set_option maxHeartbeats 16000000 in
set_option maxRecDepth 100000 in
theorem specText6_ok (l s : Int) (ws gs : List Int) (c z : Int) (es : List Eqn) (hk : GOk l s ws gs c z es) (n : Nat) (hn : PreP es n) (hc : (n : Int) ≤ c) : Good Tryz.prog 46 [getF l s ws gs c z es] [] (vstr (txt es n l)) [] := by
  have hB := sok_bd hk.so
  have hl1 := hk.pl.l1
  have hc2 := hk.so.c2
  have hsz := cat24 hk hc
  refine good_e noM Tryz.func46 rfl rfl ?_
  conv => whnf
  refine VLoop.enter [1, 3, 4] ?_
  conv => whnf
  refine VLoop.ind2 (n0 := 1) (α := ByteArray) (β := Int) noM [1, 3, 4] (fun o i => ⟨36, 0, [(1, .one (.hp 0 0 0)), (3, vstr o), (4, vint i)], [(0, some (getB l s ws gs c z es))]⟩)
    (fun o i => ∃ j : Nat, i = j ∧ j ≤ n ∧ o = catE es j) (fun _ i => ((n : Int) - i).toNat) ?_ _ 0 ⟨0, rfl, by omega, rfl⟩
  rintro _ _ ⟨j, rfl, hj, rfl⟩
  have hw : IntKind.i64.wrap ((j : Int) + 1) = ((j + 1 : Nat) : Int) := by rw [wrap_in _ (by omega) (by omega)]; omega
  have hszj := cat24 (n := j) hk (by omega)
  conv => whnf
  refine .mk _ _ false Tryz.call88 (specPre_ok c z es hB n hn (by omega)) (Nat.le_of_ble_eq_true rfl) (.inl rfl) ?_
  conv => whnf
  split
  · rename_i q
    have q' := of_decide_eq_true q
    have hszj1 := cat24 (n := j + 1) hk (by omega)
    obtain ⟨g, hg⟩ : ∃ g, g = getE es j := ⟨_, rfl⟩
    have hcn : catE es (j + 1) = catE es j ++ g.getD ByteArray.empty := by rw [hg]; rfl
    have gg := specGet_ok c z es hB j
    rw [← hg] at gg
    conv => whnf
    refine .mk _ _ false Tryz.call89 gg (Nat.le_of_ble_eq_true rfl) (.inl rfl) ?_
    conv => whnf
    rw [abin_cat (a := _) (b := _) rfl rfl (by rw [hcn, ByteArray.size_append] at hszj1; omega)]
    conv => whnf
    rw [← hcn, hw]
    exact ⟨_, _, rfl, rfl, ⟨j + 1, rfl, by omega, rfl⟩, by omega⟩
  · rename_i q
    have q' := of_decide_eq_false q
    have e : j = n := by omega
    subst e
    conv => whnf
    split
    · rename_i q2
      have q2' := of_decide_eq_true q2
      have hm : txt es j l = (catE es j).extract 0 l.toNat := if_pos q2'
      rw [hm]
      conv => whnf
      refine ⟨⟨by omega, by omega, by omega⟩, ?_⟩
      conv => whnf
      refine ⟨trivial, ?_⟩
      conv => whnf
      exact ⟨rfl, rfl⟩
    · rename_i q2
      have q2' := of_decide_eq_false q2
      have hm : txt es j l = catE es j := if_neg q2'
      rw [hm]
      conv => whnf
      refine ⟨trivial, ?_⟩
      conv => whnf
      exact ⟨rfl, rfl⟩
set_option maxHeartbeats 16000000 in
set_option maxRecDepth 100000 in
theorem specText_ok (l s : Int) (ws gs : List Int) (c z : Int) (es : List Eqn) (hk : GOk l s ws gs c z es) (n : Nat) (hn : PreP es n) (hc : (n : Int) ≤ c) : Good Tryz.prog 12 [getF l s ws gs c z es] [] (vstr (txt es n l)) [] := by
  have hB := sok_bd hk.so
  have hw := hk.pl.w2
  refine good_e noM Tryz.func12 rfl rfl ?_
  conv => whnf
  refine .mk _ _ false Tryz.call10 (specGOk_ok l s ws gs c z es (by omega) hB true ⟨fun _ => hk, fun _ => rfl⟩) (Nat.le_of_ble_eq_true rfl) (.inl rfl) ?_
  conv => whnf
  refine .mk _ _ false Tryz.call46 (specText6_ok l s ws gs c z es hk n hn hc) (Nat.le_of_ble_eq_true rfl) (.inl rfl) ?_
  conv => whnf
  refine ⟨trivial, ?_⟩
  conv => whnf
  exact ⟨rfl, rfl⟩
/-- So many windows are known as a whole. -/
structure WinsP (ws : List Int) (n : Nat) (m : Nat) : Prop where
  le : m ≤ ws.length
  yes : ∀ i, i < m → ws.getD i 0 ≤ n
  no : m < ws.length → ¬ ws.getD m 0 ≤ n
theorem WinsP.mono {ws : List Int} {n n' m m' : Nat} (h : WinsP ws n m) (g : WinsP ws n' m') (hn : n ≤ n') : m ≤ m' := by
  rcases Nat.lt_or_ge m' m with q | q
  · have h1 := h.yes m' q
    have h2 := g.no (by have := h.le; omega)
    omega
  · exact q
theorem wins_ex (ws : List Int) (n : Nat) : ∃ m, WinsP ws n m := by
  have key : ∀ k, k ≤ ws.length → (∀ i, i < k → ws.getD i 0 ≤ n) ∨ ∃ m, WinsP ws n m := by
    intro k
    induction k with
    | zero => intro _; exact .inl fun i hi => by omega
    | succ k ih =>
      intro hk
      rcases ih (by omega) with q | q
      · by_cases r : ws.getD k 0 ≤ n
        · refine .inl fun i hi => ?_
          by_cases e : i = k
          · subst e; exact r
          · exact q i (by omega)
        · exact .inr ⟨k, by omega, q, fun _ => r⟩
      · exact .inr q
  rcases key ws.length (Nat.le_refl _) with q | q
  · exact ⟨_, Nat.le_refl _, q, fun h => by omega⟩
  · exact q
set_option maxHeartbeats 16000000 in
set_option maxRecDepth 100000 in
theorem implWins_ok (l s : Int) (ws gs : List Int) (c z : Int) (es : List Eqn) (hk : GOk l s ws gs c z es) (n : Nat) (hn : PreP es n) (hc : (n : Int) ≤ c) (m : Nat) (hm : WinsP ws n m) : Good Tryz.prog 47 [getF l s ws gs c z es] [] (vint m) [] := by
  have hB := sok_bd hk.so
  have hc2 := hk.so.c2
  have hw2 := hk.pl.w2
  have hml := hm.le
  have hwm : (ws.map eI).length = ws.length := List.length_map ..
  refine good_e noM Tryz.func47 rfl rfl ?_
  conv => whnf
  refine VLoop.enter [1, 3] ?_
  conv => whnf
  refine VLoop.ind1 (n0 := 1) (α := Int) noM [1, 3] (fun i => ⟨25, 0, [(1, .one (.hp 0 0 0)), (3, vint i)], [(0, some (getB l s ws gs c z es))]⟩)
    (fun i => ∃ j : Nat, i = j ∧ j ≤ m) (fun i => ((m : Int) - i).toNat) ?_ 0 ⟨0, rfl, by omega⟩
  rintro _ ⟨j, rfl, hj⟩
  have hw : IntKind.i64.wrap ((j : Int) + 1) = ((j + 1 : Nat) : Int) := by rw [wrap_in _ (by omega) (by omega)]; omega
  have en : (j : Int).toNat = j := Int.toNat_natCast j
  conv => whnf
  refine VDraw.goR [0, 0, 2, 6, 14, 31, 63, 127, 255, 511, 127, 2047, 4095, 127, 8319, 24703, 65535, 131071] [15] [] [] rfl (by decide +kernel) ?_
  conv => whnf
  rw [hwm]
  cases q1 : decide ((j : Int) < ws.length) with
  | false =>
    have q1' := of_decide_eq_false q1
    have e : j = m := by omega
    subst e
    conv => whnf
    refine ⟨trivial, ?_⟩
    conv => whnf
    exact ⟨rfl, rfl⟩
  | true =>
  have q1' := of_decide_eq_true q1
  conv => whnf
  refine ⟨by omega, by rw [hwm]; omega, _, atI ws en (by omega), ?_⟩
  conv => whnf
  refine .mk _ _ false Tryz.call44 (implPre_ok c z es hB n hn hc (by omega)) (Nat.le_of_ble_eq_true rfl) (.inl rfl) ?_
  conv => whnf
  cases q2 : decide (ws.getD j 0 ≤ (n : Int)) with
  | true =>
    have q2' := of_decide_eq_true q2
    have hlt : j < m := by
      rcases Nat.lt_or_ge j m with q | q
      · exact q
      · have e : j = m := by omega
        subst e
        exact absurd q2' (hm.no (by omega))
    conv => whnf
    rw [hw]
    exact ⟨_, rfl, rfl, ⟨j + 1, rfl, hlt⟩, by omega⟩
  | false =>
    have q2' := of_decide_eq_false q2
    have e : j = m := by
      by_cases e : j = m
      · exact e
      · exact absurd (hm.yes j (by omega)) q2'
    subst e
    conv => whnf
    refine ⟨trivial, ?_⟩
    conv => whnf
    exact ⟨rfl, rfl⟩
set_option maxHeartbeats 16000000 in
set_option maxRecDepth 100000 in
theorem specWins6_ok (l s : Int) (ws gs : List Int) (c z : Int) (es : List Eqn) (hk : GOk l s ws gs c z es) (n : Nat) (hn : PreP es n) (hc : (n : Int) ≤ c) (m : Nat) (hm : WinsP ws n m) : Good Tryz.prog 48 [getF l s ws gs c z es] [] (vint m) [] := by
  have hB := sok_bd hk.so
  have hc2 := hk.so.c2
  have hw2 := hk.pl.w2
  have hml := hm.le
  have hwm : (ws.map eI).length = ws.length := List.length_map ..
  refine good_e noM Tryz.func48 rfl rfl ?_
  conv => whnf
  refine .mk _ _ false Tryz.call88 (specPre_ok c z es hB n hn (by omega)) (Nat.le_of_ble_eq_true rfl) (.inl rfl) ?_
  conv => whnf
  refine VLoop.enter [1, 3, 4] ?_
  conv => whnf
  refine VLoop.ind1 (n0 := 1) (α := Int) noM [1, 3, 4] (fun i => ⟨27, 0, [(1, .one (.hp 0 0 0)), (3, vint i), (4, vint n)], [(0, some (getB l s ws gs c z es))]⟩)
    (fun i => ∃ j : Nat, i = j ∧ j ≤ m) (fun i => ((m : Int) - i).toNat) ?_ 0 ⟨0, rfl, by omega⟩
  rintro _ ⟨j, rfl, hj⟩
  have hw : IntKind.i64.wrap ((j : Int) + 1) = ((j + 1 : Nat) : Int) := by rw [wrap_in _ (by omega) (by omega)]; omega
  have en : (j : Int).toNat = j := Int.toNat_natCast j
  conv => whnf
  rw [hwm]
  cases q1 : decide ((j : Int) < ws.length) with
  | false =>
    have q1' := of_decide_eq_false q1
    have e : j = m := by omega
    subst e
    conv => whnf
    refine ⟨trivial, ?_⟩
    conv => whnf
    exact ⟨rfl, rfl⟩
  | true =>
  have q1' := of_decide_eq_true q1
  conv => whnf
  refine ⟨by omega, by rw [hwm]; omega, _, atI ws en (by omega), ?_⟩
  conv => whnf
  cases q2 : decide (ws.getD j 0 ≤ (n : Int)) with
  | true =>
    have q2' := of_decide_eq_true q2
    have hlt : j < m := by
      rcases Nat.lt_or_ge j m with q | q
      · exact q
      · have e : j = m := by omega
        subst e
        exact absurd q2' (hm.no (by omega))
    conv => whnf
    rw [hw]
    exact ⟨_, rfl, rfl, ⟨j + 1, rfl, hlt⟩, by omega⟩
  | false =>
    have q2' := of_decide_eq_false q2
    have e : j = m := by
      by_cases e : j = m
      · exact e
      · exact absurd (hm.yes j (by omega)) q2'
    subst e
    conv => whnf
    refine ⟨trivial, ?_⟩
    conv => whnf
    exact ⟨rfl, rfl⟩
set_option maxHeartbeats 16000000 in
set_option maxRecDepth 100000 in
theorem implWindows_ok (l s : Int) (ws gs : List Int) (c z : Int) (es : List Eqn) (hk : GOk l s ws gs c z es) (n : Nat) (hn : PreP es n) (hc : (n : Int) ≤ c) (m : Nat) (hm : WinsP ws n m) : Good Tryz.prog 13 [getF l s ws gs c z es] [] (vint m) [] := by
  have hB := sok_bd hk.so
  have hw := hk.pl.w2
  refine good_e noM Tryz.func13 rfl rfl ?_
  conv => whnf
  refine .mk _ _ false Tryz.call9 (implGOk_ok l s ws gs c z es (by omega) hB true ⟨fun _ => hk, fun _ => rfl⟩) (Nat.le_of_ble_eq_true rfl) (.inl rfl) ?_
  conv => whnf
  refine .mk _ _ false Tryz.call47 (implWins_ok l s ws gs c z es hk n hn hc m hm) (Nat.le_of_ble_eq_true rfl) (.inl rfl) ?_
  conv => whnf
  refine ⟨trivial, ?_⟩
  conv => whnf
  exact ⟨rfl, rfl⟩
set_option maxHeartbeats 16000000 in
set_option maxRecDepth 100000 in
theorem specWindows_ok (l s : Int) (ws gs : List Int) (c z : Int) (es : List Eqn) (hk : GOk l s ws gs c z es) (n : Nat) (hn : PreP es n) (hc : (n : Int) ≤ c) (m : Nat) (hm : WinsP ws n m) : Good Tryz.prog 14 [getF l s ws gs c z es] [] (vint m) [] := by
  have hB := sok_bd hk.so
  have hw := hk.pl.w2
  refine good_e noM Tryz.func14 rfl rfl ?_
  conv => whnf
  refine .mk _ _ false Tryz.call10 (specGOk_ok l s ws gs c z es (by omega) hB true ⟨fun _ => hk, fun _ => rfl⟩) (Nat.le_of_ble_eq_true rfl) (.inl rfl) ?_
  conv => whnf
  refine .mk _ _ false Tryz.call48 (specWins6_ok l s ws gs c z es hk n hn hc m hm) (Nat.le_of_ble_eq_true rfl) (.inl rfl) ?_
  conv => whnf
  refine ⟨trivial, ?_⟩
  conv => whnf
  exact ⟨rfl, rfl⟩
set_option maxHeartbeats 16000000 in
set_option maxRecDepth 100000 in
theorem done_ok (l s : Int) (ws gs : List Int) (c z : Int) (es : List Eqn) (hk : GOk l s ws gs c z es) (n : Nat) (hn : PreP es n) (hc : (n : Int) ≤ c) : Good Tryz.prog 49 [getF l s ws gs c z es] [] (vbool ((n : Int) == c)) [] := by
  have hB := sok_bd hk.so
  have hc2 := hk.so.c2
  refine good_e noM Tryz.func49 rfl rfl ?_
  conv => whnf
  refine VDraw.goR [0, 1, 3, 0, 8, 24, 63, 127] [2] [] [] rfl (by decide +kernel) ?_
  conv => whnf
  refine .mk _ _ false Tryz.call44 (implPre_ok c z es hB n hn hc (by omega)) (Nat.le_of_ble_eq_true rfl) (.inl rfl) ?_
  conv => whnf
  refine ⟨trivial, ?_⟩
  conv => whnf
  exact ⟨rfl, rfl⟩
set_option maxHeartbeats 16000000 in
set_option maxRecDepth 100000 in
theorem implDone_ok (l s : Int) (ws gs : List Int) (c z : Int) (es : List Eqn) (hk : GOk l s ws gs c z es) (n : Nat) (hn : PreP es n) (hc : (n : Int) ≤ c) : Good Tryz.prog 15 [getF l s ws gs c z es] [] (vbool ((n : Int) == c)) [] := by
  have hB := sok_bd hk.so
  have hw := hk.pl.w2
  refine good_e noM Tryz.func15 rfl rfl ?_
  conv => whnf
  refine .mk _ _ false Tryz.call9 (implGOk_ok l s ws gs c z es (by omega) hB true ⟨fun _ => hk, fun _ => rfl⟩) (Nat.le_of_ble_eq_true rfl) (.inl rfl) ?_
  conv => whnf
  refine .mk _ _ false Tryz.call49 (done_ok l s ws gs c z es hk n hn hc) (Nat.le_of_ble_eq_true rfl) (.inl rfl) ?_
  conv => whnf
  refine ⟨trivial, ?_⟩
  conv => whnf
  exact ⟨rfl, rfl⟩
set_option maxHeartbeats 16000000 in
set_option maxRecDepth 100000 in
theorem specDone_ok (l s : Int) (ws gs : List Int) (c z : Int) (es : List Eqn) (hk : GOk l s ws gs c z es) (n : Nat) (hn : PreP es n) (hc : (n : Int) ≤ c) : Good Tryz.prog 16 [getF l s ws gs c z es] [] (vbool ((n : Int) == c)) [] := by
  have hB := sok_bd hk.so
  have hw := hk.pl.w2
  have hs1 := hk.pl.s1
  have hce := hk.ce
  have hm : (es.map eE).length = es.length := List.length_map ..
  have hdi := done_iff hk.so hn hc
  have he : ((n : Int) == c) = ((es.length : Int) == cnt l s) := by
    rw [Bool.eq_iff_iff, beq_iff_eq, beq_iff_eq, hdi, hce]
  rw [he]
  refine good_e noM Tryz.func16 rfl rfl ?_
  conv => whnf
  refine VDraw.goR [0, 1, 3, 7, 15, 31, 63, 7, 135, 391, 1023, 2047, 4095] [1, 9] [] [] rfl (by decide +kernel) ?_
  conv => whnf
  refine .mk _ _ false Tryz.call10 (specGOk_ok l s ws gs c z es (by omega) hB true ⟨fun _ => hk, fun _ => rfl⟩) (Nat.le_of_ble_eq_true rfl) (.inl rfl) ?_
  conv => whnf
  refine .mk _ _ false Tryz.call43 (specCount_ok l s ws gs (by omega)) (Nat.le_of_ble_eq_true rfl) (.inl rfl) ?_
  conv => whnf
  rw [hm]
  refine ⟨trivial, ?_⟩
  conv => whnf
  exact ⟨rfl, rfl⟩
end Go.Abs.F

set_option linter.unusedSimpArgs false
set_option linter.unusedVariables false
namespace Go.Abs.F
open Go Go.Abs Go.Proofs Go.RowKit
attribute [local irreducible] IntKind.wrap
set_option maxHeartbeats 16000000 in
set_option maxRecDepth 100000 in
theorem whSolver_same (c z : Int) (es : List Eqn) (hB : SBd c z es) : Good Tryz.prog 37 [solF c z es, solF c z es] [] (vbool true) [] := by
  have hm : (es.map eE).length = es.length := List.length_map ..
  have hn := hB.n
  have b1 : ∀ x : Int, (x != x) = false := fun x => by simp
  refine good_e noM Tryz.func37 rfl rfl ?_
  conv => whnf
  rw [b1]
  conv => whnf
  rw [b1]
  conv => whnf
  rw [b1]
  conv => whnf
  refine VLoop.enter [2, 3, 5] ?_
  conv => whnf
  refine VLoop.ind1 (n0 := 2) (α := Int) noM [2, 3, 5] (fun i => ⟨63, 0, [(2, .one (.hp 0 0 0)), (3, .one (.hp 1 0 0)), (5, vint i)], [(0, some (.box [.p (.lit (.int .i64 c)), .p (.lit (.int .i64 z)), .p (.sl (es.map eE))])), (1, some (.box [.p (.lit (.int .i64 c)), .p (.lit (.int .i64 z)), .p (.sl (es.map eE))]))]⟩)
    (fun i => ∃ j : Nat, i = j ∧ j ≤ es.length) (fun i => ((es.length : Int) - i).toNat) ?_ 0 ⟨0, rfl, by omega⟩
  rintro _ ⟨j, rfl, hj⟩
  have hw : IntKind.i64.wrap ((j : Int) + 1) = ((j + 1 : Nat) : Int) := by rw [wrap_in _ (by omega) (by omega)]; omega
  have en : (j : Int).toNat = j := Int.toNat_natCast j
  conv => whnf
  rw [hm]
  split
  · rename_i q
    have q' := of_decide_eq_true q
    obtain ⟨x, hx⟩ : ∃ x, es[j]? = some x := ⟨_, List.getElem?_eq_getElem (by omega)⟩
    obtain ⟨hxr, hxd⟩ := hB.r x (mem_at hx)
    conv => whnf
    refine VDraw.goR [0, 1, 0, 7, 15, 31, 0, 64, 0, 448, 960, 1984, 4095, 8191, 16383, 32767, 16383, 131071, 262143, 524287, 16383, 1064959, 16383, 7356415, 15745023, 32522239, 67108863, 134217727, 268435455] [26] [] [] rfl (by decide +kernel) ?_
    conv => whnf
    refine ⟨by omega, by rw [hm]; omega, _, atE es en hx, ?_⟩
    conv => whnf
    refine ⟨by omega, by rw [hm]; omega, _, atE es en hx, ?_⟩
    conv => whnf
    have hss : (!x.d.toList == x.d.toList) = false := by simp
    rw [hss]
    conv => whnf
    refine ⟨by omega, by rw [hm]; omega, _, atE es en hx, ?_⟩
    conv => whnf
    refine ⟨by omega, by rw [hm]; omega, _, atE es en hx, ?_⟩
    conv => whnf
    refine .mk _ _ false Tryz.call86 (whInts_same x.r (by omega)) (Nat.le_of_ble_eq_true rfl) (.inl rfl) ?_
    conv => whnf
    rw [hw]
    exact ⟨_, rfl, rfl, ⟨j + 1, rfl, by omega⟩, by omega⟩
  · rename_i q
    have q' := of_decide_eq_false q
    conv => whnf
    refine ⟨trivial, ?_⟩
    conv => whnf
    exact ⟨rfl, rfl⟩
set_option maxHeartbeats 16000000 in
set_option maxRecDepth 100000 in
theorem whGet_same (l s : Int) (ws gs : List Int) (c z : Int) (es : List Eqn) (hw : ws.length ≤ 1000000) (hg : gs.length ≤ 1000000) (hB : SBd c z es) : Good Tryz.prog 8 [getF l s ws gs c z es, getF l s ws gs c z es] [] (vbool true) [] := by
  refine good_e noM Tryz.func8 rfl rfl ?_
  conv => whnf
  refine .mk _ _ false Tryz.call36 (whPlan_same l s ws gs hw hg) (Nat.le_of_ble_eq_true rfl) (.inl rfl) ?_
  conv => whnf
  refine .mk _ _ false Tryz.call37 (whSolver_same c z es hB) (Nat.le_of_ble_eq_true rfl) (.inl rfl) ?_
  conv => whnf
  refine ⟨trivial, ?_⟩
  conv => whnf
  exact ⟨rfl, rfl⟩
set_option maxHeartbeats 16000000 in
set_option maxRecDepth 100000 in
theorem whSolver_nil : Good Tryz.prog 37 [.agg [.p (.lit (.int .i64 0)), .p (.lit (.int .i64 0)), nilP], .agg [.p (.lit (.int .i64 0)), .p (.lit (.int .i64 0)), nilP]] [] (vbool true) [] := by
  refine good_e noM Tryz.func37 rfl rfl ?_
  conv => whnf
  refine VLoop.enter [2, 3, 5] ?_
  conv => whnf
  refine VLoop.step noM ?_
  conv => whnf
  refine ⟨trivial, ?_⟩
  conv => whnf
  exact ⟨rfl, rfl⟩
set_option maxHeartbeats 16000000 in
set_option maxRecDepth 100000 in
theorem whGet_nil : Good Tryz.prog 8 [getN, getN] [] (vbool true) [] := by
  refine good_e noM Tryz.func8 rfl rfl ?_
  conv => whnf
  refine .mk _ _ false Tryz.call36 (whPlan_nil 0 0) (Nat.le_of_ble_eq_true rfl) (.inl rfl) ?_
  conv => whnf
  refine .mk _ _ false Tryz.call37 whSolver_nil (Nat.le_of_ble_eq_true rfl) (.inl rfl) ?_
  conv => whnf
  refine ⟨trivial, ?_⟩
  conv => whnf
  exact ⟨rfl, rfl⟩
end Go.Abs.F

set_option linter.unusedSimpArgs false
set_option linter.unusedVariables false
namespace Go.Abs.F
open Go Go.Abs Go.Proofs Go.RowKit
attribute [local irreducible] IntKind.wrap
def cutL (all : ByteArray) (s : Nat) (k : Nat) : List ByteArray := (List.range k).map fun i => all.extract (i * s) ((i + 1) * s)
theorem cutL_len (all : ByteArray) (s k : Nat) : (cutL all s k).length = k := by unfold cutL; rw [List.length_map, List.length_range]
theorem cutL_size {all : ByteArray} {s k : Nat} (h : k * s ≤ all.size) : ∀ b ∈ cutL all s k, b.size = s := fun b hb => by
  unfold cutL at hb
  obtain ⟨i, hi, rfl⟩ := List.mem_map.1 hb
  have := List.mem_range.1 hi
  have h1 : (i + 1) * s ≤ k * s := Nat.mul_le_mul_right _ (by omega)
  rw [ByteArray.size_extract, Nat.add_mul] at *
  omega
theorem cutL_snoc (all : ByteArray) (s k : Nat) : (cutL all s k).map encT ++ [encT (all.extract (k * s) ((k + 1) * s))] = (cutL all s (k + 1)).map encT := by
  unfold cutL
  rw [List.range_succ, List.map_append, List.map_append]; rfl
theorem bytes9 : Tryz.prog.bytesOf 9 + 1 ≤ 100 := by decide +kernel
theorem app9 {n : Nat} (h : n ≤ 1100000) : n * (Tryz.prog.bytesOf 9 + 1) ≤ 140737488355328 := Nat.le_trans (Nat.mul_le_mul h bytes9) (by decide)
theorem cnt_mul {l s : Int} {ws gs : List Int} (h : POk l s ws gs) : l ≤ cnt l s * s ∧ cnt l s * s ≤ l + 15 ∧ cnt l s * s ≤ 384 := by
  have h1 := h.l1; have h2 := h.l2; have h3 := h.s1; have h4 := h.s2; have h5 := h.c2; have h6 := h.c1
  have e := cnt_eq h1 h2 h3 h4
  have hd := Int.mul_ediv_add_emod (l + s - 1) s
  have hm0 := Int.emod_nonneg (l + s - 1) (show s ≠ 0 by omega)
  have hm1 := Int.emod_lt_of_pos (l + s - 1) (show 0 < s by omega)
  rw [← e, Int.mul_comm] at hd
  have : cnt l s * s ≤ 24 * 16 := Int.mul_le_mul h5 h4 (by omega) (by omega)
  omega
set_option maxHeartbeats 16000000 in
set_option maxRecDepth 100000 in
theorem l5Cut_ok (l s : Int) (ws gs : List Int) (h : POk l s ws gs) (t : ByteArray) (ht : (t.size : Int) = l) (all : ByteArray) (hall : all = t ++ zs (cnt l s * s - l).toNat) (k : Nat) (hk : (k : Int) = cnt l s) : Good Tryz.prog 64 [planF l s ws gs, vstr t] [] (.one (.hs 0 0 k)) [.arr 1 ((cutL all s.toNat k).map encT)] := by
  have h1 := h.l1; have h2 := h.l2; have h3 := h.s1; have h4 := h.s2; have h5 := h.c2; have h6 := h.c1
  have hc := cnt_mul h
  obtain ⟨n, hn⟩ : ∃ n : Nat, s = n := ⟨s.toNat, by omega⟩
  have e1 : IntKind.i64.wrap (cnt l s * s) = cnt l s * s := wrap_in _ (by omega) (by omega)
  have e2 : IntKind.i64.wrap (cnt l s * s - (t.size : Int)) = ((cnt l s * s - l).toNat : Nat) := by rw [wrap_in _ (by omega) (by omega)]; omega
  have hzz := zs_size (cnt l s * s - l).toNat
  have hasz : (all.size : Int) = cnt l s * s := by rw [hall, ByteArray.size_append, hzz]; omega
  refine good_e noM Tryz.func64 rfl rfl ?_
  conv => whnf
  refine VDraw.goR [0, 0, 2, 0, 8, 30, 0, 64, 254, 510, 1023, 2047] [2, 9] [] [] rfl (by decide +kernel) ?_
  conv => whnf
  refine .mk _ _ false Tryz.call43 (specCount_ok l s ws gs (by omega)) (Nat.le_of_ble_eq_true rfl) (.inl rfl) ?_
  conv => whnf
  rw [e1, e2]
  refine .mk _ _ false Tryz.call80 (l3Zero_ok (cnt l s * s - l).toNat (by omega)) (Nat.le_of_ble_eq_true rfl) (.inl rfl) ?_
  conv => whnf
  rw [abin_cat (a := _) (b := _) rfl rfl (by rw [hzz]; omega)]
  conv => whnf
  rw [← hall]
  conv => whnf
  refine VLoop.enter [2, 5, 6, 7] ?_
  conv => whnf
  refine VLoop.ind3 (n0 := 2) (α := Nat) (β := List (List PV)) (γ := Int) noM [2, 5, 6, 7] (fun m E i => ⟨41, 0, [(2, .one (.hp 0 0 0)), (5, vstr all), (6, .one (.hs 1 0 m)), (7, vint i)], [(0, some (planB l s ws gs)), (1, some (.arr 1 E))]⟩)
    (fun m E i => ∃ j : Nat, i = j ∧ j ≤ k ∧ m = j ∧ E = (cutL all s.toNat j).map encT) (fun _ _ i => ((k : Int) - i).toNat) ?_ 0 [] 0 ⟨0, rfl, by omega, rfl, rfl⟩
  rintro j _ _ ⟨j', rfl, hj, hjj, rfl⟩
  subst hjj
  have hw : IntKind.i64.wrap ((j : Int) + 1) = ((j + 1 : Nat) : Int) := by rw [wrap_in _ (by omega) (by omega)]; omega
  have hml : ((cutL all s.toNat j).map encT).length = j := by rw [List.length_map, cutL_len]
  conv => whnf
  refine .mk _ _ false Tryz.call43 (specCount_ok l s ws gs (by omega)) (Nat.le_of_ble_eq_true rfl) (.inl rfl) ?_
  conv => whnf
  rw [← hk]
  split
  · rename_i q
    have q' := of_decide_eq_true q
    have m1 : ((j : Nat) : Int) * s = ((j * n : Nat) : Int) := by rw [hn, Int.natCast_mul]
    have m2 : (((j + 1 : Nat) : Nat) : Int) * s = (((j + 1) * n : Nat) : Int) := by rw [hn, Int.natCast_mul]
    have m3 : (j + 1) * n ≤ k * n := Nat.mul_le_mul_right _ (by omega)
    have m4 : ((k : Nat) : Int) * s = ((k * n : Nat) : Int) := by rw [hn, Int.natCast_mul]
    have m5 : (j + 1) * n = j * n + n := by rw [Nat.add_mul, Nat.one_mul]
    rw [← hk] at hasz hc
    have w1 : IntKind.i64.wrap (((j : Nat) : Int) * s) = ((j * n : Nat) : Int) := by rw [m1]; exact wrap_in _ (by omega) (by omega)
    have w2 : IntKind.i64.wrap (((j + 1 : Nat) : Int) * s) = (((j + 1) * n : Nat) : Int) := by rw [m2]; exact wrap_in _ (by omega) (by omega)
    conv => whnf
    rw [hw, w1, w2]
    refine ⟨⟨by omega, by omega, by omega⟩, ?_⟩
    conv => whnf
    have hsn := cutL_snoc all s.toNat j
    rw [show s.toNat = n by omega] at hsn hml ⊢
    refine ⟨⟨rfl, hml.symm, rfl⟩, Nat.le_refl 1, ?_⟩
    conv => whnf
    refine ⟨(fun q => by cases q), app9 (show ((cutL all n j).map encT).length + 1 ≤ _ by rw [hml]; omega), fun el hel => by cases List.mem_singleton.1 hel; rfl, ?_⟩
    conv => whnf
    refine ⟨_, _, _, rfl, rfl, ⟨j + 1, hw, by omega, show ((cutL all n j).map encT).length + 1 = j + 1 by rw [hml], ?_⟩, by rw [hw]; omega⟩
    rw [← hsn]
    rfl
  · rename_i q
    have q' := of_decide_eq_false q
    have e : j = k := by omega
    subst e
    conv => whnf
    refine ⟨trivial, ?_⟩
    conv => whnf
    exact ⟨rfl, rfl⟩
/-- The blocks of a row together. -/
def sumE (bl : List ByteArray) (s : Nat) (r : List Int) : ByteArray := r.foldl (fun o i => dx o (bl.getD i.toNat ByteArray.empty)) (zs s)
theorem sumE_snoc {bl : List ByteArray} {s : Nat} {r : List Int} {j : Nat} (h : j < r.length) : sumE bl s (r.take (j + 1)) = dx (sumE bl s (r.take j)) (bl.getD (r.getD j 0).toNat ByteArray.empty) := by
  unfold sumE
  rw [List.take_succ_eq_append_getElem h, ← gi_lt h, List.foldl_append]; rfl
theorem sumE_size {bl : List ByteArray} {s : Nat} (hb : ∀ b ∈ bl, b.size = s) {c : Int} {r : List Int} (hr : RowP c r) (hc : c ≤ bl.length) : ∀ j, j ≤ r.length → (sumE bl s (r.take j)).size = s
  | 0, _ => zs_size s
  | j + 1, hj => by
    have ih := sumE_size hb hr hc j (by omega)
    have h0 := hr.lo _ (gi_mem (show j < r.length by omega))
    have h1 := hr.hi _ (gi_mem (show j < r.length by omega))
    have hbl : (r.getD j 0).toNat < bl.length := by omega
    have : (bl.getD (r.getD j 0).toNat ByteArray.empty).size = s := hb _ (by rw [List.getD_eq_getElem?_getD, List.getElem?_eq_getElem hbl]; exact List.getElem_mem hbl)
    rw [sumE_snoc (by omega), dx_size (by rw [ih, this]), ih]
theorem getT (bl : List ByteArray) {j i : Nat} (e : j = i) (h : i < bl.length) : (bl.map encT).getD j [] = encT (bl.getD i ByteArray.empty) := by
  rw [e]; exact getD_map encT bl i ByteArray.empty h
set_option maxHeartbeats 16000000 in
set_option maxRecDepth 100000 in
theorem l2Sum_ok (bl : List ByteArray) (s : Nat) (hs : s ≤ 1000) (hb : ∀ b ∈ bl, b.size = s) (c : Int) (r : List Int) (hr : RowP c r) (hc : c ≤ bl.length) (hrl : r.length ≤ 1000) : Good Tryz.prog 63 [.one (.p (.sl (bl.map encT))), .one (.p (slI r)), vint s] [] (vstr (sumE bl s r)) [] := by
  have hm : (r.map eI).length = r.length := List.length_map ..
  have hbm : (bl.map encT).length = bl.length := List.length_map ..
  refine good_e noM Tryz.func63 rfl rfl ?_
  conv => whnf
  refine ⟨⟨Nat.le_refl 1, fun el hel => by cases List.mem_singleton.1 hel; exact ⟨_, rfl⟩⟩, ?_⟩
  conv => whnf
  refine .mk _ _ false Tryz.call104 (l1ManyZ_ok s hs) (Nat.le_of_ble_eq_true rfl) (.inl rfl) ?_
  conv => whnf
  refine VLoop.enter [0, 1, 7, 8] ?_
  conv => whnf
  refine VLoop.ind2 (n0 := 0) (α := ByteArray) (β := Int) noM [0, 1, 7, 8] (fun o i => ⟨29, 0, [(0, .one (.p (.sl (bl.map encT)))), (1, .one (.p (slI r))), (7, vstr o), (8, vint i)], []⟩)
    (fun o i => ∃ j : Nat, i = j ∧ j ≤ r.length ∧ o = sumE bl s (r.take j)) (fun _ i => ((r.length : Int) - i).toNat) ?_ _ 0 ⟨0, rfl, by omega, rfl⟩
  rintro _ _ ⟨j, rfl, hj, rfl⟩
  have hw : IntKind.i64.wrap ((j : Int) + 1) = ((j + 1 : Nat) : Int) := by rw [wrap_in _ (by omega) (by omega)]; omega
  have en : (j : Int).toNat = j := Int.toNat_natCast j
  have hsz := sumE_size hb hr hc j hj
  conv => whnf
  rw [hm]
  split
  · rename_i q
    have q' := of_decide_eq_true q
    have hjl : j < r.length := by omega
    have h0 := hr.lo _ (gi_mem hjl)
    have h1 := hr.hi _ (gi_mem hjl)
    have hbl : (r.getD j 0).toNat < bl.length := by omega
    have hbs : (bl.getD (r.getD j 0).toNat ByteArray.empty).size = s := hb _ (by rw [List.getD_eq_getElem?_getD, List.getElem?_eq_getElem hbl]; exact List.getElem_mem hbl)
    conv => whnf
    refine ⟨by omega, by rw [hm]; omega, _, atI r en hjl, ?_⟩
    conv => whnf
    refine ⟨by omega, by rw [hbm]; omega, _, getT bl rfl hbl, ?_⟩
    conv => whnf
    refine .mk _ _ false Tryz.call83 (specXor_ok (sumE bl s (r.take j)) (bl.getD (r.getD j 0).toNat ByteArray.empty) (by rw [hsz, hbs]) (by omega)) (Nat.le_of_ble_eq_true rfl) (.inl rfl) ?_
    conv => whnf
    rw [← sumE_snoc hjl]
    exact ⟨_, _, rfl, rfl, ⟨j + 1, hw, by omega, rfl⟩, by rw [hw]; omega⟩
  · rename_i q
    have q' := of_decide_eq_false q
    have e : j = r.length := by omega
    subst e
    rw [List.take_length]
    conv => whnf
    refine ⟨trivial, ?_⟩
    conv => whnf
    exact ⟨rfl, rfl⟩
set_option maxHeartbeats 16000000 in
set_option maxRecDepth 100000 in
theorem planSym_ok (l s : Int) (ws gs : List Int) (hw : ws.length ≤ 1000) (t : ByteArray) (ht : t.size ≤ 1000) (id : Int) :
    ∃ v out, (∃ d b, v = .tup [vstr d, vbool b] ∧ d.size ≤ 16 ∧ out = []) ∧ Good Tryz.prog 25 [planF l s ws gs, vstr t, vint id] [] v out := by
  obtain ⟨bp, hbp⟩ := pok_ex l s ws gs
  by_cases hall : POk l s ws gs ∧ (t.size : Int) = l ∧ 0 ≤ id ∧ id ≤ 9999
  · obtain ⟨hp, hts, h0, h1⟩ := hall
    obtain ⟨r, hr⟩ := prow_ex hp h0
    have hrow := prow_row hp h0 hr
    have hc2 := hp.c2
    have hc1 := hp.c1
    have hs1 := hp.s1
    have hs2 := hp.s2
    have hrl := row_len (hrow.mono hc2)
    obtain ⟨k, hk⟩ : ∃ k : Nat, (k : Int) = cnt l s := ⟨(cnt l s).toNat, by omega⟩
    obtain ⟨n, hn⟩ : ∃ n : Nat, s = n := ⟨s.toNat, by omega⟩
    have hsn : s.toNat = n := by omega
    obtain ⟨all, ha⟩ : ∃ all, all = t ++ zs (cnt l s * s - l).toNat := ⟨_, rfl⟩
    have hcm := cnt_mul hp
    have hasz : all.size = k * n := by
      have hzz := zs_size (cnt l s * s - l).toNat
      have m4 : cnt l s * s = ((k * n : Nat) : Int) := by rw [← hk, hn, Int.natCast_mul]
      rw [ha, ByteArray.size_append, hzz]; omega
    have hcs := cutL_size (all := all) (s := n) (k := k) (by omega)
    have hcl := cutL_len all n k
    have hcm2 : ((cutL all n k).map encT).length = k := by rw [List.length_map, hcl]
    have hrm : (r.map eI).length = r.length := List.length_map ..
    have hds : (sumE (cutL all n k) n r).size = n := by
      have := sumE_size hcs hrow (by omega) r.length (Nat.le_refl _)
      rwa [List.take_length] at this
    refine ⟨_, _, ⟨sumE (cutL all n k) n r, true, rfl, by omega, rfl⟩, ?_⟩
    have gC := l5Cut_ok l s ws gs hp t hts all ha k hk
    rw [hsn] at gC
    have gS := l2Sum_ok (cutL all n k) n (by omega) hcs (cnt l s) r hrow (by omega) (by omega)
    rw [← hn] at gS
    obtain ⟨dd, hdd⟩ : ∃ dd, dd = sumE (cutL all n k) n r := ⟨_, rfl⟩
    rw [← hdd] at gS ⊢
    have hne : ((t.size : Int) != l) = false := by rw [hts]; simp
    have hin : inR id 0 9999 = true := inR_iff.2 ⟨h0, h1⟩
    refine good_e noM Tryz.func25 rfl rfl ?_
    conv => whnf
    refine .mk _ _ false Tryz.call41 (specPOk_ok l s ws gs (by omega) true ⟨fun _ => hp, fun _ => rfl⟩) (Nat.le_of_ble_eq_true rfl) (.inl rfl) ?_
    conv => whnf
    rw [hne]
    conv => whnf
    refine .mk _ _ false Tryz.call33 (l1In_ok id 0 9999) (Nat.le_of_ble_eq_true rfl) (.inl rfl) ?_
    conv => whnf
    rw [hin]
    conv => whnf
    refine VDraw.goR [0, 0, 3, 0, 0, 31, 0, 64, 255, 511, 1023] [2, 5, 8] [] [] rfl (by decide +kernel) ?_
    conv => whnf
    refine .mk _ _ false Tryz.call64 gC (Nat.le_of_ble_eq_true rfl) (.inl rfl) ?_
    conv => whnf
    refine .mk _ _ false Tryz.call35 (l5Row_ok l s ws gs hp id h0 h1 r hr) (Nat.le_of_ble_eq_true rfl) (.inl rfl) ?_
    conv => whnf
    refine ⟨by omega, ?_⟩
    conv => whnf
    refine ⟨by omega, ?_⟩
    conv => whnf
    have tk1 : List.take k (List.drop 0 ((cutL all n k).map encT)) = (cutL all n k).map encT := by rw [List.drop_zero, List.take_of_length_le (by omega)]
    rw [tk1, takeI r]
    refine .mk _ _ false Tryz.call63 gS (Nat.le_of_ble_eq_true rfl) (.inr ⟨AV.nsB_iff rfl, fun k hk => by cases hk⟩) ?_
    conv => whnf
    refine ⟨trivial, ?_⟩
    conv => whnf
    exact ⟨rfl, rfl⟩
  · refine ⟨_, _, ⟨ByteArray.empty, false, rfl, by decide, rfl⟩, ?_⟩
    refine good_e noM Tryz.func25 rfl rfl ?_
    conv => whnf
    refine .mk _ _ false Tryz.call41 (specPOk_ok l s ws gs (by omega) bp hbp) (Nat.le_of_ble_eq_true rfl) (.inl rfl) ?_
    conv => whnf
    cases bp with
    | false =>
      conv => whnf
      refine ⟨trivial, ?_⟩
      conv => whnf
      exact ⟨rfl, rfl⟩
    | true =>
    have hp := hbp.1 rfl
    conv => whnf
    cases h2 : ((t.size : Int) != l) with
    | true =>
      conv => whnf
      refine ⟨trivial, ?_⟩
      conv => whnf
      exact ⟨rfl, rfl⟩
    | false =>
    have h2' : (t.size : Int) = l := by simpa using h2
    conv => whnf
    refine .mk _ _ false Tryz.call33 (l1In_ok id 0 9999) (Nat.le_of_ble_eq_true rfl) (.inl rfl) ?_
    conv => whnf
    cases h3 : inR id 0 9999 with
    | true => exact absurd ⟨hp, h2', (inR_iff.1 h3).1, (inR_iff.1 h3).2⟩ hall
    | false =>
      conv => whnf
      refine ⟨trivial, ?_⟩
      conv => whnf
      exact ⟨rfl, rfl⟩
end Go.Abs.F

set_option linter.unusedSimpArgs false
set_option linter.unusedVariables false
namespace Go.Abs.F
open Go Go.Abs Go.Proofs Go.RowKit
attribute [local irreducible] IntKind.wrap
@[reducible] def solN (c z : Int) : AV := .agg [.p (.lit (.int .i64 c)), .p (.lit (.int .i64 z)), nilP]
set_option maxHeartbeats 16000000 in
set_option maxRecDepth 100000 in
theorem solNew_ok (c z : Int) (h1 : 1 ≤ c) (h2 : c ≤ 24) (h3 : 1 ≤ z) (h4 : z ≤ 16) : Good Tryz.prog 119 [vint c, vint z] [] (solN c z) [] := by
  have i1 : inR c 1 24 = true := inR_iff.2 ⟨h1, h2⟩
  have i2 : inR z 1 16 = true := inR_iff.2 ⟨h3, h4⟩
  refine good_e noM Tryz.func119 rfl rfl ?_
  conv => whnf
  refine .mk _ _ false Tryz.call33 (l1In_ok c 1 24) (Nat.le_of_ble_eq_true rfl) (.inl rfl) ?_
  conv => whnf
  rw [i1]
  conv => whnf
  refine .mk _ _ false Tryz.call33 (l1In_ok z 1 16) (Nat.le_of_ble_eq_true rfl) (.inl rfl) ?_
  conv => whnf
  rw [i2]
  conv => whnf
  refine ⟨⟨⟨by decide +kernel, Nat.le_of_ble_eq_true rfl⟩, trivial⟩, ?_⟩
  conv => whnf
  exact ⟨rfl, rfl⟩
set_option maxHeartbeats 16000000 in
set_option maxRecDepth 100000 in
theorem getNew_own (l s : Int) (ws gs : List Int) (h : POk l s ws gs) : Good Tryz.prog 102 [planF l s ws gs] [] (.agg [.p (.lit (.int .i64 l)), .p (.lit (.int .i64 s)), .p (slI ws), .p (slI gs), .p (.lit (.int .i64 (cnt l s))), .p (.lit (.int .i64 s)), nilP]) [] := by
  have hs1 := h.s1
  have hw := h.w2
  have hg := h.g
  refine good_e noM Tryz.func102 rfl rfl ?_
  conv => whnf
  refine .mk _ _ false Tryz.call41 (specPOk_ok l s ws gs (by omega) true ⟨fun _ => h, fun _ => rfl⟩) (Nat.le_of_ble_eq_true rfl) (.inl rfl) ?_
  conv => whnf
  refine VDraw.goR [0, 1, 0, 7, 0, 16, 63, 127, 255] [1, 3, 6, 8] [] [(8, [8])] rfl (by decide +kernel) ?_
  conv => whnf
  refine .mk _ _ false Tryz.call77 (plan_fz (l6Plan_ok l s ws gs (by omega) (by omega))) (Nat.le_of_ble_eq_true rfl) (.inl rfl) ?_
  conv => whnf
  refine .mk _ _ false Tryz.call43 (specCount_ok l s ws gs (by omega)) (Nat.le_of_ble_eq_true rfl) (.inl rfl) ?_
  conv => whnf
  refine .mk _ _ false Tryz.call119 (solNew_ok (cnt l s) s h.c1 h.c2 h.s1 h.s2) (Nat.le_of_ble_eq_true rfl) (.inl rfl) ?_
  conv => whnf
  refine ⟨⟨⟨by decide +kernel, Nat.le_of_ble_eq_true rfl⟩, trivial⟩, ?_⟩
  conv => whnf
  exact ⟨rfl, rfl⟩
theorem getNew_ok (l s : Int) (ws gs : List Int) (h : POk l s ws gs) : Good Tryz.prog 102 [planF l s ws gs] [] (getF l s ws gs (cnt l s) s []) [] :=
  good_frz (getNew_own l s ws gs h) (.v (.agg (.cons .p (.cons .p (.cons .p (.cons .p (.cons .p (.cons .p (.cons .nil .nil))))))))) rfl (fun _ h => by cases h)
theorem l15Plan_fz (bs : List Int) (p : Int) (hb : Bytes bs) (h0 : 0 ≤ p) (h1 : p < 900000) : ∃ r out, (∃ (l s : Int) (ws gs : List Int) (q : Int), POk l s ws gs ∧ p ≤ q ∧ q ≤ p + 10 ∧ r = planF l s ws gs ∧ out = [rdB bs q]) ∧ Good Tryz.prog 100 [.one (.hp 0 0 0)] [rdB bs p] r out := by
  obtain ⟨_, _, ⟨l, s, ws, gs, gs', n, m, q, hp, rfl, rfl, hg, hm, q1, q2, rfl, rfl⟩, hG⟩ := l15Plan_ok bs p hb h0 h1
  refine ⟨_, _, ⟨l, s, ws, gs, q, hp, q1, q2, rfl, rfl⟩, ?_⟩
  have he : slI gs = .sl ((gs'.map eI).take gs.length) := by
    conv => lhs; rw [hg]
    unfold slI; rw [List.map_take]
  show Good _ _ _ _ (.agg [.p (.lit (.int .i64 l)), .p (.lit (.int .i64 s)), .p (.sl (ws.map eI)), .p (slI gs)]) _
  rw [he]
  exact good_frz hG (.v (.agg (.cons .p (.cons .p (.cons (.sl rfl (List.length_map ..).symm (Nat.le_refl _)) (.cons (.slt rfl (by rw [List.length_map]; exact hm) (Nat.le_of_ble_eq_true rfl)) .nil)))))) rfl (fun blk h => by cases List.mem_singleton.1 h; exact fun c hc => by simp at hc; rcases hc with rfl | rfl <;> trivial)
theorem get3 (Z a b c : List PV) {v : Int} (h0 : 0 ≤ v) (h1 : v < 3) : ((((List.replicate 3 Z).set 0 a).set 1 b).set 2 c).getD (0 + v.toNat) [] = if v = 0 then a else if v = 1 then b else c := by
  have : v = 0 ∨ v = 1 ∨ v = 2 := by omega
  rcases this with rfl | rfl | rfl <;> rfl
set_option maxHeartbeats 16000000 in
set_option maxRecDepth 100000 in
theorem l15Getting_ok (bs : List Int) (p : Int) (hb : Bytes bs) (h0 : 0 ≤ p) (h1 : p < 800000) : ∃ r out, (∃ (l s : Int) (ws gs : List Int) (c z : Int) (es : List Eqn) (t : ByteArray) (q : Int), GOk l s ws gs c z es ∧ t.size ≤ 300 ∧ p ≤ q ∧ q ≤ p + 1000 ∧ r = .tup [getF l s ws gs c z es, vstr t] ∧ out = [rdB bs q]) ∧ Good Tryz.prog 60 [.one (.hp 0 0 0)] [rdB bs p] r out := by
  refine good_v noM Tryz.func60 rfl rfl ?_
  conv => whnf
  obtain ⟨_, _, ⟨l, s, ws, gs, q, hP, q1, q2, rfl, rfl⟩, hG⟩ := l15Plan_fz bs p hb h0 (by omega)
  have l1 := hP.l1; have l2 := hP.l2; have s1 := hP.s1; have s2 := hP.s2; have c1 := hP.c1; have c2 := hP.c2
  have w2 := hP.w2; have hg := hP.g
  conv => whnf
  refine .mk _ _ false Tryz.call100 hG (Nat.le_of_ble_eq_true rfl) (.inl rfl) ?_
  conv => whnf
  obtain ⟨_, _, ⟨t, ht, rfl, rfl⟩, hT⟩ := l15Thing_ok bs q l hb (by omega) (by omega) l1 l2
  refine .mk _ _ false Tryz.call101 hT (Nat.le_of_ble_eq_true rfl) (.inl rfl) ?_
  conv => whnf
  refine .mk _ _ false Tryz.call102 (getNew_ok l s ws gs hP) (Nat.le_of_ble_eq_true rfl) (.inl rfl) ?_
  conv => whnf
  obtain ⟨_, _, ⟨v1, hv10, hv11, rfl, rfl⟩, hg1⟩ := pick_ok bs (q + l) 200 hb.rng hb.len (by omega) (by omega) (by omega) (by omega)
  refine .mk _ _ false Tryz.call26 hg1 (Nat.le_of_ble_eq_true rfl) (.inl rfl) ?_
  conv => whnf
  obtain ⟨_, _, ⟨v2, hv20, hv21, rfl, rfl⟩, hg2⟩ := pick_ok bs (q + l + 1) 3 hb.rng hb.len (by omega) (by omega) (by omega) (by omega)
  refine .mk _ _ false Tryz.call26 hg2 (Nat.le_of_ble_eq_true rfl) (.inl rfl) ?_
  conv => whnf
  refine ⟨hv20, by omega, Nat.le_refl 3, ?_⟩
  conv => whnf
  obtain ⟨base, hb0, hb1, hbase⟩ : ∃ base : Int, 0 ≤ base ∧ base < 200 ∧ (if v2 = 0 then eI 0 else if v2 = 1 then eI 0 else eI v1) = eI base := by
    by_cases e0 : v2 = 0
    · exact ⟨0, by omega, by omega, if_pos e0⟩
    · by_cases e1 : v2 = 1
      · exact ⟨0, by omega, by omega, by rw [if_neg e0, if_pos e1]⟩
      · exact ⟨v1, hv10, hv11, by rw [if_neg e0, if_neg e1]⟩
  refine ⟨_, (get3 _ _ _ _ hv20 hv21).trans hbase, ?_⟩
  conv => whnf
  have k1 : IntKind.i64.wrap (IntKind.i64.wrap (2 * cnt l s) + 2) = 2 * cnt l s + 2 := by rw [wrap_in (2 * cnt l s) (by omega) (by omega)]; exact wrap_in _ (by omega) (by omega)
  have k2 : IntKind.i64.wrap (IntKind.i64.wrap (2 * cnt l s) + 4) = 2 * cnt l s + 4 := by rw [wrap_in (2 * cnt l s) (by omega) (by omega)]; exact wrap_in _ (by omega) (by omega)
  refine .mk _ _ false Tryz.call43 (specCount_ok l s ws gs (by omega)) (Nat.le_of_ble_eq_true rfl) (.inl rfl) ?_
  conv => whnf
  rw [k1]
  obtain ⟨_, _, ⟨v3, hv30, hv31, rfl, rfl⟩, hg3⟩ := pick_ok bs (q + l + 1 + 1) (2 * cnt l s + 2) hb.rng hb.len (by omega) (by omega) (by omega) (by omega)
  refine .mk _ _ false Tryz.call26 hg3 (Nat.le_of_ble_eq_true rfl) (.inl rfl) ?_
  conv => whnf
  refine VLoop.enter [0, 2, 4, 5, 6, 7, 8] ?_
  conv => whnf
  refine VLoop.ind3 (n0 := 4) (α := List Eqn) (β := Int) (γ := Int) noM [0, 2, 4, 5, 6, 7, 8] (fun es y n => ⟨61, 1, [(0, .one (.hp 0 0 0)), (2, .one (.hp 1 0 0)), (4, .one (.hp 2 0 0)), (5, vstr t), (6, .one (.hp 3 0 0)), (7, vint base), (8, vint n)],
      [(0, some (rdB bs y)), (1, some (.box [.p (.lit (.int .i64 0)), .p (.lit (.int .i64 0)), nilP, nilP, .p (.lit (.int .i64 0)), .p (.lit (.int .i64 0)), nilP])), (2, some (planB l s ws gs)), (3, some (getB l s ws gs (cnt l s) s es))]⟩)
    (fun es y n => GOk l s ws gs (cnt l s) s es ∧ 0 ≤ n ∧ q ≤ y ∧ y + n ≤ q + 600) (fun _ _ n => n.toNat) ?_ [] (q + l + 1 + 1 + 1) v3 ⟨⟨hP, ⟨c1, c2, s1, s2, ⟨fun e h => (by cases h), List.Pairwise.nil, List.Pairwise.nil⟩⟩, rfl, rfl⟩, hv30, by omega, by omega⟩
  rintro es y n ⟨hk, hn0, hy0, hy1⟩
  have hB := sok_bd hk.so
  conv => whnf
  split
  · rename_i q5
    have q5' := of_decide_eq_true q5
    obtain ⟨_, _, ⟨v4, hv40, hv41, rfl, rfl⟩, hg4⟩ := pick_ok bs y (2 * cnt l s + 4) hb.rng hb.len (by omega) (by omega) (by omega) (by omega)
    have k3 : IntKind.i64.wrap (base + v4) = base + v4 := wrap_in _ (by omega) (by omega)
    conv => whnf
    refine .mk _ _ false Tryz.call43 (specCount_ok l s ws gs (by omega)) (Nat.le_of_ble_eq_true rfl) (.inl rfl) ?_
    conv => whnf
    rw [k2]
    refine .mk _ _ false Tryz.call26 hg4 (Nat.le_of_ble_eq_true rfl) (.inl rfl) ?_
    conv => whnf
    rw [k3]
    obtain ⟨_, _, ⟨d, b, rfl, hd, rfl⟩, hgS⟩ := planSym_ok l s ws gs (by omega) t (by omega) (base + v4)
    refine .mk _ _ false Tryz.call25 hgS (Nat.le_of_ble_eq_true rfl) (.inl rfl) ?_
    conv => whnf
    obtain ⟨v, hv⟩ := gar_ex l s ws gs (cnt l s) s es (base + v4) d
    have gA := specGA_ok l s ws gs (cnt l s) s es (by omega) (by omega) hB (base + v4) d (by omega) v hv
    have k4 : IntKind.i64.wrap (n - 1) = n - 1 := wrap_in _ (by omega) (by omega)
    cases hv with
    | bad hn => exact absurd hk hn
    | out _ ho =>
      refine .mk _ _ false Tryz.call7 gA (Nat.le_of_ble_eq_true rfl) (.inl rfl) ?_
      conv => whnf
      rw [k4]
      exact ⟨_, _, _, rfl, rfl, ⟨hk, by omega, by omega, by omega⟩, by omega⟩
    | new _ i0 i1 hds r hr A hA =>
      have hrow := prow_row hP i0 hr
      have hA2 := (addR_ok hk.so hrow (by omega) hA).1
      refine .mk _ _ false Tryz.call7 gA (Nat.le_of_ble_eq_true rfl) (.inl rfl) ?_
      conv => whnf
      rw [k4]
      exact ⟨_, _, _, rfl, rfl, ⟨⟨hP, hA2, rfl, rfl⟩, by omega, by omega, by omega⟩, by omega⟩
  · rename_i q5
    have q5' := of_decide_eq_false q5
    conv => whnf
    refine ⟨⟨⟨by decide +kernel, Nat.le_of_ble_eq_true rfl⟩, trivial⟩, ?_⟩
    conv => whnf
    exact ⟨l, s, ws, gs, _, _, es, t, y, hk, ht, by omega, by omega, rfl, rfl⟩
end Go.Abs.F

set_option linter.unusedSimpArgs false
set_option linter.unusedVariables false
namespace Go.Abs.F
open Go Go.Abs Go.Proofs Go.RowKit
attribute [local irreducible] IntKind.wrap
set_option maxHeartbeats 16000000 in
set_option maxRecDepth 100000 in
theorem l15Row_ok (bs : List Int) (p c : Int) (hb : Bytes bs) (h0 : 0 ≤ p) (h1 : p < 900000) (hc0 : 0 ≤ c) (hc : c ≤ 30) : ∃ r out, (∃ row : List Int, (row.length : Int) ≤ c ∧ r = .one (.hs 1 0 row.length) ∧ out = [rdB bs (p + c), .arr 1 (row.map eI)]) ∧ Good Tryz.prog 120 [.one (.hp 0 0 0), vint c] [rdB bs p] r out := by
  refine good_v noM Tryz.func120 rfl rfl ?_
  conv => whnf
  refine VLoop.enter [0, 1, 5, 6] ?_
  conv => whnf
  refine VLoop.ind4 (n0 := 2) (α := List Int) (β := Nat) (γ := Int) (δ := Int) noM [0, 1, 5, 6] (fun row m i y => ⟨21, 1, [(0, .one (.hp 0 0 0)), (1, vint c), (5, .one (.hs 1 0 m)), (6, vint i)], [(0, some (rdB bs y)), (1, some (.arr 1 (row.map eI)))]⟩)
    (fun row m i y => 0 ≤ i ∧ i ≤ c ∧ m = row.length ∧ (row.length : Int) ≤ i ∧ y = p + i) (fun _ _ i _ => (c - i).toNat) ?_ [] 0 0 p ⟨by omega, hc0, rfl, by simp, by omega⟩
  rintro row _ i _ ⟨hi0, hi1, rfl, hrl, rfl⟩
  have hm : (row.map eI).length = row.length := List.length_map ..
  have hw : IntKind.i64.wrap (i + 1) = i + 1 := wrap_in _ (by omega) (by omega)
  conv => whnf
  split
  · rename_i q
    have q' := of_decide_eq_true q
    obtain ⟨_, _, ⟨v, hv0, hv1, rfl, rfl⟩, hg⟩ := pick_ok bs (p + i) 3 hb.rng hb.len (by omega) (by omega) (by omega) (by omega)
    conv => whnf
    refine .mk _ _ false Tryz.call26 hg (Nat.le_of_ble_eq_true rfl) (.inl rfl) ?_
    conv => whnf
    split
    · conv => whnf
      refine ⟨⟨rfl, hm.symm, rfl⟩, Nat.le_refl 1, ?_⟩
      conv => whnf
      refine ⟨(fun q => by cases q), app3 (show (row.map eI).length + 1 ≤ _ by rw [hm]; omega), fun el hel => by cases List.mem_singleton.1 hel; rfl, ?_⟩
      conv => whnf
      refine ⟨row ++ [i], (row.map eI).length + 1, IntKind.i64.wrap (i + 1), p + i + 1, rfl, ?_, ⟨by rw [hw]; omega, by rw [hw]; omega, ?_, ?_, by rw [hw]; omega⟩, by rw [hw]; omega⟩
      · rw [← mapS]; rfl
      · rw [List.length_append, ← hm]; rfl
      · rw [List.length_append, hw]; simp; omega
    · conv => whnf
      exact ⟨row, _, _, _, rfl, rfl, ⟨by rw [hw]; omega, by rw [hw]; omega, rfl, by rw [hw]; omega, by rw [hw]; omega⟩, by rw [hw]; omega⟩
  · rename_i q
    have q' := of_decide_eq_false q
    have e : i = c := by omega
    subst e
    conv => whnf
    refine ⟨trivial, ?_⟩
    conv => whnf
    exact ⟨row, hrl, rfl, rfl⟩
set_option maxHeartbeats 16000000 in
set_option maxRecDepth 100000 in
theorem l15Bad_own (bs : List Int) (p c : Int) (hb : Bytes bs) (h0 : 0 ≤ p) (h1 : p < 800000) (hc0 : 0 ≤ c) (hc : c ≤ 30) : ∃ r out, (∃ row : List Int, row.length ≤ 40 ∧ r = .one (.hs 1 0 row.length) ∧ out = [rdB bs (p + c + 1), .arr 1 (row.map eI)]) ∧ Good Tryz.prog 103 [.one (.hp 0 0 0), vint c] [rdB bs p] r out := by
  refine good_v noM Tryz.func103 rfl rfl ?_
  conv => whnf
  obtain ⟨_, _, ⟨row, hrl, rfl, rfl⟩, hR⟩ := l15Row_ok bs p c hb h0 (by omega) hc0 hc
  have hm : (row.map eI).length = row.length := List.length_map ..
  conv => whnf
  refine .mk _ _ false Tryz.call120 hR (Nat.le_of_ble_eq_true rfl) (.inl rfl) ?_
  conv => whnf
  obtain ⟨_, _, ⟨v, hv0, hv1, rfl, rfl⟩, hg⟩ := pick_ok bs (p + c) 16 hb.rng hb.len (by omega) (by omega) (by omega) (by omega)
  refine .mk _ _ false Tryz.call26 hg (Nat.le_of_ble_eq_true rfl) (.inl rfl) ?_
  conv => whnf
  cases e0 : (v == 0) with
  | true =>
    conv => whnf
    refine ⟨⟨rfl, hm.symm, rfl⟩, Nat.le_refl 1, ?_⟩
    conv => whnf
    refine ⟨(fun q => by cases q), app3 (show (row.map eI).length + 1 ≤ _ by rw [hm]; omega), fun el hel => by cases List.mem_singleton.1 hel; rfl, ?_⟩
    conv => whnf
    refine ⟨trivial, ?_⟩
    conv => whnf
    exact ⟨row ++ [c], by rw [List.length_append]; simp; omega, by rw [List.length_append, ← hm]; rfl, by rw [← mapS]; rfl⟩
  | false =>
  conv => whnf
  cases e1 : (v == 1) with
  | true =>
    conv => whnf
    refine ⟨⟨rfl, rfl, rfl⟩, by omega, ?_⟩
    conv => whnf
    have tk : List.take row.length (List.drop 0 (row.map eI)) = row.map eI := takeI row
    rw [tk]
    refine ⟨(fun q => by cases q), app3 (show 1 + (row.map eI).length ≤ _ by rw [hm]; omega), eI_len _, ?_⟩
    conv => whnf
    refine ⟨trivial, ?_⟩
    conv => whnf
    refine ⟨-1 :: row, by rw [List.length_cons]; omega, ?_, rfl⟩
    rw [show (-1 :: row).length = 1 + (row.map eI).length by rw [List.length_cons, hm]; omega]; rfl
  | false =>
  conv => whnf
  cases e2 : (v == 2) with
  | true =>
    conv => whnf
    refine ⟨⟨rfl, hm.symm, rfl⟩, Nat.le_refl 1, ?_⟩
    conv => whnf
    refine ⟨(fun q => by cases q), app3 (show (row.map eI).length + 1 ≤ _ by rw [hm]; omega), fun el hel => by cases List.mem_singleton.1 hel; rfl, ?_⟩
    conv => whnf
    refine ⟨trivial, ?_⟩
    conv => whnf
    exact ⟨row ++ [0], by rw [List.length_append]; simp; omega, by rw [List.length_append, ← hm]; rfl, by rw [← mapS]; rfl⟩
  | false =>
  conv => whnf
  refine ⟨trivial, ?_⟩
  conv => whnf
  exact ⟨row, by omega, rfl, rfl⟩
theorem l15Bad_ok (bs : List Int) (p c : Int) (hb : Bytes bs) (h0 : 0 ≤ p) (h1 : p < 800000) (hc0 : 0 ≤ c) (hc : c ≤ 30) : ∃ r out, (∃ row : List Int, row.length ≤ 40 ∧ r = .one (.p (slI row)) ∧ out = [rdB bs (p + c + 1)]) ∧ Good Tryz.prog 103 [.one (.hp 0 0 0), vint c] [rdB bs p] r out := by
  obtain ⟨_, _, ⟨row, hl, rfl, rfl⟩, hG⟩ := l15Bad_own bs p c hb h0 h1 hc0 hc
  refine ⟨_, _, ⟨row, hl, rfl, rfl⟩, good_frz hG (.v (.one (.sl rfl (List.length_map ..).symm (Nat.le_refl _)))) rfl (fun blk h => by cases List.mem_singleton.1 h; exact fun c hc => by simp at hc; rcases hc with rfl | rfl <;> trivial)⟩
end Go.Abs.F

set_option linter.unusedSimpArgs false
set_option linter.unusedVariables false
namespace Go.Abs.F
open Go Go.Abs Go.Proofs Go.RowKit
attribute [local irreducible] IntKind.wrap
theorem l3Copy_cons (c z : Int) (es : List Eqn) (hB : SBd c z es) (h : es ≠ []) : Good Tryz.prog 78 [solF c z es] [] (.agg [.p (.lit (.int .i64 c)), .p (.lit (.int .i64 z)), .hs 0 0 es.length]) [.arr 2 (es.map eE)] := by
  have := l3Copy_own c z es hB
  cases es with
  | nil => exact absurd rfl h
  | cons x es => exact this
/-- A spoilt solver. -/
inductive SpD (bs : List Int) (p : Int) : AV → List Blk → Prop
  | nil (c z y : Int) (h0 : p ≤ y) (h1 : y ≤ p + 100) : SpD bs p (solN c z) [rdB bs y]
  | own (c z y : Int) (es : List Eqn) (n : Nat) (hn : n = es.length) (hB : SBd c z es) (h0 : p ≤ y) (h1 : y ≤ p + 100) : SpD bs p (.agg [.p (.lit (.int .i64 c)), .p (.lit (.int .i64 z)), .hs 1 0 n]) [rdB bs y, .arr 2 (es.map eE)]
  | zero (c z y : Int) (es : List Eqn) (n : Nat) (hn : n = es.length + 1) (hB : SBd c z es) (hl : es.length ≤ 900) (h0 : p ≤ y) (h1 : y ≤ p + 100) : SpD bs p (.agg [.p (.lit (.int .i64 c)), .p (.lit (.int .i64 z)), .hs 1 0 n]) [rdB bs y, .arr 2 (es.map eE ++ [[.lit (.slice none 0 0), .lit (.string ⟨#[]⟩)]])]
theorem pick3e {v a b c : Int} : ∃ k : Int, (if v = 0 then eI a else if v = 1 then eI b else eI c) = eI k := by
  by_cases e0 : v = 0
  · exact ⟨a, if_pos e0⟩
  · by_cases e1 : v = 1
    · exact ⟨b, by rw [if_neg e0, if_pos e1]⟩
    · exact ⟨c, by rw [if_neg e0, if_neg e1]⟩
@[reducible] def solB (c z : Int) (x : AC) : Blk := .box [.p (.lit (.int .i64 c)), .p (.lit (.int .i64 z)), x]
set_option maxHeartbeats 16000000 in
set_option maxRecDepth 100000 in
theorem spoilS_nil (bs : List Int) (p c z : Int) (hb : Bytes bs) (h0 : 0 ≤ p) (h1 : p < 700000) (hc0 : 0 ≤ c) (hc : c ≤ 30) (hz0 : 0 ≤ z) (hz : z ≤ 100) : ∃ r out, SpD bs p r out ∧ Good Tryz.prog 62 [.one (.hp 0 0 0), solF c z []] [rdB bs p] r out := by
  have hB : SBd c z [] := ⟨by simp, fun e h => (by cases h)⟩
  refine good_v noM Tryz.func62 rfl rfl ?_
  conv => whnf
  refine .mk _ _ false Tryz.call78 (l3Copy_own c z [] hB) (Nat.le_of_ble_eq_true rfl) (.inl rfl) ?_
  conv => whnf
  obtain ⟨_, _, ⟨v, hv0, hv1, rfl, rfl⟩, hg⟩ := pick_ok bs p 6 hb.rng hb.len h0 (by omega) (by omega) (by omega)
  refine .mk _ _ false Tryz.call26 hg (Nat.le_of_ble_eq_true rfl) (.inl rfl) ?_
  conv => whnf
  have hv : v = 0 ∨ v = 1 ∨ v = 2 ∨ v = 3 ∨ v = 4 ∨ v = 5 := by omega
  obtain ⟨_, _, ⟨v2, hv20, hv21, rfl, rfl⟩, hg2⟩ := pick_ok bs (p + 1) 3 hb.rng hb.len (by omega) (by omega) (by omega) (by omega)
  have hzw : IntKind.i64.wrap (z + 1) = z + 1 := wrap_in _ (by omega) (by omega)
  rcases hv with rfl | rfl | rfl | rfl | rfl | rfl
  · obtain ⟨k, hk⟩ : ∃ k : Int, (if v2 = 0 then eI 0 else if v2 = 1 then eI 25 else eI 1) = eI k := pick3e ..
    conv => whnf
    refine .mk _ _ false Tryz.call26 hg2 (Nat.le_of_ble_eq_true rfl) (.inl rfl) ?_
    conv => whnf
    refine ⟨hv20, by omega, Nat.le_refl 3, ?_⟩
    conv => whnf
    refine ⟨_, (get3 _ _ _ _ hv20 hv21).trans hk, ?_⟩
    conv => whnf
    refine ⟨⟨⟨by decide +kernel, Nat.le_of_ble_eq_true rfl⟩, trivial⟩, ?_⟩
    conv => whnf
    exact .nil k z _ (by omega) (by omega)
  · obtain ⟨k, hk⟩ : ∃ k : Int, (if v2 = 0 then eI 0 else if v2 = 1 then eI 17 else eI (z + 1)) = eI k := pick3e ..
    conv => whnf
    refine VDraw.goR [0, 1, 3, 7, 0, 16, 63, 127, 255, 511] [3, 5, 9] [] [(5, [0]), (9, [33])] rfl (by decide +kernel) ?_
    conv => whnf
    rw [hzw]
    refine .mk _ _ false Tryz.call26 hg2 (Nat.le_of_ble_eq_true rfl) (.inl rfl) ?_
    conv => whnf
    refine ⟨hv20, by omega, Nat.le_refl 3, ?_⟩
    conv => whnf
    refine ⟨_, (get3 _ _ _ _ hv20 hv21).trans hk, ?_⟩
    conv => whnf
    refine ⟨⟨⟨by decide +kernel, Nat.le_of_ble_eq_true rfl⟩, trivial⟩, ?_⟩
    conv => whnf
    exact .nil c k _ (by omega) (by omega)
  · conv => whnf
    refine ⟨⟨⟨by decide +kernel, Nat.le_of_ble_eq_true rfl⟩, trivial⟩, ?_⟩
    conv => whnf
    exact .nil c z _ (by omega) (by omega)
  · conv => whnf
    refine ⟨⟨⟨by decide +kernel, Nat.le_of_ble_eq_true rfl⟩, trivial⟩, ?_⟩
    conv => whnf
    exact .nil c z _ (by omega) (by omega)
  · conv => whnf
    refine ⟨⟨⟨by decide +kernel, Nat.le_of_ble_eq_true rfl⟩, trivial⟩, ?_⟩
    conv => whnf
    exact .nil c z _ (by omega) (by omega)
  · conv => whnf
    refine ⟨trivial, Nat.le_refl 1, ?_⟩
    conv => whnf
    refine ⟨(fun _ q => by cases q), appE (show 0 + 1 ≤ 1100000 by omega), fun el hel => by cases List.mem_singleton.1 hel; rfl, ?_⟩
    conv => whnf
    refine ⟨⟨⟨by decide +kernel, Nat.le_of_ble_eq_true rfl⟩, trivial⟩, ?_⟩
    conv => whnf
    exact .zero c z _ [] 1 rfl hB (by simp) (by omega) (by omega)
set_option maxHeartbeats 16000000 in
set_option maxRecDepth 100000 in
theorem spoilS_cons (bs : List Int) (p c z : Int) (es : List Eqn) (hne : es ≠ []) (hB : SBd c z es) (hl9 : es.length ≤ 900) (hd9 : ∀ e ∈ es, e.d.size ≤ 900) (hb : Bytes bs) (h0 : 0 ≤ p) (h1 : p < 700000) (hc0 : 0 ≤ c) (hc : c ≤ 30) (hz0 : 0 ≤ z) (hz : z ≤ 100) : ∃ r out, SpD bs p r out ∧ Good Tryz.prog 62 [.one (.hp 0 0 0), solF c z es] [rdB bs p] r out := by
  have hm : (es.map eE).length = es.length := List.length_map ..
  have hpos : 0 < es.length := List.length_pos_iff.2 hne
  have hB2 : ∀ c z, SBd c z es := fun _ _ => ⟨hB.n, hB.r⟩
  have hgt : decide ((es.length : Int) > 0) = true := decide_eq_true (by omega)
  obtain ⟨x, hx⟩ : ∃ x, es[0]? = some x := ⟨_, List.getElem?_eq_getElem hpos⟩
  obtain ⟨hxr, hxd⟩ := hB.r x (mem_at hx)
  have hat : (es.map eE).getD 0 [] = eE x := atE es rfl hx
  refine good_v noM Tryz.func62 rfl rfl ?_
  conv => whnf
  refine .mk _ _ false Tryz.call78 (l3Copy_cons c z es hB hne) (Nat.le_of_ble_eq_true rfl) (.inl rfl) ?_
  conv => whnf
  obtain ⟨_, _, ⟨v, hv0, hv1, rfl, rfl⟩, hg⟩ := pick_ok bs p 6 hb.rng hb.len h0 (by omega) (by omega) (by omega)
  refine .mk _ _ false Tryz.call26 hg (Nat.le_of_ble_eq_true rfl) (.inl rfl) ?_
  conv => whnf
  have hv : v = 0 ∨ v = 1 ∨ v = 2 ∨ v = 3 ∨ v = 4 ∨ v = 5 := by omega
  obtain ⟨_, _, ⟨v2, hv20, hv21, rfl, rfl⟩, hg2⟩ := pick_ok bs (p + 1) 3 hb.rng hb.len (by omega) (by omega) (by omega) (by omega)
  have hzw : IntKind.i64.wrap (z + 1) = z + 1 := wrap_in _ (by omega) (by omega)
  rcases hv with rfl | rfl | rfl | rfl | rfl | rfl
  · obtain ⟨k, hk⟩ : ∃ k : Int, (if v2 = 0 then eI 0 else if v2 = 1 then eI 25 else eI 1) = eI k := pick3e ..
    conv => whnf
    refine .mk _ _ false Tryz.call26 hg2 (Nat.le_of_ble_eq_true rfl) (.inl rfl) ?_
    conv => whnf
    refine ⟨hv20, by omega, Nat.le_refl 3, ?_⟩
    conv => whnf
    refine ⟨_, (get3 _ _ _ _ hv20 hv21).trans hk, ?_⟩
    conv => whnf
    refine ⟨⟨⟨by decide +kernel, Nat.le_of_ble_eq_true rfl⟩, trivial⟩, ?_⟩
    conv => whnf
    exact .own k z _ es _ rfl (hB2 _ _) (by omega) (by omega)
  · obtain ⟨k, hk⟩ : ∃ k : Int, (if v2 = 0 then eI 0 else if v2 = 1 then eI 17 else eI (z + 1)) = eI k := pick3e ..
    conv => whnf
    refine VDraw.goR [0, 1, 3, 7, 0, 16, 63, 127, 255, 511] [3, 5, 9] [] [(5, [0]), (9, [33])] rfl (by decide +kernel) ?_
    conv => whnf
    rw [hzw]
    refine .mk _ _ false Tryz.call26 hg2 (Nat.le_of_ble_eq_true rfl) (.inl rfl) ?_
    conv => whnf
    refine ⟨hv20, by omega, Nat.le_refl 3, ?_⟩
    conv => whnf
    refine ⟨_, (get3 _ _ _ _ hv20 hv21).trans hk, ?_⟩
    conv => whnf
    refine ⟨⟨⟨by decide +kernel, Nat.le_of_ble_eq_true rfl⟩, trivial⟩, ?_⟩
    conv => whnf
    exact .own c k _ es _ rfl (hB2 _ _) (by omega) (by omega)
  · conv => whnf
    rw [hgt]
    conv => whnf
    refine VDraw.goR [0, 1, 0, 4, 12, 28, 60, 127, 255, 511] [6, 7, 9] [] [(7, [25]), (9, [33])] rfl (by decide +kernel) ?_
    conv => whnf
    refine ⟨Int.le_refl _, by omega, by omega, ?_⟩
    conv => whnf
    refine ⟨_, hat, ?_⟩
    conv => whnf
    refine ⟨⟨rfl, hm.symm, rfl⟩, Nat.le_refl 1, ?_⟩
    conv => whnf
    refine ⟨(fun q => by cases q), appE (show (es.map eE).length + 1 ≤ _ by rw [hm]; omega), fun el hel => by cases List.mem_singleton.1 hel; rfl, ?_⟩
    conv => whnf
    refine ⟨⟨⟨by decide +kernel, Nat.le_of_ble_eq_true rfl⟩, trivial⟩, ?_⟩
    conv => whnf
    have hB3 : SBd c z (es ++ [x]) := ⟨by rw [List.length_append]; simp; omega, fun e he => by
      rcases List.mem_append.1 he with he | he
      · exact hB.r e he
      · rw [List.mem_singleton.1 he]; exact ⟨hxr, hxd⟩⟩
    have e := SpD.own (bs := bs) (p := p) c z (p + 1) (es ++ [x]) ((es.map eE).length + 1) (by rw [List.length_append, hm]; rfl) hB3 (by omega) (by omega)
    rw [List.map_append] at e
    exact e
  · conv => whnf
    rw [hgt]
    conv => whnf
    refine VDraw.goR [0, 1, 0, 0, 8, 24, 60, 0, 0, 256, 1020, 2047, 4095, 8191] [6, 10, 13] [] [(6, [0]), (10, [0]), (13, [25])] rfl (by decide +kernel) ?_
    conv => whnf
    obtain ⟨_, _, ⟨v3, hv30, hv31, rfl, rfl⟩, hg3⟩ := pick_ok bs (p + 1) es.length hb.rng hb.len (by omega) (by omega) (by omega) (by omega)
    obtain ⟨_, _, ⟨row, hrow, rfl, rfl⟩, hg4⟩ := l15Bad_ok bs (p + 1 + 1) c hb (by omega) (by omega) hc0 hc
    refine .mk _ _ false Tryz.call26 hg3 (Nat.le_of_ble_eq_true rfl) (.inl rfl) ?_
    conv => whnf
    refine .mk _ _ false Tryz.call103 hg4 (Nat.le_of_ble_eq_true rfl) (.inl rfl) ?_
    conv => whnf
    refine ⟨hv30, hv31, by omega, ?_⟩
    conv => whnf
    obtain ⟨y, hy⟩ : ∃ y, es[v3.toNat]? = some y := ⟨_, List.getElem?_eq_getElem (by omega)⟩
    obtain ⟨hyr, hyd⟩ := hB.r y (mem_at hy)
    refine ⟨_, atE es (show 0 + v3.toNat = v3.toNat by omega) hy, by omega, ?_⟩
    conv => whnf
    refine ⟨⟨⟨by decide +kernel, Nat.le_of_ble_eq_true rfl⟩, trivial⟩, ?_⟩
    conv => whnf
    have hB3 : SBd c z (es.set v3.toNat ⟨row, y.d⟩) := ⟨by rw [List.length_set]; exact hB.n, fun e he => by
      rcases List.mem_or_eq_of_mem_set he with he | rfl
      · exact hB.r e he
      · exact ⟨show row.length ≤ 1000 by omega, hyd⟩⟩
    have e := SpD.own (bs := bs) (p := p) c z (p + 1 + 1 + c + 1) (es.set v3.toNat ⟨row, y.d⟩) es.length (by rw [List.length_set]) hB3 (by omega) (by omega)
    rw [List.map_set, ← Nat.zero_add v3.toNat] at e
    exact e
  · conv => whnf
    rw [hgt]
    conv => whnf
    refine VDraw.goR [0, 1, 0, 4, 12, 28, 60, 124, 255, 511, 1023] [10] [] [(10, [25])] rfl (by decide +kernel) ?_
    conv => whnf
    refine ⟨Int.le_refl _, by omega, by omega, ?_⟩
    conv => whnf
    refine ⟨_, hat, ?_⟩
    conv => whnf
    rw [abin_cat (a := _) (b := _) rfl rfl (by have := hd9 x (mem_at hx); show x.d.size + 1 ≤ _; omega)]
    conv => whnf
    refine ⟨Int.le_refl _, by omega, by omega, ?_⟩
    conv => whnf
    refine ⟨_, hat, by show 0 + 0 < _; omega, ?_⟩
    conv => whnf
    refine ⟨⟨⟨by decide +kernel, Nat.le_of_ble_eq_true rfl⟩, trivial⟩, ?_⟩
    conv => whnf
    have hB3 : SBd c z (es.set 0 ⟨x.r, x.d ++ ⟨#[120]⟩⟩) := ⟨by rw [List.length_set]; exact hB.n, fun e he => by
      rcases List.mem_or_eq_of_mem_set he with he | rfl
      · exact hB.r e he
      · refine ⟨hxr, ?_⟩
        have := hd9 x (mem_at hx)
        show (x.d ++ ⟨#[120]⟩).size ≤ 1000
        rw [ByteArray.size_append]
        show x.d.size + 1 ≤ 1000
        omega⟩
    have e := SpD.own (bs := bs) (p := p) c z (p + 1) (es.set 0 ⟨x.r, x.d ++ ⟨#[120]⟩⟩) es.length (by rw [List.length_set]) hB3 (by omega) (by omega)
    rw [List.map_set] at e
    exact e
  · conv => whnf
    refine ⟨⟨rfl, hm.symm, rfl⟩, Nat.le_refl 1, ?_⟩
    conv => whnf
    refine ⟨(fun q => by cases q), appE (show (es.map eE).length + 1 ≤ _ by rw [hm]; omega), fun el hel => by cases List.mem_singleton.1 hel; rfl, ?_⟩
    conv => whnf
    refine ⟨⟨⟨by decide +kernel, Nat.le_of_ble_eq_true rfl⟩, trivial⟩, ?_⟩
    conv => whnf
    have e := SpD.zero (bs := bs) (p := p) c z (p + 1) es ((es.map eE).length + 1) (by rw [hm]) hB hl9 (by omega) (by omega)
    exact e
theorem els_nil (pre : List (List PV)) {w : World} {S : Nat → Prop} {v : Value} (h : RepP w S (.sl (pre ++ [[.lit (.slice none 0 0), .lit (.string ⟨#[]⟩)]])) v) : RepP w S (.sl (pre ++ [[.sl [], .lit (.string ⟨#[]⟩)]])) v := by
  refine repP_els (by simp) (fun i el' hi => ?_) h
  rcases Nat.lt_or_ge i pre.length with q | q
  · rw [List.getElem?_append_left q] at hi
    exact ⟨el', by rw [List.getElem?_append_left q]; exact hi, rfl, fun j x' hx => ⟨x', hx, fun v h => h⟩⟩
  · rw [List.getElem?_append_right q] at hi
    have hi0 : i - pre.length = 0 := by
      have := (List.getElem?_eq_some_iff.1 hi).1
      simpa using this
    rw [hi0] at hi
    cases hi
    refine ⟨[.lit (.slice none 0 0), .lit (.string ⟨#[]⟩)], by rw [List.getElem?_append_right q, hi0]; rfl, rfl, fun j x' hx => ?_⟩
    rcases j with _ | _ | j
    · cases hx
      exact ⟨_, rfl, fun v h => by cases h; exact .nil none 0⟩
    · cases hx
      exact ⟨_, rfl, fun v h => h⟩
    · simp at hx
theorem spoilS_fz {bs : List Int} {p c z : Int} {es : List Eqn} {r : AV} {out : List Blk} (hS : SpD bs p r out) (hG : Good Tryz.prog 62 [.one (.hp 0 0 0), solF c z es] [rdB bs p] r out) :
    ∃ r out, (∃ (c z : Int) (es : List Eqn) (y : Int), SBd c z es ∧ p ≤ y ∧ y ≤ p + 100 ∧ r = solF c z es ∧ out = [rdB bs y]) ∧ Good Tryz.prog 62 [.one (.hp 0 0 0), solF c z es] [rdB bs p] r out := by
  have hrd : ∀ y : Int, ∀ blk ∈ [rdB bs y], blk.inA (· < 1) := fun y blk h => by
    cases List.mem_singleton.1 h
    exact fun c hc => by simp at hc; rcases hc with rfl | rfl <;> trivial
  cases hS with
  | nil c2 z2 y h0 h1 =>
    exact ⟨_, _, ⟨c2, z2, [], y, ⟨by simp, fun e h => (by cases h)⟩, h0, h1, rfl, rfl⟩, good_frz hG (.v (.agg (.cons .p (.cons .p (.cons .nil .nil))))) rfl (hrd y)⟩
  | own c2 z2 y es2 n hn hB h0 h1 =>
    exact ⟨_, _, ⟨c2, z2, es2, y, hB, h0, h1, rfl, rfl⟩, good_frz hG (.v (.agg (.cons .p (.cons .p (.cons (.sl rfl (by rw [List.length_map]; exact hn) (Nat.le_refl _)) .nil))))) rfl (hrd y)⟩
  | zero c2 z2 y es2 n hn hB hl h0 h1 =>
    have hB3 : SBd c2 z2 (es2 ++ [⟨[], ⟨#[]⟩⟩]) := ⟨by rw [List.length_append]; simp; omega, fun e he => by
      rcases List.mem_append.1 he with he | he
      · exact hB.r e he
      · rw [List.mem_singleton.1 he]; exact ⟨by simp, by decide⟩⟩
    refine ⟨_, _, ⟨c2, z2, es2 ++ [⟨[], ⟨#[]⟩⟩], y, hB3, h0, h1, rfl, rfl⟩, ?_⟩
    have g := good_frz hG (.v (.agg (.cons .p (.cons .p (.cons (.sl rfl (by rw [List.length_append, List.length_map]; exact hn) (Nat.le_refl _)) .nil))))) rfl (hrd y)
    refine good_say g (fun w S σ v h => ?_) (fun _ => .agg fun c hc => by simp at hc; rcases hc with rfl | rfl | rfl <;> trivial)
    cases h with
    | agg _ vs hl2 hr =>
      refine .agg _ vs hl2 fun i c v h1 h2 => ?_
      rcases i with _ | _ | _ | i
      · cases h1; exact hr 0 _ _ rfl h2
      · cases h1; exact hr 1 _ _ rfl h2
      · cases h1
        have := hr 2 _ _ rfl h2
        cases this with | p this =>
        refine .p ?_
        have := els_nil _ this
        rw [List.map_append]; exact this
      · simp at h1
theorem spoilS_ok (bs : List Int) (p c z : Int) (es : List Eqn) (hB : SBd c z es) (hl9 : es.length ≤ 900) (hd9 : ∀ e ∈ es, e.d.size ≤ 900) (hb : Bytes bs) (h0 : 0 ≤ p) (h1 : p < 700000) (hc0 : 0 ≤ c) (hc : c ≤ 30) (hz0 : 0 ≤ z) (hz : z ≤ 100) :
    ∃ r out, (∃ (c z : Int) (es : List Eqn) (y : Int), SBd c z es ∧ p ≤ y ∧ y ≤ p + 100 ∧ r = solF c z es ∧ out = [rdB bs y]) ∧ Good Tryz.prog 62 [.one (.hp 0 0 0), solF c z es] [rdB bs p] r out := by
  by_cases hne : es = []
  · subst hne
    obtain ⟨_, _, hS, hG⟩ := spoilS_nil bs p c z hb h0 h1 hc0 hc hz0 hz
    exact spoilS_fz hS hG
  · obtain ⟨_, _, hS, hG⟩ := spoilS_cons bs p c z es hne hB hl9 hd9 hb h0 h1 hc0 hc hz0 hz
    exact spoilS_fz hS hG
end Go.Abs.F

set_option linter.unusedSimpArgs false
set_option linter.unusedVariables false
namespace Go.Abs.F
open Go Go.Abs Go.Proofs Go.RowKit
attribute [local irreducible] IntKind.wrap
theorem spoilP_fz (bs : List Int) (p : Int) (hb : Bytes bs) (h0 : 0 ≤ p) (h1 : p < 900000) (l s : Int) (ws gs : List Int) (hp : POk l s ws gs) : ∃ r out, (∃ (l s : Int) (ws gs : List Int) (q : Int), ws.length ≤ 10 ∧ gs.length ≤ 10 ∧ p ≤ q ∧ q ≤ p + 10 ∧ r = planF l s ws gs ∧ out = [rdB bs q]) ∧ Good Tryz.prog 61 [.one (.hp 0 0 0), planF l s ws gs] [rdB bs p] r out := by
  have hrd : ∀ y : Int, ∀ blk ∈ [rdB bs y], blk.inA (· < 1) := fun y blk h => by
    cases List.mem_singleton.1 h
    exact fun c hc => by simp at hc; rcases hc with rfl | rfl <;> trivial
  obtain ⟨r, out, ⟨l2, s2, ws2, gs2, q, _, _, _, _, hw, hg, q1, q2, hh⟩, hG⟩ := l15Spoil_ok bs p hb h0 h1 l s ws gs hp
  rcases hh with ⟨rfl, rfl⟩ | ⟨rfl, rfl, rfl⟩
  · exact ⟨_, _, ⟨l2, s2, ws2, gs2, q, hw, hg, q1, q2, rfl, rfl⟩, good_frz hG (.v (.agg (.cons .p (.cons .p (.cons (.sl rfl (List.length_map ..).symm (Nat.le_refl _)) (.cons (.sl rfl (List.length_map ..).symm (Nat.le_of_ble_eq_true rfl)) .nil)))))) rfl (hrd q)⟩
  · exact ⟨_, _, ⟨l2, s2, [], gs2, q, hw, hg, q1, q2, rfl, rfl⟩, good_frz hG (.v (.agg (.cons .p (.cons .p (.cons .nil (.cons (.sl rfl (List.length_map ..).symm (Nat.le_refl _)) .nil)))))) rfl (hrd q)⟩
set_option maxHeartbeats 16000000 in
set_option maxRecDepth 100000 in
theorem l15Any_ok (bs : List Int) (p : Int) (hb : Bytes bs) (h0 : 0 ≤ p) (h1 : p < 600000) : ∃ r out, (∃ (l s : Int) (ws gs : List Int) (c z : Int) (es : List Eqn) (t : ByteArray) (q : Int), ws.length ≤ 10 ∧ gs.length ≤ 10 ∧ SBd c z es ∧ t.size ≤ 300 ∧ p ≤ q ∧ q ≤ p + 2000 ∧ r = .tup [getF l s ws gs c z es, vstr t] ∧ out = [rdB bs q]) ∧ Good Tryz.prog 23 [.one (.hp 0 0 0)] [rdB bs p] r out := by
  refine good_v noM Tryz.func23 rfl rfl ?_
  conv => whnf
  obtain ⟨_, _, ⟨l, s, ws, gs, c, z, es, t, q, hk, ht, q1, q2, rfl, rfl⟩, hG⟩ := l15Getting_ok bs p hb h0 (by omega)
  have hB := sok_bd hk.so
  have w2 := hk.pl.w2; have hg := hk.pl.g; have c1 := hk.so.c1; have c2 := hk.so.c2; have z1 := hk.so.z1; have z2 := hk.so.z2
  have hl := eqs_len hk.so.eq (by omega)
  conv => whnf
  refine .mk _ _ false Tryz.call60 hG (Nat.le_of_ble_eq_true rfl) (.inl rfl) ?_
  conv => whnf
  obtain ⟨_, _, ⟨v, hv0, hv1, rfl, rfl⟩, hg1⟩ := pick_ok bs q 20 hb.rng hb.len (by omega) (by omega) (by omega) (by omega)
  refine .mk _ _ false Tryz.call26 hg1 (Nat.le_of_ble_eq_true rfl) (.inl rfl) ?_
  conv => whnf
  cases e0 : (v == 0) with
  | true =>
    obtain ⟨_, _, ⟨l2, s2, ws2, gs2, y, hw2, hg2, y1, y2, rfl, rfl⟩, hS⟩ := spoilP_fz bs (q + 1) hb (by omega) (by omega) l s ws gs hk.pl
    conv => whnf
    refine .mk _ _ false Tryz.call61 hS (Nat.le_of_ble_eq_true rfl) (.inl rfl) ?_
    conv => whnf
    refine ⟨⟨⟨by decide +kernel, Nat.le_of_ble_eq_true rfl⟩, trivial⟩, ?_⟩
    conv => whnf
    exact ⟨l2, s2, ws2, gs2, c, z, es, t, y, hw2, hg2, hB, ht, by omega, by omega, rfl, rfl⟩
  | false =>
  conv => whnf
  cases e1 : (v == 1) with
  | true =>
    obtain ⟨_, _, ⟨c2, z2, es2, y, hB2, y1, y2, rfl, rfl⟩, hS⟩ := spoilS_ok bs (q + 1) c z es hB (by omega) (fun e he => by have := (hk.so.eq.row e he).2.2; omega) hb (by omega) (by omega) (by omega) (by omega) (by omega) (by omega)
    conv => whnf
    refine .mk _ _ false Tryz.call62 hS (Nat.le_of_ble_eq_true rfl) (.inl rfl) ?_
    conv => whnf
    refine ⟨⟨⟨by decide +kernel, Nat.le_of_ble_eq_true rfl⟩, trivial⟩, ?_⟩
    conv => whnf
    exact ⟨l, s, ws, gs, c2, z2, es2, t, y, by omega, by omega, hB2, ht, by omega, by omega, rfl, rfl⟩
  | false =>
    conv => whnf
    refine ⟨⟨⟨by decide +kernel, Nat.le_of_ble_eq_true rfl⟩, trivial⟩, ?_⟩
    conv => whnf
    exact ⟨l, s, ws, gs, c, z, es, t, q + 1, by omega, by omega, hB, ht, by omega, by omega, rfl, rfl⟩
theorem get5 (Z : List PV) (a b c d e : Int) {v : Int} (h0 : 0 ≤ v) (h1 : v < 5) : ∃ k, ((((((List.replicate 5 Z).set 0 (eI a)).set 1 (eI b)).set 2 (eI c)).set 3 (eI d)).set 4 (eI e)).getD (0 + v.toNat) [] = eI k := by
  have : v = 0 ∨ v = 1 ∨ v = 2 ∨ v = 3 ∨ v = 4 := by omega
  rcases this with rfl | rfl | rfl | rfl | rfl
  · exact ⟨a, rfl⟩
  · exact ⟨b, rfl⟩
  · exact ⟨c, rfl⟩
  · exact ⟨d, rfl⟩
  · exact ⟨e, rfl⟩
set_option maxHeartbeats 16000000 in
set_option maxRecDepth 100000 in
theorem l15Id_ok (bs : List Int) (p : Int) (hb : Bytes bs) (h0 : 0 ≤ p) (h1 : p < 900000) : ∃ r out, (∃ v : Int, r = vint v ∧ out = [rdB bs (p + 1 + 1 + 1)]) ∧ Good Tryz.prog 24 [.one (.hp 0 0 0)] [rdB bs p] r out := by
  refine good_v noM Tryz.func24 rfl rfl ?_
  conv => whnf
  obtain ⟨_, _, ⟨v1, hv10, hv11, rfl, rfl⟩, hg1⟩ := pick_ok bs p 40 hb.rng hb.len (by omega) (by omega) (by omega) (by omega)
  obtain ⟨_, _, ⟨v2, hv20, hv21, rfl, rfl⟩, hg2⟩ := pick_ok bs (p + 1) 256 hb.rng hb.len (by omega) (by omega) (by omega) (by omega)
  obtain ⟨_, _, ⟨v3, hv30, hv31, rfl, rfl⟩, hg3⟩ := pick_ok bs (p + 1 + 1) 16 hb.rng hb.len (by omega) (by omega) (by omega) (by omega)
  conv => whnf
  refine .mk _ _ false Tryz.call26 hg1 (Nat.le_of_ble_eq_true rfl) (.inl rfl) ?_
  conv => whnf
  refine .mk _ _ false Tryz.call26 hg2 (Nat.le_of_ble_eq_true rfl) (.inl rfl) ?_
  conv => whnf
  refine .mk _ _ false Tryz.call26 hg3 (Nat.le_of_ble_eq_true rfl) (.inl rfl) ?_
  conv => whnf
  have hj : IntKind.i64.wrap ((IntKind.i64.wrap (v3 * 5)).tdiv 16) = v3 * 5 / 16 := by
    rw [wrap_in (v3 * 5) (by omega) (by omega), Int.tdiv_eq_ediv_of_nonneg (by omega)]
    exact wrap_in _ (by omega) (by omega)
  rw [hj]
  obtain ⟨j, hj2⟩ : ∃ j, j = v3 * 5 / 16 := ⟨_, rfl⟩
  rw [← hj2]
  refine ⟨by omega, by omega, Nat.le_refl 5, ?_⟩
  conv => whnf
  obtain ⟨k, hk⟩ := get5 (zeroEl (Value.int .i64 0).cells) v1 (IntKind.i64.wrap (v2 * 39)) 9999 (-1) 10000 (v := j) (by omega) (by omega)
  refine ⟨_, hk, ?_⟩
  conv => whnf
  refine ⟨trivial, ?_⟩
  conv => whnf
  exact ⟨k, rfl, rfl⟩
set_option maxHeartbeats 16000000 in
set_option maxRecDepth 100000 in
theorem drawGA_ok (bs : List Int) (hb : ∀ x ∈ bs, 0 ≤ x ∧ x ≤ 255) (hl : bs.length ≤ 9223372036854775807) : ∃ r out, (∃ (l s : Int) (ws gs : List Int) (c z : Int) (es : List Eqn) (id : Int) (d : ByteArray), ws.length ≤ 10 ∧ gs.length ≤ 10 ∧ SBd c z es ∧ d.size ≤ 300 ∧ r = .tup [getF l s ws gs c z es, vint id, vstr d] ∧ out = []) ∧ Good Tryz.prog 5 [.one (.p (.sl (bs.map encU)))] [] r out := by
  refine good_v noM Tryz.func5 rfl rfl ?_
  conv => whnf
  obtain ⟨_, _, ⟨bs', hB, rfl, rfl⟩, hO⟩ := l1Open_ok bs hb hl
  refine .mk _ _ false Tryz.call22 hO (Nat.le_of_ble_eq_true rfl) (.inl rfl) ?_
  conv => whnf
  obtain ⟨_, _, ⟨l, s, ws, gs, c, z, es, t, q, hw, hg, hE, ht, q1, q2, rfl, rfl⟩, hG⟩ := l15Any_ok bs' 0 hB (Int.le_refl 0) (by decide)
  refine .mk _ _ false Tryz.call23 hG (Nat.le_of_ble_eq_true rfl) (.inl rfl) ?_
  conv => whnf
  obtain ⟨_, _, ⟨id, rfl, rfl⟩, hI⟩ := l15Id_ok bs' q hB (by omega) (by omega)
  refine .mk _ _ false Tryz.call24 hI (Nat.le_of_ble_eq_true rfl) (.inl rfl) ?_
  conv => whnf
  obtain ⟨_, _, ⟨d, b, rfl, hd, rfl⟩, hS⟩ := planSym_ok l s ws gs (by omega) t (by omega) id
  refine .mk _ _ false Tryz.call25 hS (Nat.le_of_ble_eq_true rfl) (.inl rfl) ?_
  conv => whnf
  obtain ⟨_, _, ⟨v, hv0, hv1, rfl, rfl⟩, hp⟩ := pick_ok bs' (q + 1 + 1 + 1) 12 hB.rng hB.len (by omega) (by omega) (by omega) (by omega)
  cases b with
  | false =>
    obtain ⟨_, _, ⟨d2, y, rfl, hd2, _, _, rfl⟩, hK⟩ := l15Block_ok bs' (q + 1 + 1 + 1) 8 hB (by omega) (by omega) (by omega) (by omega)
    conv => whnf
    refine .mk _ _ false Tryz.call27 hK (Nat.le_of_ble_eq_true rfl) (.inl rfl) ?_
    conv => whnf
    refine ⟨⟨⟨by decide +kernel, Nat.le_of_ble_eq_true rfl⟩, trivial⟩, ?_⟩
    conv => whnf
    exact ⟨l, s, ws, gs, c, z, es, id, d2, hw, hg, hE, by omega, rfl, rfl⟩
  | true =>
    conv => whnf
    refine .mk _ _ false Tryz.call26 hp (Nat.le_of_ble_eq_true rfl) (.inl rfl) ?_
    conv => whnf
    cases e : (v == 0) with
    | true =>
      obtain ⟨_, _, ⟨d2, y, rfl, hd2, _, _, rfl⟩, hK⟩ := l15Block_ok bs' (q + 1 + 1 + 1 + 1) 8 hB (by omega) (by omega) (by omega) (by omega)
      conv => whnf
      refine .mk _ _ false Tryz.call27 hK (Nat.le_of_ble_eq_true rfl) (.inl rfl) ?_
      conv => whnf
      refine ⟨⟨⟨by decide +kernel, Nat.le_of_ble_eq_true rfl⟩, trivial⟩, ?_⟩
      conv => whnf
      exact ⟨l, s, ws, gs, c, z, es, id, d2, hw, hg, hE, by omega, rfl, rfl⟩
    | false =>
      conv => whnf
      refine ⟨⟨⟨by decide +kernel, Nat.le_of_ble_eq_true rfl⟩, trivial⟩, ?_⟩
      conv => whnf
      exact ⟨l, s, ws, gs, c, z, es, id, d, hw, hg, hE, by omega, rfl, rfl⟩
end Go.Abs.F

set_option linter.unusedSimpArgs false
set_option linter.unusedVariables false
namespace Go.Abs.F
open Go Go.Abs Go.Proofs Go.RowKit
attribute [local irreducible] IntKind.wrap
theorem txt_pre {es es' : List Eqn} {n n' : Nat} {l : Int} (hl : 0 ≤ l) {R : ByteArray} (h : catE es' n' = catE es n ++ R) : (txt es n l).size ≤ (txt es' n' l).size ∧ (txt es' n' l).extract 0 (txt es n l).size = txt es n l := by
  unfold txt
  rw [h]
  obtain ⟨A, hA⟩ : ∃ A, A = catE es n := ⟨_, rfl⟩
  rw [← hA]
  have hs : (A ++ R).size = A.size + R.size := ByteArray.size_append
  have hdl : (A ++ R).data.toList = A.data.toList ++ R.data.toList := by rw [ByteArray.data_append, Array.toList_append]
  have ha : A.data.toList.length = A.size := by simp
  have key : ∀ B : ByteArray, ∀ k, A.size ≤ k → (A ++ R).extract 0 k = B → B.extract 0 A.size = A := fun B k hk e => by
    rw [← e, extract_eq, extract_eq, mkS_list, hdl]
    simp only [List.drop_zero, Nat.sub_zero]
    rw [List.take_take, Nat.min_eq_left hk, ← ha, List.take_left']
    · apply ByteArray.ext; simp [mkS]
    · rfl
  by_cases q1 : (A.size : Int) > l
  · rw [if_pos q1, if_pos (by omega)]
    have e : (A ++ R).extract 0 l.toNat = A.extract 0 l.toNat := by
      rw [extract_eq, extract_eq, hdl]
      simp only [List.drop_zero, Nat.sub_zero]
      rw [List.take_append_of_le_length (by omega)]
    rw [e]
    refine ⟨Nat.le_refl _, ByteArray.extract_zero_size⟩
  · rw [if_neg q1]
    by_cases q2 : ((A ++ R).size : Int) > l
    · rw [if_pos q2]
      exact ⟨by rw [ByteArray.size_extract]; omega, key _ l.toNat (by omega) rfl⟩
    · rw [if_neg q2]
      exact ⟨by omega, key _ (A ++ R).size (by omega) ByteArray.extract_zero_size⟩
theorem neI (x : Int) : (x != x) = false := by simp
theorem neB (b : Bool) : (!(b == b)) = false := by simp
theorem eqI' (x : Int) : (x == x) = true := by simp
theorem eqS (x : ByteArray) : (x.toList == x.toList) = true := by simp
theorem wf8 {x : Int} (h : (Lit.int .u8 x).wf = true) : 0 ≤ x ∧ x ≤ 255 := by
  unfold Lit.wf at h
  simp only [Bool.and_eq_true, decide_eq_true_eq] at h
  exact h
set_option maxHeartbeats 16000000 in
set_option maxRecDepth 100000 in
theorem getAdd_law (xs : List Int) (hx : ∀ x ∈ xs, 0 ≤ x ∧ x ≤ 255) (hl : xs.length ≤ 9223372036854775807) : ∃ r out, r = vbool true ∧ Good Tryz.prog 3 [.one (.p (.sl (xs.map encU)))] [] r out := by
  have hxm : (xs.map encU).length = xs.length := List.length_map ..
  refine good_v noM Tryz.func3 rfl rfl ?_
  conv => whnf
  rw [hxm]
  split
  · conv => whnf
    refine ⟨trivial, ?_⟩
    conv => whnf
    rfl
  · rename_i q0
    obtain ⟨_, _, ⟨l, s, ws, gs, c, z, es, id, d, hw, hg, hB, hd, rfl, rfl⟩, hD⟩ := drawGA_ok xs hx hl
    conv => whnf
    refine .mk _ _ false Tryz.call5 hD (Nat.le_of_ble_eq_true rfl) (.inl rfl) ?_
    conv => whnf
    by_cases hk : GOk l s ws gs c z es
    · obtain ⟨es', kk, hS', hkeep, hgar⟩ : ∃ (es' : List Eqn) (kk : Int), SOk c z es' ∧ (∀ a : Int, (getE es a).isSome = true → getE es' a = getE es a) ∧ GAR l s ws gs c z es id d (.tup [getF l s ws gs c z es', vint kk]) := by
        obtain ⟨v, hv⟩ := gar_ex l s ws gs c z es id d
        cases hv with
        | bad h => exact absurd hk h
        | out h ho => exact ⟨es, 3, hk.so, fun _ _ => rfl, .out h ho⟩
        | new h i0 i1 hds r hr A hA =>
          have hrow := prow_row hk.pl i0 hr
          have hz1 := hk.so.z1
          have hze := hk.ze
          rw [← hk.ce] at hrow
          obtain ⟨a1, a2⟩ := addR_ok hk.so hrow (by omega) hA
          exact ⟨A.1, A.2, a1, a2, .new h i0 i1 hds r hr A hA⟩
      have hk' : GOk l s ws gs c z es' := ⟨hk.pl, hS', hk.ce, hk.ze⟩
      have hB' := sok_bd hS'
      obtain ⟨n, hn, hnc⟩ := prefix_ex hk.so
      obtain ⟨n', hn', hnc'⟩ := prefix_ex hS'
      have hle : n ≤ n' := by
        rcases Nat.lt_or_ge n' n with q | q
        · have := hkeep n' (hn.yes n' q)
          have h2 := hn'.no
          rw [this, hn.yes n' q] at h2; cases h2
        · exact q
      obtain ⟨m, hm⟩ := wins_ex ws n
      obtain ⟨m', hm'⟩ := wins_ex ws n'
      have hmm := hm.mono hm' hle
      obtain ⟨R, hR⟩ := catE_more es' n (n' - n)
      rw [show n + (n' - n) = n' by omega, catE_eq fun i hi => hkeep i (hn.yes i hi)] at hR
      have hl1 := hk.pl.l1
      obtain ⟨t1, t2⟩ := txt_pre (l := l) (by omega) hR
      have gT := implText_ok l s ws gs c z es hk n hn hnc
      have gT' := implText_ok l s ws gs c z es' hk' n' hn' hnc'
      have gTs := specText_ok l s ws gs c z es hk n hn hnc
      obtain ⟨ta, hta⟩ : ∃ ta, ta = txt es n l := ⟨_, rfl⟩
      obtain ⟨tb, htb⟩ : ∃ tb, tb = txt es' n' l := ⟨_, rfl⟩
      rw [← hta] at gT gTs t1 t2
      rw [← htb] at gT' t1 t2
      refine .mk _ _ false Tryz.call6 (implGA_ok l s ws gs c z es (by omega) (by omega) hB id d (by omega) _ hgar) (Nat.le_of_ble_eq_true rfl) (.inl rfl) ?_
      conv => whnf
      refine .mk _ _ false Tryz.call7 (specGA_ok l s ws gs c z es (by omega) (by omega) hB id d (by omega) _ hgar) (Nat.le_of_ble_eq_true rfl) (.inl rfl) ?_
      conv => whnf
      refine VDraw.goR [0, 0, 3, 7, 15, 15, 63, 127, 255, 511, 1023, 2047, 1023, 8191, 16383, 32767, 65535, 131071, 262143, 524287, 1048575] [6, 11, 13, 18] [] [] rfl (by decide +kernel) ?_
      conv => whnf
      rw [neI kk]
      conv => whnf
      refine .mk _ _ false Tryz.call8 (whGet_same l s ws gs c z es' (by omega) (by omega) hB') (Nat.le_of_ble_eq_true rfl) (.inl rfl) ?_
      conv => whnf
      refine .mk _ _ false Tryz.call9 (implGOk_ok l s ws gs c z es (by omega) hB true ⟨fun _ => hk, fun _ => rfl⟩) (Nat.le_of_ble_eq_true rfl) (.inl rfl) ?_
      conv => whnf
      refine .mk _ _ false Tryz.call10 (specGOk_ok l s ws gs c z es (by omega) hB true ⟨fun _ => hk, fun _ => rfl⟩) (Nat.le_of_ble_eq_true rfl) (.inl rfl) ?_
      conv => whnf
      refine .mk _ _ false Tryz.call10 (specGOk_ok l s ws gs c z es (by omega) hB true ⟨fun _ => hk, fun _ => rfl⟩) (Nat.le_of_ble_eq_true rfl) (.inl rfl) ?_
      conv => whnf
      refine .mk _ _ false Tryz.call11 gT (Nat.le_of_ble_eq_true rfl) (.inl rfl) ?_
      conv => whnf
      refine .mk _ _ false Tryz.call11 gT' (Nat.le_of_ble_eq_true rfl) (.inl rfl) ?_
      conv => whnf
      refine VDraw.goR [0, 0, 2, 7, 15, 31, 63, 31, 255, 511, 1023, 2047, 4095, 8191, 4095, 32767, 65535, 131071] [2, 6, 8, 13, 15] [] [] rfl (by decide +kernel) ?_
      conv => whnf
      refine .mk _ _ false Tryz.call12 gTs (Nat.le_of_ble_eq_true rfl) (.inl rfl) ?_
      conv => whnf
      rw [eqS ta]
      conv => whnf
      refine .mk _ _ false Tryz.call13 (implWindows_ok l s ws gs c z es hk n hn hnc m hm) (Nat.le_of_ble_eq_true rfl) (.inl rfl) ?_
      conv => whnf
      refine .mk _ _ false Tryz.call14 (specWindows_ok l s ws gs c z es hk n hn hnc m hm) (Nat.le_of_ble_eq_true rfl) (.inl rfl) ?_
      conv => whnf
      rw [neI]
      conv => whnf
      refine .mk _ _ false Tryz.call15 (implDone_ok l s ws gs c z es hk n hn hnc) (Nat.le_of_ble_eq_true rfl) (.inl rfl) ?_
      conv => whnf
      refine .mk _ _ false Tryz.call16 (specDone_ok l s ws gs c z es hk n hn hnc) (Nat.le_of_ble_eq_true rfl) (.inl rfl) ?_
      conv => whnf
      rw [neB]
      conv => whnf
      have w1 : decide (((m' : Nat) : Int) ≥ ((m : Nat) : Int)) = true := decide_eq_true (by omega)
      have s1 : decide ((tb.size : Int) ≥ (ta.size : Int)) = true := decide_eq_true (by omega)
      have tbs : tb.size ≤ 400 := by
        have := cat24 hk' hnc'
        rw [htb]; unfold txt
        split
        · rw [ByteArray.size_extract]; omega
        · exact this
      refine VDraw.goR [0, 1, 3, 7, 15, 7, 39, 127, 255, 511, 1023, 1023, 3071, 8191, 1023, 32767, 65535, 131071, 262143, 524287, 262143, 2097151, 4194303, 8388607, 16777215, 33554431, 67108863, 134217727, 268435455, 536870911, 1073741823, 2147483647, 4294967295, 8589934591] [1, 19, 21, 26, 30] [] [] rfl (by decide +kernel) ?_
      conv => whnf
      refine .mk _ _ false Tryz.call9 (implGOk_ok l s ws gs c z es' (by omega) hB' true ⟨fun _ => hk', fun _ => rfl⟩) (Nat.le_of_ble_eq_true rfl) (.inl rfl) ?_
      conv => whnf
      rw [s1]
      conv => whnf
      refine ⟨⟨by omega, by omega, by omega⟩, ?_⟩
      conv => whnf
      rw [show tb.extract (Int.toNat 0) ((ta.size : Int)).toNat = ta from by rw [Int.toNat_natCast]; exact t2, eqS ta]
      conv => whnf
      refine .mk _ _ false Tryz.call13 (implWindows_ok l s ws gs c z es' hk' n' hn' hnc' m' hm') (Nat.le_of_ble_eq_true rfl) (.inl rfl) ?_
      conv => whnf
      refine .mk _ _ false Tryz.call13 (implWindows_ok l s ws gs c z es hk n hn hnc m hm) (Nat.le_of_ble_eq_true rfl) (.inl rfl) ?_
      conv => whnf
      rw [w1]
      conv => whnf
      refine .mk _ _ false Tryz.call15 (implDone_ok l s ws gs c z es hk n hn hnc) (Nat.le_of_ble_eq_true rfl) (.inl rfl) ?_
      conv => whnf
      cases d1 : ((n : Int) == c) with
      | false =>
        conv => whnf
        refine ⟨trivial, ?_⟩
        conv => whnf
        rfl
      | true =>
        have d1' : (n : Int) = c := by simpa using d1
        have d2 : ((n' : Int) == c) = true := beq_iff_eq.2 (by omega)
        conv => whnf
        refine .mk _ _ false Tryz.call15 (implDone_ok l s ws gs c z es' hk' n' hn' hnc') (Nat.le_of_ble_eq_true rfl) (.inl rfl) ?_
        conv => whnf
        rw [d2]
        refine ⟨trivial, ?_⟩
        conv => whnf
        rfl
    · refine .mk _ _ false Tryz.call6 (implGA_ok l s ws gs c z es (by omega) (by omega) hB id d (by omega) _ (.bad hk)) (Nat.le_of_ble_eq_true rfl) (.inl rfl) ?_
      conv => whnf
      refine .mk _ _ false Tryz.call7 (specGA_ok l s ws gs c z es (by omega) (by omega) hB id d (by omega) _ (.bad hk)) (Nat.le_of_ble_eq_true rfl) (.inl rfl) ?_
      conv => whnf
      have gI := implGOk_ok l s ws gs c z es (by omega) hB false ⟨fun q => (by cases q), fun q => (hk q).elim⟩
      have gS := specGOk_ok l s ws gs c z es (by omega) hB false ⟨fun q => (by cases q), fun q => (hk q).elim⟩
      refine VDraw.goR [0, 0, 3, 7, 15, 15, 63, 127, 255, 511, 1023, 2047, 1023, 8191, 16383, 32767, 65535, 131071, 262143, 524287, 1048575] [6, 11, 13, 18] [] [] rfl (by decide +kernel) ?_
      conv => whnf
      refine .mk _ _ false Tryz.call8 whGet_nil (Nat.le_of_ble_eq_true rfl) (.inl rfl) ?_
      conv => whnf
      refine .mk _ _ false Tryz.call9 gI (Nat.le_of_ble_eq_true rfl) (.inl rfl) ?_
      conv => whnf
      refine .mk _ _ false Tryz.call10 gS (Nat.le_of_ble_eq_true rfl) (.inl rfl) ?_
      conv => whnf
      refine .mk _ _ false Tryz.call10 gS (Nat.le_of_ble_eq_true rfl) (.inl rfl) ?_
      conv => whnf
      refine VDraw.goR [0, 0, 3, 7, 15, 15, 63, 127, 255, 511, 1023, 511, 4095, 8191, 16383, 32767] [6, 10, 12] [] [] rfl (by decide +kernel) ?_
      conv => whnf
      refine .mk _ _ false Tryz.call8 whGet_nil (Nat.le_of_ble_eq_true rfl) (.inl rfl) ?_
      conv => whnf
      refine .mk _ _ false Tryz.call9 gI (Nat.le_of_ble_eq_true rfl) (.inl rfl) ?_
      conv => whnf
      refine .mk _ _ false Tryz.call10 gS (Nat.le_of_ble_eq_true rfl) (.inl rfl) ?_
      conv => whnf
      refine ⟨trivial, ?_⟩
      conv => whnf
      rfl
theorem fnGetAdd_good (xs : List Int) (hx : xs.length ≤ 9223372036854775807 ∧ ∀ x ∈ xs, (Lit.int .u8 x).wf = true) : ∃ r out, r = vbool true ∧ Good Tryz.prog 3 [.one (.p (.sl (xs.map encU)))] [] r out := getAdd_law xs (fun x h => wf8 (hx.2 x h)) hx.1
end Go.Abs.F
