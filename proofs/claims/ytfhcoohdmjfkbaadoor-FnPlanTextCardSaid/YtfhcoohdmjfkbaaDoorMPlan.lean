import Derived.Test.YtfhcoohdmjfkbaaDoorMText
import Derived.Test.YtfhcoohdmjfkbaaDoorGWR2
import Derived.Test.YtfhcoohdmjfkbaaDoorGWR1
set_option linter.unusedSimpArgs false
set_option linter.unusedVariables false
namespace Go.Abs.D
open Go Go.Abs Go.Proofs Go.RowKit
attribute [local irreducible] IntKind.wrap
theorem cnt_pos {l s : Int} (h1 : 1 ≤ l) (h2 : l ≤ 300) (h3 : 1 ≤ s) (h4 : s ≤ 16) : 1 ≤ cnt l s := by
  rw [cnt_eq h1 h2 h3 h4]
  exact Int.le_ediv_of_mul_le (by omega) (by omega)
set_option maxHeartbeats 16000000 in
set_option maxRecDepth 100000 in
theorem implPOk_ok (l s : Int) (ws gs : List Int) (hw : ws.length ≤ 1000000) (b : Bool) (hb : b = true ↔ POk l s ws gs) : Good Tryd.prog 27 [planF l s ws gs] [] (vbool b) [] := by
  have hwm : (ws.map eI).length = ws.length := List.length_map ..
  have hgm : (gs.map eI).length = gs.length := List.length_map ..
  refine good_e noM Tryd.func27 rfl rfl ?_
  conv => whnf
  refine .mk _ _ false Tryd.call45 (within_ok l 1 300) (Nat.le_of_ble_eq_true rfl) (.inl rfl) ?_
  conv => whnf
  cases h1 : inR l 1 300 with
  | false =>
    obtain rfl := pok_f hb fun q => inR_f h1 ⟨q.l1, q.l2⟩
    conv => whnf
    refine ⟨trivial, ?_⟩
    conv => whnf
    exact ⟨rfl, rfl⟩
  | true =>
  conv => whnf
  refine .mk _ _ false Tryd.call45 (within_ok s 1 16) (Nat.le_of_ble_eq_true rfl) (.inl rfl) ?_
  conv => whnf
  cases h2 : inR s 1 16 with
  | false =>
    obtain rfl := pok_f hb fun q => inR_f h2 ⟨q.s1, q.s2⟩
    conv => whnf
    refine ⟨trivial, ?_⟩
    conv => whnf
    exact ⟨rfl, rfl⟩
  | true =>
  have h1' := inR_iff.1 h1
  have h2' := inR_iff.1 h2
  have hc0 := cnt_pos h1'.1 h1'.2 h2'.1 h2'.2
  conv => whnf
  refine .mk _ _ false Tryd.call58 (implCount_ok l s ws gs (by omega)) (Nat.le_of_ble_eq_true rfl) (.inl rfl) ?_
  conv => whnf
  split
  · rename_i q
    have q' := of_decide_eq_true q
    obtain rfl := pok_f hb fun p => by have := p.c2; omega
    conv => whnf
    refine ⟨trivial, ?_⟩
    conv => whnf
    exact ⟨rfl, rfl⟩
  rename_i q
  have q' := of_decide_eq_false q
  conv => whnf
  refine VDraw.goR [0, 1, 3, 7, 15, 31, 63, 127, 255, 63, 575, 1599, 4095, 8191, 16383, 32767, 65535, 32767, 163839, 425983, 950271, 2097151, 4194303, 32767, 8421375, 33554431, 67108863] [3, 24] [] [] rfl (by decide +kernel) ?_
  conv => whnf
  refine .mk _ _ false Tryd.call45 (within_ok _ 1 3) (Nat.le_of_ble_eq_true rfl) (.inl rfl) ?_
  conv => whnf
  rw [hwm]
  cases h4 : inR (ws.length : Int) 1 3 with
  | false =>
    obtain rfl := pok_f hb fun q => inR_f h4 ⟨by have := q.w1; omega, by have := q.w2; omega⟩
    conv => whnf
    refine ⟨trivial, ?_⟩
    conv => whnf
    exact ⟨rfl, rfl⟩
  | true =>
  have h4' := inR_iff.1 h4
  conv => whnf
  rw [hgm, hwm]
  split
  · rename_i q
    have q' : ¬ (gs.length : Int) = ws.length := bne_iff_ne.1 q
    obtain rfl := pok_f hb fun p => by have := p.g; omega
    conv => whnf
    refine ⟨trivial, ?_⟩
    conv => whnf
    exact ⟨rfl, rfl⟩
  rename_i q2
  have q2' : (gs.length : Int) = ws.length := by simpa using q2
  have hgl : gs.length = ws.length := by omega
  have hw1 : IntKind.i64.wrap ((ws.length : Int) - 1) = ((ws.length - 1 : Nat) : Int) := by rw [wrap_in _ (by omega) (by omega)]; omega
  have en1 : ((ws.length - 1 : Nat) : Int).toNat = ws.length - 1 := Int.toNat_natCast _
  conv => whnf
  rw [hwm, hw1]
  refine ⟨by omega, by omega, _, atI ws en1 (by omega), ?_⟩
  conv => whnf
  refine .mk _ _ false Tryd.call58 (implCount_ok l s ws gs (by omega)) (Nat.le_of_ble_eq_true rfl) (.inl rfl) ?_
  conv => whnf
  split
  · rename_i q3
    have q3' : ¬ ws.getD (ws.length - 1) 0 = cnt l s := bne_iff_ne.1 q3
    obtain rfl := pok_f hb fun p => q3' p.last
    conv => whnf
    refine ⟨trivial, ?_⟩
    conv => whnf
    exact ⟨rfl, rfl⟩
  rename_i q3
  have q3' : ws.getD (ws.length - 1) 0 = cnt l s := by simpa using q3
  conv => whnf
  refine VLoop.enter [1, 48, 49, 50] ?_
  conv => whnf
  refine VLoop.ind1 (n0 := 1) (α := Int) noM [1, 48, 49, 50] (fun a => ⟨84, 0, [(1, .one (.hp 0 0 0)), (48, .one (.p (slI ws))), (49, vint ((ws.map eI).length : Int)), (50, vint a)], [(0, some (.box [.p (.lit (.int .i64 l)), .p (.lit (.int .i64 s)), .p (slI ws), .p (slI gs)]))]⟩)
    (fun a => ∃ i : Nat, a = i ∧ i ≤ ws.length ∧ ∀ k, k < i → (1 ≤ ws.getD k 0 ∧ ws.getD k 0 ≤ cnt l s) ∧ (0 < k → ws.getD (k - 1) 0 < ws.getD k 0) ∧ (1 ≤ gs.getD k 0 ∧ gs.getD k 0 ≤ 99)) (fun a => (ws.length - a).toNat) ?_ 0 ⟨0, rfl, by omega, fun k hk => by omega⟩
  rintro _ ⟨i, rfl, hi, hk⟩
  have en : ((i : Nat) : Int).toNat = i := Int.toNat_natCast i
  conv => whnf
  rw [hwm]
  split
  · rename_i qq
    have qq' : (i : Int) < ws.length := of_decide_eq_true qq
    have hwi : IntKind.i64.wrap ((i : Int) + 1) = ((i + 1 : Nat) : Int) := by rw [wrap_in _ (by omega) (by omega)]; omega
    conv => whnf
    refine ⟨by omega, by rw [hwm]; omega, _, atI ws en (by omega), ?_⟩
    conv => whnf
    refine .mk _ _ false Tryd.call58 (implCount_ok l s ws gs (by omega)) (Nat.le_of_ble_eq_true rfl) (.inl rfl) ?_
    conv => whnf
    refine .mk _ _ false Tryd.call45 (within_ok (ws.getD i 0) 1 (cnt l s)) (Nat.le_of_ble_eq_true rfl) (.inl rfl) ?_
    conv => whnf
    cases h5 : inR (ws.getD i 0) 1 (cnt l s) with
    | false =>
      obtain rfl := pok_f hb fun p => inR_f h5 (p.rng i (by omega))
      conv => whnf
      refine ⟨trivial, ?_⟩
      conv => whnf
      exact ⟨rfl, rfl⟩
    | true =>
    have h5' := inR_iff.1 h5
    conv => whnf
    split
    · rename_i q1
      have q1' : (i : Int) > 0 := of_decide_eq_true q1
      have hw1 : IntKind.i64.wrap ((i : Int) - 1) = ((i - 1 : Nat) : Int) := by rw [wrap_in _ (by omega) (by omega)]; omega
      have en1 : ((i - 1 : Nat) : Int).toNat = i - 1 := Int.toNat_natCast _
      conv => whnf
      rw [hw1]
      refine ⟨by omega, by rw [hwm]; omega, _, atI ws en1 (by omega), ?_⟩
      conv => whnf
      split
      · rename_i q2
        have q2' := of_decide_eq_true q2
        obtain rfl := pok_f hb fun p => by
          have := p.asc (i - 1) (by omega)
          rw [show i - 1 + 1 = i by omega] at this
          omega
        conv => whnf
        refine ⟨trivial, ?_⟩
        conv => whnf
        exact ⟨rfl, rfl⟩
      rename_i q2
      have q2' := of_decide_eq_false q2
      conv => whnf
      refine ⟨by omega, by rw [hgm]; omega, _, atI gs en (by omega), ?_⟩
      conv => whnf
      refine .mk _ _ false Tryd.call45 (within_ok (gs.getD i 0) 1 99) (Nat.le_of_ble_eq_true rfl) (.inl rfl) ?_
      conv => whnf
      cases h6 : inR (gs.getD i 0) 1 99 with
      | false =>
        obtain rfl := pok_f hb fun p => inR_f h6 (p.wt i (by omega))
        conv => whnf
        refine ⟨trivial, ?_⟩
        conv => whnf
        exact ⟨rfl, rfl⟩
      | true =>
      have h6' := inR_iff.1 h6
      conv => whnf
      refine ⟨_, rfl, rfl, ⟨i + 1, hwi, by omega, fun k hkk => ?_⟩, by rw [hwi]; omega⟩
      by_cases e : k = i
      · subst e; exact ⟨h5', fun _ => by omega, h6'⟩
      · exact hk k (by omega)
    · rename_i q1
      have q1' : ¬ (i : Int) > 0 := of_decide_eq_false q1
      conv => whnf
      refine ⟨by omega, by rw [hgm]; omega, _, atI gs en (by omega), ?_⟩
      conv => whnf
      refine .mk _ _ false Tryd.call45 (within_ok (gs.getD i 0) 1 99) (Nat.le_of_ble_eq_true rfl) (.inl rfl) ?_
      conv => whnf
      cases h6 : inR (gs.getD i 0) 1 99 with
      | false =>
        obtain rfl := pok_f hb fun p => inR_f h6 (p.wt i (by omega))
        conv => whnf
        refine ⟨trivial, ?_⟩
        conv => whnf
        exact ⟨rfl, rfl⟩
      | true =>
      have h6' := inR_iff.1 h6
      conv => whnf
      refine ⟨_, rfl, rfl, ⟨i + 1, hwi, by omega, fun k hkk => ?_⟩, by rw [hwi]; omega⟩
      by_cases e : k = i
      · subst e; exact ⟨h5', fun _ => by omega, h6'⟩
      · exact hk k (by omega)
  · rename_i qq
    have qq' : ¬ (i : Int) < ws.length := of_decide_eq_false qq
    obtain rfl : i = ws.length := by omega
    obtain rfl : b = true := hb.2 ⟨h1'.1, h1'.2, h2'.1, h2'.2, hc0, by omega, by omega, by omega, hgl, fun k hkk => (hk k hkk).1, fun k hkk => (hk (k + 1) hkk).2.1 (by omega), fun k hkk => (hk k hkk).2.2, q3'⟩
    conv => whnf
    refine ⟨trivial, ?_⟩
    conv => whnf
    exact ⟨rfl, rfl⟩
end Go.Abs.D

set_option linter.unusedSimpArgs false
set_option linter.unusedVariables false
namespace Go.Abs.D
open Go Go.Abs Go.Proofs Go.RowKit
attribute [local irreducible] IntKind.wrap
theorem good_strs {P : Program} {f : FuncId} (xs : List ByteArray) (sep : ByteArray) (r : ByteArray)
    (h : ∀ (w : World) (v : Value) (hv : (xs = [] ∧ ∃ a c, v = .slice a 0 c) ∨ ∃ bk o c, v = .slice (some ⟨bk, o, none⟩) xs.length c ∧ bk < w.heap.size ∧ xs.length ≤ c ∧ ∀ (j : Nat) x, xs[j]? = some x → w.cell? ⟨bk, o + j, none⟩ = some (.string x)), Calls P f #[v, .string sep] w fun e w' => e = .returned (.string r) ∧ Below w.heap.size w w') :
    Good P f [.one (.p (.sl (xs.map encT))), vstr sep] [] (vstr r) [] := by
  intro w us σ S hl hr hin hlent hap hS hG
  have hsz : us.size = 2 := hl.symm
  obtain ⟨u0, u1, rfl⟩ : ∃ u0 u1, us = #[u0, u1] := by
    refine ⟨us[0], us[1], ?_⟩
    apply Array.ext (show us.size = 2 from hsz)
    intro i h1 h2
    have : i = 0 ∨ i = 1 := by omega
    rcases this with rfl | rfl <;> rfl
  have r0 := hr 0 _ u0 rfl rfl
  have r1 := hr 1 _ u1 rfl rfl
  obtain rfl : u1 = .string sep := (lit_inv r1 rfl)
  have hv : (xs = [] ∧ ∃ a c, u0 = .slice a 0 c) ∨ ∃ bk o c, u0 = .slice (some ⟨bk, o, none⟩) xs.length c ∧ bk < w.heap.size ∧ xs.length ≤ c ∧ ∀ (j : Nat) x, xs[j]? = some x → w.cell? ⟨bk, o + j, none⟩ = some (.string x) := by
    cases r0 with
    | one h =>
      generalize hE : AC.p (.sl (xs.map encT)) = E at h
      cases h with
      | p h2 =>
        cases hE
        generalize hE2 : (PV.sl (xs.map encT)) = E2 at h2
        cases h2 with
        | lit v => cases hE2
        | nil a cap =>
          have : xs.map encT = [] := PV.sl.inj hE2
          exact .inl ⟨List.map_eq_nil_iff.1 this, a, cap, rfl⟩
        | sl els k off sz n cap cf hn hcap hk hq hc hr' =>
          have he : xs.map encT = els := PV.sl.inj hE2
          subst he
          rw [List.length_map] at hn
          subst hn
          refine .inr ⟨k, off, cap, rfl, hS k hk, hcap, fun j x hx => ?_⟩
          have e1 : (xs.map encT)[j]? = some (encT x) := by rw [List.getElem?_map, hx]; rfl
          have hz : 1 = sz := hq j (encT x) e1
          have h1 := (hc j (encT x) 0 (.lit (.string x)) e1 rfl).1
          have h2 := hr' j (encT x) 0 (.lit (.string x)) e1 rfl
          rw [← hz, Nat.mul_one, Nat.add_zero] at h1
          generalize cf j 0 = V at h1 h2
          cases h2
          exact h1
      | _ => cases hE
  refine Calls.mono (h w u0 hv) ?_
  rintro e w' ⟨rfl, hb⟩
  exact ⟨_, rfl, σ, S, .one (.p (.lit _)), .one trivial, Nat.le_refl _, fun b blk q => by simp at q, fun b b' q => by simp at q, fun b q => rfl, fun b q1 q2 => by simp at q2, fun j hj => Nat.lt_of_lt_of_le (hS j hj) hb.size, fun j hj _ => hj, hb.os, hb.tape, hb.output, hb.size, fun j hj _ => hb.block j hj⟩
theorem join_ok (xs : List ByteArray) (sep : ByteArray) (hN : xs.length ≤ 1000000) (hlen : (Lib.join (xs.map (·.data.toList)) sep.data.toList).length ≤ 1000000) :
    Good Tryd.prog 66 [.one (.p (.sl (xs.map encT))), vstr sep] [] (vstr ⟨(Lib.join (xs.map (·.data.toList)) sep.data.toList).toArray⟩) [] := by
  refine good_strs xs sep _ fun w v hv => ?_
  rcases hv with ⟨rfl, a, c, rfl⟩ | ⟨bk, o, c, rfl, hbk, hc, hx⟩
  · refine Calls.mono (Tryd.strings_Join_none a c sep w) ?_
    rintro e w' ⟨rfl, rfl⟩
    exact ⟨rfl, Below.refl _ _⟩
  · exact Tryd.strings_Join bk o c xs sep w hx hbk (by omega) hc (by omega)
theorem join_cons (x y : List UInt8) (l : List (List UInt8)) (sep : List UInt8) : Lib.join (x :: y :: l) sep = x ++ sep ++ Lib.join (y :: l) sep := by
  unfold Lib.join
  simp [List.intercalate]
theorem join_snoc (sep : List UInt8) : ∀ (l : List (List UInt8)) (x : List UInt8), l ≠ [] → Lib.join (l ++ [x]) sep = Lib.join l sep ++ sep ++ x
  | [], x, h => (h rfl).elim
  | [a], x, _ => by simp [Lib.join, List.intercalate]
  | a :: b :: l, x, _ => by
    rw [List.cons_append, List.cons_append, join_cons, ← List.cons_append, join_snoc sep (b :: l) x (by simp), join_cons]
    simp
/-- The numbers' texts joined by commas are the list's text. -/
theorem join_lt (l : List Int) : ∀ n, n ≤ l.length → Lib.join (((l.take n).map dec).map (·.data.toList)) [44] = (lt l n).data.toList := by
  intro n
  induction n with
  | zero => intro _; rfl
  | succ n ih =>
    intro hn
    have h1 := ih (by omega)
    have e : l.take (n + 1) = l.take n ++ [l.getD n 0] := by
      rw [List.take_add_one, List.getElem?_eq_getElem (by omega), List.getD_eq_getElem?_getD, List.getElem?_eq_getElem (by omega)]
      rfl
    rw [e, List.map_append, List.map_append]
    by_cases q : n = 0
    · subst q
      unfold lt
      rw [decide_eq_false (show ¬ (((0 : Nat) : Int) > 0) by omega)]
      show Lib.join ([] ++ [(dec (l.getD 0 0)).data.toList]) [44] = (lt l 0 ++ dec (l.getD 0 0)).data.toList
      rw [cat_list]
      simp [Lib.join, List.intercalate, lt]
    · unfold lt
      rw [decide_eq_true (show ((n : Nat) : Int) > 0 by omega)]
      show Lib.join (((l.take n).map dec).map (·.data.toList) ++ [(dec (l.getD n 0)).data.toList]) [44] = (lt l n ++ cm ++ dec (l.getD n 0)).data.toList
      rw [join_snoc _ _ _ (by
        intro h
        have h2 : (((l.take n).map dec).map (·.data.toList)).length = 0 := by rw [h]; rfl
        rw [List.length_map, List.length_map, List.length_take] at h2
        omega), h1, cat_list, cat_list]
set_option maxHeartbeats 16000000 in
set_option maxRecDepth 100000 in
theorem listText_ok (l : List Int) (hl : l.length ≤ 1000) (hs : small l) : Good Tryd.prog 53 [.one (.p (slI l))] [] (vstr (lt l l.length)) [] := by
  have hm : (l.map eI).length = l.length := List.length_map ..
  refine good_e noM Tryd.func53 rfl rfl ?_
  conv => whnf
  refine VLoop.enter [3, 7, 8, 9] ?_
  conv => whnf
  refine VLoop.ind3 (n0 := 1) (α := Nat) (β := Int) (γ := List (List PV)) noM [3, 7, 8, 9] (fun L a E => ⟨21, 0, [(3, .one (.hs 0 0 L)), (7, .one (.p (slI l))), (8, vint ((l.map eI).length : Int)), (9, vint a)], [(0, some (.arr 1 E))]⟩)
    (fun L a E => ∃ i : Nat, L = i ∧ a = i ∧ i ≤ l.length ∧ E = ((l.take i).map dec).map encT) (fun L _ _ => l.length - L) ?_ 0 0 [] ⟨0, rfl, rfl, Nat.zero_le _, rfl⟩
  rintro i _ _ ⟨_, rfl, rfl, hi, rfl⟩
  have hem : (((l.take i).map dec).map encT).length = i := by rw [List.length_map, List.length_map, List.length_take]; omega
  have en : ((i : Nat) : Int).toNat = i := Int.toNat_natCast i
  conv => whnf
  rw [hm]
  split
  · rename_i k
    have k' : (i : Int) < l.length := of_decide_eq_true k
    have hwi : IntKind.i64.wrap ((i : Int) + 1) = ((i + 1 : Nat) : Int) := by rw [wrap_in _ (by omega) (by omega)]; omega
    conv => whnf
    refine ⟨by omega, by rw [hm]; omega, _, atI l en (by omega), ?_⟩
    conv => whnf
    refine .mk _ _ false Tryd.call30 (itoa_ok (l.getD i 0) (by have := (hs i (by omega)).1; omega) (by have := (hs i (by omega)).2; omega)) (Nat.le_of_ble_eq_true rfl) (.inl rfl) ?_
    conv => whnf
    refine ⟨⟨rfl, hem.symm, rfl⟩, Nat.le_refl 1, ?_⟩
    conv => whnf
    refine ⟨(fun q => by cases q), app9 (show (((l.take i).map dec).map encT).length + 1 ≤ _ by omega), fun el hel => by cases List.mem_singleton.1 hel; rfl, ?_⟩
    conv => whnf
    refine ⟨_, _, _, rfl, rfl, ⟨i + 1, ?_, hwi, by omega, ?_⟩, ?_⟩
    · rw [hem]; rfl
    · show ((l.take i).map dec).map encT ++ [encT (dec (l.getD i 0))] = ((l.take (i + 1)).map dec).map encT
      rw [List.take_add_one, List.getElem?_eq_getElem (by omega), List.getD_eq_getElem?_getD, List.getElem?_eq_getElem (by omega)]
      simp only [Option.toList_some, List.map_append, List.map_cons, List.map_nil, Option.getD_some]
    · rw [hem]; show l.length - (i + 1) < _; omega
  · rename_i k
    have k' : ¬ (i : Int) < l.length := of_decide_eq_false k
    obtain rfl : i = l.length := by omega
    conv => whnf
    refine ⟨by omega, ?_⟩
    conv => whnf
    have hj := join_lt l l.length (Nat.le_refl _)
    have hz := lt_size hs l.length (Nat.le_refl _)
    have hg := join_ok ((l.take l.length).map dec) ⟨#[44]⟩ (by rw [List.length_map, List.length_take]; omega) (by
      show (Lib.join _ [44]).length ≤ _
      rw [hj, szl]; omega)
    rw [show (⟨(Lib.join (((l.take l.length).map dec).map (·.data.toList)) (ByteArray.mk #[44]).data.toList).toArray⟩ : ByteArray) = lt l l.length from by
      apply ByteArray.ext
      apply Array.ext'
      exact hj] at hg
    rw [show List.take l.length (List.drop 0 (((l.take l.length).map dec).map encT)) = ((l.take l.length).map dec).map encT by
      rw [List.drop_zero, List.take_of_length_le (by rw [hem]; exact Nat.le_refl _)]]
    refine .mk _ _ false Tryd.call66 hg (Nat.le_of_ble_eq_true rfl) (.inr ⟨AV.nsB_iff rfl, fun k hk => by cases hk⟩) ?_
    conv => whnf
    refine ⟨trivial, ?_⟩
    conv => whnf
    exact ⟨rfl, rfl⟩
set_option maxHeartbeats 16000000 in
set_option maxRecDepth 100000 in
theorem implPW_ok (l s : Int) (ws gs : List Int) (hw : ws.length ≤ 1000000) (b : Bool) (hb : b = true ↔ POk l s ws gs) : Good Tryd.prog 23 [planF l s ws gs] [] (vstr (pw b l s ws gs)) [] := by
  refine good_e noM Tryd.func23 rfl rfl ?_
  conv => whnf
  refine .mk _ _ false Tryd.call27 (implPOk_ok l s ws gs hw b hb) (Nat.le_of_ble_eq_true rfl) (.inl rfl) ?_
  conv => whnf
  unfold pw
  cases hk : b with
  | false =>
    conv => whnf
    refine ⟨trivial, ?_⟩
    conv => whnf
    exact ⟨rfl, rfl⟩
  | true =>
    have h := hb.1 hk
    have h1 := decZ_size (n := l) (by have := h.l1; omega) (by have := h.l2; omega)
    have h2 := decZ_size (n := s) (by have := h.s1; omega) (by have := h.s2; omega)
    have h3 := lt_size h.smallW ws.length (Nat.le_refl _); have h4 := lt_size h.smallG gs.length (Nat.le_refl _)
    have h5 := h.w2; have h6 := h.g
    conv => whnf
    refine VDraw.goR [0, 1, 3, 7, 0, 16, 55, 127, 255, 0, 512, 1655, 4095, 8191, 0, 16384, 52855, 131071, 262143] [2, 6, 11, 16] [] [] rfl (by decide +kernel) ?_
    conv => whnf
    refine .mk _ _ false Tryd.call30 (itoa_ok l (by have := h.l1; omega) (by have := h.l2; omega)) (Nat.le_of_ble_eq_true rfl) (.inl rfl) ?_
    conv => whnf
    rw [abin_cat (a := _) (b := _) rfl rfl (by show (dec l).size + 1 ≤ _; omega)]
    conv => whnf
    refine .mk _ _ false Tryd.call30 (itoa_ok s (by have := h.s1; omega) (by have := h.s2; omega)) (Nat.le_of_ble_eq_true rfl) (.inl rfl) ?_
    conv => whnf
    rw [abin_cat (a := _) (b := _) rfl rfl (by simp only [ByteArray.size_append, sl1]; omega)]
    conv => whnf
    rw [abin_cat (a := _) (b := _) rfl rfl (by simp only [ByteArray.size_append, sl1, co1]; omega)]
    conv => whnf
    refine .mk _ _ false Tryd.call53 (listText_ok ws (by omega) h.smallW) (Nat.le_of_ble_eq_true rfl) (.inl rfl) ?_
    conv => whnf
    rw [abin_cat (a := _) (b := _) rfl rfl (by simp only [ByteArray.size_append, sl1, co1]; omega)]
    conv => whnf
    rw [abin_cat (a := _) (b := _) rfl rfl (by simp only [ByteArray.size_append, sl1, co1]; omega)]
    conv => whnf
    refine .mk _ _ false Tryd.call53 (listText_ok gs (by omega) h.smallG) (Nat.le_of_ble_eq_true rfl) (.inl rfl) ?_
    conv => whnf
    rw [abin_cat (a := _) (b := _) rfl rfl (by simp only [ByteArray.size_append, sl1, co1]; omega)]
    conv => whnf
    refine ⟨trivial, ?_⟩
    conv => whnf
    exact ⟨rfl, rfl⟩
end Go.Abs.D

set_option linter.unusedSimpArgs false
set_option linter.unusedVariables false
namespace Go.Abs.D
open Go Go.Abs Go.Proofs Go.RowKit
attribute [local irreducible] IntKind.wrap
def nI (p : List UInt8) : Int := numI (mkS p)
def nS (p : List UInt8) : Int := numS (mkS p)
theorem bytes3 : Tryd.prog.bytesOf 3 + 1 ≤ 100 := by decide +kernel
theorem app3 {n : Nat} (h : n ≤ 1099511627777) : n * (Tryd.prog.bytesOf 3 + 1) ≤ 140737488355328 := Nat.le_trans (Nat.mul_le_mul h bytes3) (by decide)
theorem map_snoc (ps : List (List UInt8)) (N : List UInt8 → Int) (i : Nat) (h : i < ps.length) : ((ps.take i).map N).map eI ++ [eI (N (ps.getD i []))] = ((ps.take (i + 1)).map N).map eI := by
  rw [List.take_add_one, List.getElem?_eq_getElem (by omega), List.getD_eq_getElem?_getD, List.getElem?_eq_getElem (by omega)]
  simp only [Option.toList_some, List.map_append, List.map_cons, List.map_nil, Option.getD_some]
set_option maxHeartbeats 16000000 in
set_option maxRecDepth 100000 in
theorem listRead_ok (s : ByteArray) (hs : s.size ≤ 1000000000) : Good Tryd.prog 50 [vstr s] [] (.one (.hs 0 0 (cuts 44 s.data.toList).length)) [.arr 1 (((cuts 44 s.data.toList).map nI).map eI)] := by
  have hcl : (cuts 44 s.data.toList).length ≤ s.size + 1 := by
    rw [cuts_length]; have := List.count_le_length (a := (44 : UInt8)) (l := s.data.toList); rw [szl] at this; omega
  have hsz : ∀ i, ((cuts 44 s.data.toList).getD i []).length ≤ s.size := fun i => by have := piece_size (c := 44) s.data.toList i; rw [szl] at this; exact this
  refine good_e noM Tryd.func50 rfl rfl ?_
  conv => whnf
  refine .mk _ _ false Tryd.call36 (split1_ok s (by omega) 44) (Nat.le_of_ble_eq_true rfl) (.inl rfl) ?_
  conv => whnf
  obtain ⟨ps, hps⟩ : ∃ ps, ps = cuts 44 s.data.toList := ⟨_, rfl⟩
  rw [← hps] at hcl hsz ⊢
  refine VLoop.enter [3, 10, 11, 12] ?_
  conv => whnf
  refine VLoop.ind3 (n0 := 2) (α := Nat) (β := Int) (γ := List (List PV)) noM [3, 10, 11, 12] (fun L a E => ⟨27, 0, [(3, .one (.hs 0 0 L)), (10, .one (.hs 1 0 ps.length)), (11, vint (ps.length : Int)), (12, vint a)], [(0, some (.arr 1 E)), (1, some (.arr 1 (encS ps)))]⟩)
    (fun L a E => ∃ i : Nat, L = i ∧ a = i ∧ i ≤ ps.length ∧ E = ((ps.take i).map nI).map eI) (fun L _ _ => ps.length - L) ?_ 0 0 [] ⟨0, rfl, rfl, Nat.zero_le _, rfl⟩
  rintro i _ _ ⟨_, rfl, rfl, hi, rfl⟩
  have hem : (((ps.take i).map nI).map eI).length = i := by rw [List.length_map, List.length_map, List.length_take]; omega
  conv => whnf
  split
  · rename_i k
    have k' : (i : Int) < ps.length := of_decide_eq_true k
    have hwi : IntKind.i64.wrap ((i : Int) + 1) = ((i + 1 : Nat) : Int) := by rw [wrap_in _ (by omega) (by omega)]; omega
    conv => whnf
    refine ⟨by omega, by omega, by rw [encS_len]; omega, ?_⟩
    conv => whnf
    refine ⟨_, encS_at ps (i := i) (by omega) (by omega), ?_⟩
    conv => whnf
    refine .mk _ _ false Tryd.call37 (number_ok (mkS (ps.getD i [])) (by rw [mkS_size]; have := hsz i; omega)) (Nat.le_of_ble_eq_true rfl) (.inl rfl) ?_
    conv => whnf
    refine ⟨⟨rfl, hem.symm, rfl⟩, Nat.le_refl 1, ?_⟩
    conv => whnf
    refine ⟨(fun q => by cases q), app3 (show (((ps.take i).map nI).map eI).length + 1 ≤ _ by omega), fun el hel => by cases List.mem_singleton.1 hel; rfl, ?_⟩
    conv => whnf
    refine ⟨_, _, _, rfl, rfl, ⟨i + 1, ?_, hwi, by omega, map_snoc ps nI i (by omega)⟩, ?_⟩
    · rw [hem]; rfl
    · rw [hem]; show ps.length - (i + 1) < _; omega
  · rename_i k
    have k' : ¬ (i : Int) < ps.length := of_decide_eq_false k
    obtain rfl : i = ps.length := by omega
    conv => whnf
    rw [List.take_of_length_le (Nat.le_refl _)]
    refine ⟨trivial, ?_⟩
    conv => whnf
    exact ⟨rfl, rfl⟩
set_option maxHeartbeats 16000000 in
set_option maxRecDepth 100000 in
theorem l5Nums_ok (s : ByteArray) (hs : s.size ≤ 1000000000) : Good Tryd.prog 51 [vstr s] [] (.one (.hs 0 0 ((cuts 44 s.data.toList).take 4).length)) [.arr 1 ((((cuts 44 s.data.toList).take 4).map nS).map eI)] := by
  have hcl : (cuts 44 s.data.toList).length ≤ s.size + 1 := by
    rw [cuts_length]; have := List.count_le_length (a := (44 : UInt8)) (l := s.data.toList); rw [szl] at this; omega
  have hsz : ∀ i, ((cuts 44 s.data.toList).getD i []).length ≤ s.size := fun i => by have := piece_size (c := 44) s.data.toList i; rw [szl] at this; exact this
  refine good_e noM Tryd.func51 rfl rfl ?_
  conv => whnf
  refine .mk _ _ false Tryd.call33 (l5Cuts_ok s (by omega) 44) (Nat.le_of_ble_eq_true rfl) (.inl rfl) ?_
  conv => whnf
  obtain ⟨ps, hps⟩ : ∃ ps, ps = cuts 44 s.data.toList := ⟨_, rfl⟩
  rw [← hps] at hcl hsz ⊢
  refine VLoop.enter [3, 4, 5] ?_
  conv => whnf
  refine VLoop.ind3 (n0 := 2) (α := Nat) (β := Int) (γ := List (List PV)) noM [3, 4, 5] (fun L a E => ⟨28, 0, [(3, .one (.hs 0 0 L)), (4, .one (.hs 1 0 ps.length)), (5, vint a)], [(0, some (.arr 1 E)), (1, some (.arr 1 (encS ps)))]⟩)
    (fun L a E => ∃ i : Nat, L = i ∧ a = i ∧ i ≤ ps.length ∧ i ≤ 4 ∧ E = ((ps.take i).map nS).map eI) (fun L _ _ => ps.length - L) ?_ 0 0 [] ⟨0, rfl, rfl, Nat.zero_le _, by omega, rfl⟩
  rintro i _ _ ⟨_, rfl, rfl, hi, hi4, rfl⟩
  have hem : (((ps.take i).map nS).map eI).length = i := by rw [List.length_map, List.length_map, List.length_take]; omega
  conv => whnf
  split
  · rename_i k
    have k' : (i : Int) < ps.length := of_decide_eq_true k
    have hwi : IntKind.i64.wrap ((i : Int) + 1) = ((i + 1 : Nat) : Int) := by rw [wrap_in _ (by omega) (by omega)]; omega
    conv => whnf
    split
    · rename_i k3
      have k3' := of_decide_eq_true k3
      conv => whnf
      refine ⟨by omega, by omega, by rw [encS_len]; omega, ?_⟩
      conv => whnf
      refine ⟨_, encS_at ps (i := i) (by omega) (by omega), ?_⟩
      conv => whnf
      refine .mk _ _ false Tryd.call34 (l5Num_ok (mkS (ps.getD i [])) (by rw [mkS_size]; have := hsz i; omega)) (Nat.le_of_ble_eq_true rfl) (.inl rfl) ?_
      conv => whnf
      refine ⟨⟨rfl, hem.symm, rfl⟩, Nat.le_refl 1, ?_⟩
      conv => whnf
      refine ⟨(fun q => by cases q), app3 (show (((ps.take i).map nS).map eI).length + 1 ≤ _ by omega), fun el hel => by cases List.mem_singleton.1 hel; rfl, ?_⟩
      conv => whnf
      refine ⟨_, _, _, rfl, rfl, ⟨i + 1, ?_, hwi, by omega, by omega, map_snoc ps nS i (by omega)⟩, ?_⟩
      · rw [hem]; rfl
      · rw [hem]; show ps.length - (i + 1) < _; omega
    · rename_i k3
      have k3' := of_decide_eq_false k3
      obtain rfl : i = 4 := by omega
      conv => whnf
      rw [show (ps.take 4).length = 4 by rw [List.length_take]; omega]
      refine ⟨trivial, ?_⟩
      conv => whnf
      exact ⟨rfl, rfl⟩
  · rename_i k
    have k' : ¬ (i : Int) < ps.length := of_decide_eq_false k
    obtain rfl : i = ps.length := by omega
    conv => whnf
    rw [List.take_of_length_le (by omega : ps.length ≤ 4), List.take_of_length_le (Nat.le_refl _)]
    refine ⟨trivial, ?_⟩
    conv => whnf
    exact ⟨rfl, rfl⟩
end Go.Abs.D

set_option linter.unusedSimpArgs false
set_option linter.unusedVariables false
namespace Go.Abs.D
open Go Go.Abs Go.Proofs Go.RowKit
attribute [local irreducible] IntKind.wrap
structure RPlan where
  l : Int
  s : Int
  ws : List Int
  gs : List Int
/-- The text t tells the plan p. -/
structure ReadsP (t : ByteArray) (p : RPlan) : Prop where
  ok : POk p.l p.s p.ws p.gs
  wr : ptext p.l p.s p.ws p.gs = t
theorem cuts_join : ∀ (L : List (List UInt8)), L ≠ [] → (∀ x ∈ L, ∀ c ∈ x, c ≠ 44) → cuts 44 (Lib.join L [44]) = L
  | [], h, _ => (h rfl).elim
  | [x], _, h => by
    rw [show Lib.join [x] [44] = x by simp [Lib.join, List.intercalate]]
    exact cuts_none (idx_no (h x (List.mem_singleton.2 rfl)))
  | x :: y :: L, _, h => by
    rw [join_cons, List.append_assoc]
    show cuts 44 (x ++ 44 :: Lib.join (y :: L) [44]) = _
    rw [cuts_app (h x (List.mem_cons_self ..)), cuts_join (y :: L) (by simp) fun z hz => h z (List.mem_cons_of_mem _ hz)]
theorem join_mem : ∀ (L : List (List UInt8)) (c : UInt8), c ∈ Lib.join L [44] → c = 44 ∨ ∃ x ∈ L, c ∈ x
  | [], c, h => by simp [Lib.join, List.intercalate] at h
  | [x], c, h => .inr ⟨x, List.mem_singleton.2 rfl, by simpa [Lib.join, List.intercalate] using h⟩
  | x :: y :: L, c, h => by
    rw [join_cons, List.append_assoc] at h
    rcases List.mem_append.1 h with h | h
    · exact .inr ⟨x, List.mem_cons_self .., h⟩
    · rcases List.mem_cons.1 h with h | h
      · exact .inl h
      · rcases join_mem (y :: L) c h with h | ⟨z, h1, h2⟩
        · exact .inl h
        · exact .inr ⟨z, List.mem_cons_of_mem _ h1, h2⟩
theorem lt_join (l : List Int) : (lt l l.length).data.toList = Lib.join (l.map dl) [44] := by
  rw [← join_lt l l.length (Nat.le_refl _), List.take_of_length_le (Nat.le_refl _), List.map_map]
  rfl
theorem mem_nn {l : List Int} (hs : small l) {n : Int} (h : n ∈ l) : 0 ≤ n ∧ n < 100000 := by
  obtain ⟨i, hi, rfl⟩ := List.getElem_of_mem h
  have := hs i hi
  rw [List.getD_eq_getElem?_getD, List.getElem?_eq_getElem hi] at this
  exact this
theorem lt_cuts {l : List Int} (hs : small l) (h : 1 ≤ l.length) : cuts 44 (lt l l.length).data.toList = l.map dl := by
  rw [lt_join]
  refine cuts_join _ (fun q => ?_) fun x hx c hc => ?_
  · have := congrArg List.length q
    rw [List.length_map] at this
    simp only [List.length_nil] at this
    omega
  · obtain ⟨n, hn, rfl⟩ := List.mem_map.1 hx
    exact dl_no (mem_nn hs hn).1 (by decide) c hc
theorem lt_no58 {l : List Int} (hs : small l) : ∀ x ∈ (lt l l.length).data.toList, x ≠ 58 := by
  intro c hc
  rw [lt_join] at hc
  rcases join_mem _ c hc with rfl | ⟨x, hx, hcx⟩
  · decide
  · obtain ⟨n, hn, rfl⟩ := List.mem_map.1 hx
    exact dl_no (mem_nn hs hn).1 (by decide) c hcx
section
variable {t : ByteArray} {p : RPlan}
theorem ReadsP.list (h : ReadsP t p) : t.data.toList = (dl p.l ++ 47 :: dl p.s) ++ 58 :: ((lt p.ws p.ws.length).data.toList ++ 58 :: (lt p.gs p.gs.length).data.toList) := by
  rw [← h.wr]
  unfold ptext
  simp only [cat_list, dl]
  show _ ++ [47] ++ _ ++ [58] ++ _ ++ [58] ++ _ = _
  simp
theorem ReadsP.c58 (h : ReadsP t p) : cuts 58 t.data.toList = [dl p.l ++ 47 :: dl p.s, (lt p.ws p.ws.length).data.toList, (lt p.gs p.gs.length).data.toList] := by
  have hl : ∀ x ∈ dl p.l ++ 47 :: dl p.s, x ≠ 58 := fun x hx => by
    rcases List.mem_append.1 hx with hx | hx
    · exact dl_no (by have := h.ok.l1; omega) (by decide) x hx
    · rcases List.mem_cons.1 hx with rfl | hx
      · decide
      · exact dl_no (by have := h.ok.s1; omega) (by decide) x hx
  rw [h.list, cuts_app hl, cuts_app (lt_no58 h.ok.smallW), cuts_none (idx_no (lt_no58 h.ok.smallG))]
theorem ReadsP.c47 (h : ReadsP t p) : cuts 47 (dl p.l ++ 47 :: dl p.s) = [dl p.l, dl p.s] := by
  rw [cuts_app (dl_no (by have := h.ok.l1; omega) (by decide)), cuts_none (idx_no (dl_no (by have := h.ok.s1; omega) (by decide)))]
theorem ReadsP.cW (h : ReadsP t p) : cuts 44 (lt p.ws p.ws.length).data.toList = p.ws.map dl := lt_cuts h.ok.smallW h.ok.w1
theorem ReadsP.cG (h : ReadsP t p) : cuts 44 (lt p.gs p.gs.length).data.toList = p.gs.map dl := lt_cuts h.ok.smallG (by rw [h.ok.g]; exact h.ok.w1)
theorem map_dl {l : List Int} (hs : small l) (N : List UInt8 → Int) (hN : ∀ n : Int, 0 ≤ n → n < 100000 → N (dl n) = n) : (l.map dl).map N = l := by
  rw [List.map_map]
  conv => rhs; rw [← List.map_id l]
  exact List.map_congr_left fun n hn => hN n (mem_nn hs hn).1 (mem_nn hs hn).2
theorem nS_dl (n : Int) (h0 : 0 ≤ n) (h1 : n < 100000) : nS (dl n) = n := numS_dec h0 h1
theorem nI_dl (n : Int) (h0 : 0 ≤ n) (h1 : n < 100000) : nI (dl n) = n := numI_dec h0 h1
/-- What both sides read out of a text. -/
def parseP (N : List UInt8 → Int) (t : ByteArray) : RPlan :=
  let ps := cuts 58 t.data.toList
  let qs := cuts 47 (ps.getD 0 [])
  ⟨N (qs.getD 0 []), N (qs.getD 1 []), ((cuts 44 (ps.getD 1 [])).take 4).map N, ((cuts 44 (ps.getD 2 [])).take 4).map N⟩
theorem ReadsP.parse (h : ReadsP t p) (N : List UInt8 → Int) (hN : ∀ n : Int, 0 ≤ n → n < 100000 → N (dl n) = n) : parseP N t = p := by
  have h1 := h.ok.l1; have h2 := h.ok.l2; have h3 := h.ok.s1; have h4 := h.ok.s2; have h5 := h.ok.w2; have h6 := h.ok.g
  have eW : (cuts 44 (lt p.ws p.ws.length).data.toList).take 4 = p.ws.map dl := by rw [h.cW, List.take_of_length_le (by rw [List.length_map]; omega)]
  have eG : (cuts 44 (lt p.gs p.gs.length).data.toList).take 4 = p.gs.map dl := by rw [h.cG, List.take_of_length_le (by rw [List.length_map]; omega)]
  unfold parseP
  rw [h.c58]
  show RPlan.mk (N ((cuts 47 (dl p.l ++ 47 :: dl p.s)).getD 0 [])) (N ((cuts 47 (dl p.l ++ 47 :: dl p.s)).getD 1 [])) (((cuts 44 (lt p.ws p.ws.length).data.toList).take 4).map N) (((cuts 44 (lt p.gs p.gs.length).data.toList).take 4).map N) = p
  rw [h.c47, eW, eG, map_dl h.ok.smallW N hN, map_dl h.ok.smallG N hN]
  show RPlan.mk (N (dl p.l)) (N (dl p.s)) p.ws p.gs = p
  rw [hN _ (by omega) (by omega), hN _ (by omega) (by omega)]
theorem ReadsP.uniq (h : ReadsP t p) {p' : RPlan} (h' : ReadsP t p') : p = p' := by
  rw [← h.parse nS nS_dl, h'.parse nS nS_dl]
theorem readsP_ex (t : ByteArray) : ∃ o : Option RPlan, ∀ p, o = some p ↔ ReadsP t p := by
  by_cases h : ∃ p, ReadsP t p
  · obtain ⟨p, hp⟩ := h
    exact ⟨some p, fun p' => Iff.intro (fun e => by rw [← Option.some.inj e]; exact hp) (fun q => by rw [hp.uniq q])⟩
  · exact ⟨none, fun p => Iff.intro (fun e => nomatch e) (fun q => (h ⟨p, q⟩).elim)⟩
theorem noneP {o : Option RPlan} (ho : ∀ p, o = some p ↔ ReadsP t p) (h : ∀ p, ¬ ReadsP t p) : o = none := by
  cases o with
  | none => rfl
  | some p => exact (h p ((ho p).1 rfl)).elim
end
def readPV : Option RPlan → AV
  | none => .tup [.agg [.p (.lit (.int .i64 0)), .p (.lit (.int .i64 0)), .p (.lit (.slice none 0 0)), .p (.lit (.slice none 0 0))], vbool false]
  | some p => .tup [.agg [.p (.lit (.int .i64 p.l)), .p (.lit (.int .i64 p.s)), .hs 0 0 p.ws.length, .hs 1 0 p.gs.length], vbool true]
def readPB : Option RPlan → List Blk
  | none => []
  | some p => [.arr 1 (p.ws.map eI), .arr 1 (p.gs.map eI)]
theorem pw_ne {l s : Int} {W G : List Int} {b : Bool} (hb : b = true ↔ POk l s W G) {t : ByteArray} {ps : List (List UInt8)} (hps : ps = cuts 58 t.data.toList) (h3 : (ps.length : Int) = 3) (hR : ¬ ReadsP t ⟨l, s, W, G⟩) : pw b l s W G ≠ t := by
  intro e
  cases b with
  | true => exact hR ⟨hb.1 rfl, e⟩
  | false =>
    have : t = ⟨#[]⟩ := e.symm
    rw [this] at hps
    rw [hps, cuts_length] at h3
    have : List.count (58 : UInt8) (ByteArray.mk #[]).data.toList = 0 := rfl
    omega
set_option maxHeartbeats 16000000 in
set_option maxRecDepth 100000 in
theorem specPRead_ok (t : ByteArray) (ht : t.size ≤ 1000000) (o : Option RPlan) (ho : ∀ p, o = some p ↔ ReadsP t p) : Good Tryd.prog 21 [vstr t] [] (readPV o) (readPB o) := by
  refine good_e noM Tryd.func21 rfl rfl ?_
  conv => whnf
  refine .mk _ _ false Tryd.call33 (l5Cuts_ok t (by omega) 58) (Nat.le_of_ble_eq_true rfl) (.inl rfl) ?_
  conv => whnf
  obtain ⟨ps, hps⟩ : ∃ ps, ps = cuts 58 t.data.toList := ⟨_, rfl⟩
  rw [← hps]
  split
  · rename_i q
    have q' : ¬ (ps.length : Int) = 3 := bne_iff_ne.1 q
    obtain rfl := noneP ho fun p h => by
      have := h.c58
      rw [← hps] at this
      rw [this] at q'
      exact q' rfl
    conv => whnf
    refine ⟨⟨⟨by decide +kernel, Nat.le_of_ble_eq_true rfl⟩, trivial⟩, ?_⟩
    conv => whnf
    exact ⟨rfl, rfl⟩
  rename_i q
  have q' : (ps.length : Int) = 3 := by simpa using q
  have hpz : ∀ i, (ps.getD i []).length ≤ t.size := fun i => by rw [hps]; have := piece_size (c := 58) t.data.toList i; rw [szl] at this; exact this
  conv => whnf
  refine ⟨by decide, by omega, by rw [encS_len]; omega, ?_⟩
  conv => whnf
  refine ⟨_, encS_at ps (i := 0) rfl (by omega), ?_⟩
  conv => whnf
  refine .mk _ _ false Tryd.call33 (l5Cuts_ok (mkS (ps.getD 0 [])) (by rw [mkS_size]; have := hpz 0; omega) 47) (Nat.le_of_ble_eq_true rfl) (.inl rfl) ?_
  conv => whnf
  rw [mkS_list]
  obtain ⟨qs, hqs⟩ : ∃ qs, qs = cuts 47 (ps.getD 0 []) := ⟨_, rfl⟩
  rw [← hqs]
  split
  · rename_i q2
    have q2' : ¬ (qs.length : Int) = 2 := bne_iff_ne.1 q2
    obtain rfl := noneP ho fun p h => by
      have := h.c58
      rw [← hps] at this
      rw [this] at hqs
      have e : qs = [dl p.l, dl p.s] := by rw [hqs]; exact h.c47
      rw [e] at q2'
      exact q2' rfl
    conv => whnf
    refine ⟨⟨⟨by decide +kernel, Nat.le_of_ble_eq_true rfl⟩, trivial⟩, ?_⟩
    conv => whnf
    exact ⟨rfl, rfl⟩
  rename_i q2
  have q2' : (qs.length : Int) = 2 := by simpa using q2
  have hqz : ∀ i, (qs.getD i []).length ≤ t.size := fun i => by
    rw [hqs]
    have := piece_size (c := 47) (ps.getD 0 []) i
    have := hpz 0
    omega
  conv => whnf
  refine VDraw.goR [0, 1, 3, 7, 0, 16, 48, 127, 0, 256, 768, 2047, 0, 4096, 12288, 32767, 65535, 0, 262143] [3, 7, 11, 15, 17, 18] [(18, [17])] [] rfl (by decide +kernel) ?_
  conv => whnf
  refine ⟨by decide, by omega, by rw [encS_len]; omega, ?_⟩
  conv => whnf
  refine ⟨_, encS_at qs (i := 0) rfl (by omega), ?_⟩
  conv => whnf
  refine .mk _ _ false Tryd.call34 (l5Num_ok (mkS (qs.getD 0 [])) (by rw [mkS_size]; have := hqz 0; omega)) (Nat.le_of_ble_eq_true rfl) (.inl rfl) ?_
  conv => whnf
  refine ⟨by decide, by omega, by rw [encS_len]; omega, ?_⟩
  conv => whnf
  refine ⟨_, encS_at qs (i := 1) rfl (by omega), ?_⟩
  conv => whnf
  refine .mk _ _ false Tryd.call34 (l5Num_ok (mkS (qs.getD 1 [])) (by rw [mkS_size]; have := hqz 1; omega)) (Nat.le_of_ble_eq_true rfl) (.inl rfl) ?_
  conv => whnf
  refine ⟨by decide, by omega, by rw [encS_len]; omega, ?_⟩
  conv => whnf
  refine ⟨_, encS_at ps (i := 1) rfl (by omega), ?_⟩
  conv => whnf
  have hg1 := l5Nums_ok (mkS (ps.getD 1 [])) (by rw [mkS_size]; have := hpz 1; omega)
  have hg2 := l5Nums_ok (mkS (ps.getD 2 [])) (by rw [mkS_size]; have := hpz 2; omega)
  rw [mkS_list] at hg1 hg2
  obtain ⟨W, hW⟩ : ∃ W, W = ((cuts 44 (ps.getD 1 [])).take 4).map nS := ⟨_, rfl⟩
  obtain ⟨G, hG⟩ : ∃ G, G = ((cuts 44 (ps.getD 2 [])).take 4).map nS := ⟨_, rfl⟩
  have hWl : ((cuts 44 (ps.getD 1 [])).take 4).length = W.length := by rw [hW, List.length_map]
  have hGl : ((cuts 44 (ps.getD 2 [])).take 4).length = G.length := by rw [hG, List.length_map]
  have hW4 : W.length ≤ 4 := by rw [← hWl, List.length_take]; omega
  rw [hWl, ← hW] at hg1
  rw [hGl, ← hG] at hg2
  refine .mk _ _ false Tryd.call51 hg1 (Nat.le_of_ble_eq_true rfl) (.inl rfl) ?_
  conv => whnf
  refine ⟨by decide, by omega, by rw [encS_len]; omega, ?_⟩
  conv => whnf
  refine ⟨_, encS_at ps (i := 2) rfl (by omega), ?_⟩
  conv => whnf
  refine .mk _ _ false Tryd.call51 hg2 (Nat.le_of_ble_eq_true rfl) (.inl rfl) ?_
  conv => whnf
  refine ⟨len_all rfl, len_all rfl, ?_⟩
  rw [take_all rfl, take_all rfl]
  obtain ⟨b, hb⟩ := pok_ex (nS (qs.getD 0 [])) (nS (qs.getD 1 [])) W G
  refine .mk _ _ false Tryd.call25 (specPW_ok (nS (qs.getD 0 [])) (nS (qs.getD 1 [])) W G (by omega) b hb) (Nat.le_of_ble_eq_true rfl) (.inr ⟨AV.nsB_iff rfl, fun k hk => by cases hk⟩) ?_
  conv => whnf
  have hpar : parseP nS t = ⟨nS (qs.getD 0 []), nS (qs.getD 1 []), W, G⟩ := by
    unfold parseP
    rw [← hps]
    show RPlan.mk (nS ((cuts 47 (ps.getD 0 [])).getD 0 [])) (nS ((cuts 47 (ps.getD 0 [])).getD 1 [])) _ _ = _
    rw [← hqs, hW, hG]
  by_cases hR : ReadsP t ⟨nS (qs.getD 0 []), nS (qs.getD 1 []), W, G⟩
  · obtain rfl := (ho _).2 hR
    obtain rfl : b = true := hb.2 hR.ok
    rw [str_t (show pw true (nS (qs.getD 0 [])) (nS (qs.getD 1 [])) W G = t from hR.wr)]
    conv => whnf
    refine ⟨⟨⟨by decide +kernel, Nat.le_of_ble_eq_true rfl⟩, trivial⟩, ?_⟩
    conv => whnf
    exact ⟨rfl, rfl⟩
  · obtain rfl := noneP ho fun p h => hR (by
      have := h.parse nS nS_dl
      rw [hpar] at this
      rw [this]
      exact h)
    rw [str_f (pw_ne hb hps q' hR)]
    conv => whnf
    refine ⟨⟨⟨by decide +kernel, Nat.le_of_ble_eq_true rfl⟩, trivial⟩, ?_⟩
    conv => whnf
    exact ⟨rfl, rfl⟩
end Go.Abs.D

set_option linter.unusedSimpArgs false
set_option linter.unusedVariables false
namespace Go.Abs.D
open Go Go.Abs Go.Proofs Go.RowKit
attribute [local irreducible] IntKind.wrap
def A47 (ps : List (List UInt8)) : ByteArray := cutA 47 (mkS (ps.getD 0 []))
def B47 (ps : List (List UInt8)) : ByteArray := cutB 47 (mkS (ps.getD 0 []))
def parseI (t : ByteArray) : RPlan :=
  let ps := cuts 58 t.data.toList
  ⟨numI (A47 ps), numI (B47 ps), (cuts 44 (ps.getD 1 [])).map nI, (cuts 44 (ps.getD 2 [])).map nI⟩
theorem ReadsP.parseI {t : ByteArray} {p : RPlan} (h : ReadsP t p) : parseI t = p := by
  have h1 := h.ok.l1; have h2 := h.ok.l2; have h3 := h.ok.s1; have h4 := h.ok.s2
  have hi : idx 47 (dl p.l ++ 47 :: dl p.s) = some (dl p.l).length := idx_append (dl_no (by omega) (by decide))
  unfold Go.Abs.D.parseI
  rw [h.c58]
  show RPlan.mk (numI (cutA 47 (mkS (dl p.l ++ 47 :: dl p.s)))) (numI (cutB 47 (mkS (dl p.l ++ 47 :: dl p.s)))) ((cuts 44 (lt p.ws p.ws.length).data.toList).map nI) ((cuts 44 (lt p.gs p.gs.length).data.toList).map nI) = p
  have eA : cutA 47 (mkS (dl p.l ++ 47 :: dl p.s)) = mkS (dl p.l) := by
    unfold cutA
    rw [mkS_list, hi]
    show mkS (List.take _ _) = _
    rw [List.take_left' rfl]
  have eB : cutB 47 (mkS (dl p.l ++ 47 :: dl p.s)) = mkS (dl p.s) := by
    unfold cutB
    rw [mkS_list, hi]
    show mkS (List.drop _ _) = _
    rw [show dl p.l ++ 47 :: dl p.s = (dl p.l ++ [47]) ++ dl p.s by simp, List.drop_left' (by simp)]
  rw [eA, eB, h.cW, h.cG, map_dl h.ok.smallW nI nI_dl, map_dl h.ok.smallG nI nI_dl, numI_dec (by omega) (by omega), numI_dec (by omega) (by omega)]
theorem cutA47_size (s : ByteArray) : (cutA 47 s).size ≤ s.size := by
  unfold cutA
  split
  · rw [mkS_size, List.length_take, szl]; omega
  · exact Nat.le_refl _
theorem cutB47_size (s : ByteArray) : (cutB 47 s).size ≤ s.size := by
  unfold cutB
  split
  · rw [mkS_size, List.length_drop, szl]; omega
  · exact Nat.zero_le _
set_option maxHeartbeats 16000000 in
set_option maxRecDepth 100000 in
theorem implPRead_ok (t : ByteArray) (ht : t.size ≤ 900000) (o : Option RPlan) (ho : ∀ p, o = some p ↔ ReadsP t p) : Good Tryd.prog 20 [vstr t] [] (readPV o) (readPB o) := by
  have hcl : ∀ l : List UInt8, (cuts 44 l).length ≤ l.length + 1 := fun l => by
    rw [cuts_length]; have := List.count_le_length (a := (44 : UInt8)) (l := l); omega
  refine good_e noM Tryd.func20 rfl rfl ?_
  conv => whnf
  refine .mk _ _ false Tryd.call36 (split1_ok t (by omega) 58) (Nat.le_of_ble_eq_true rfl) (.inl rfl) ?_
  conv => whnf
  obtain ⟨ps, hps⟩ : ∃ ps, ps = cuts 58 t.data.toList := ⟨_, rfl⟩
  rw [← hps]
  split
  · rename_i q
    have q' : ¬ (ps.length : Int) = 3 := bne_iff_ne.1 q
    obtain rfl := noneP ho fun p h => by
      have := h.c58
      rw [← hps] at this
      rw [this] at q'
      exact q' rfl
    conv => whnf
    refine ⟨⟨⟨by decide +kernel, Nat.le_of_ble_eq_true rfl⟩, trivial⟩, ?_⟩
    conv => whnf
    exact ⟨rfl, rfl⟩
  rename_i q
  have q' : (ps.length : Int) = 3 := by simpa using q
  have hpz : ∀ i, (ps.getD i []).length ≤ t.size := fun i => by rw [hps]; have := piece_size (c := 58) t.data.toList i; rw [szl] at this; exact this
  conv => whnf
  refine ⟨by decide, by omega, by rw [encS_len]; omega, ?_⟩
  conv => whnf
  refine ⟨_, encS_at ps (i := 0) rfl (by omega), ?_⟩
  conv => whnf
  refine .mk _ _ false Tryd.call35 (cut1_ok (mkS (ps.getD 0 [])) 47 (by rw [mkS_size]; have := hpz 0; omega)) (Nat.le_of_ble_eq_true rfl) (.inl rfl) ?_
  conv => whnf
  refine VDraw.goR [0, 1, 3, 7, 0, 16, 48, 127, 255, 0, 1023] [3, 7, 9, 10] [(10, [9])] [] rfl (by decide +kernel) ?_
  conv => whnf
  refine ⟨by decide, by omega, by rw [encS_len]; omega, ?_⟩
  conv => whnf
  refine ⟨_, encS_at ps (i := 1) rfl (by omega), ?_⟩
  conv => whnf
  have hg1 := listRead_ok (mkS (ps.getD 1 [])) (by rw [mkS_size]; have := hpz 1; omega)
  have hg2 := listRead_ok (mkS (ps.getD 2 [])) (by rw [mkS_size]; have := hpz 2; omega)
  rw [mkS_list] at hg1 hg2
  obtain ⟨W, hW⟩ : ∃ W, W = (cuts 44 (ps.getD 1 [])).map nI := ⟨_, rfl⟩
  obtain ⟨G, hG⟩ : ∃ G, G = (cuts 44 (ps.getD 2 [])).map nI := ⟨_, rfl⟩
  have hWl : (cuts 44 (ps.getD 1 [])).length = W.length := by rw [hW, List.length_map]
  have hGl : (cuts 44 (ps.getD 2 [])).length = G.length := by rw [hG, List.length_map]
  have hW4 : W.length ≤ 1000000 := by rw [← hWl]; have := hcl (ps.getD 1 []); have := hpz 1; omega
  rw [hWl, ← hW] at hg1
  rw [hGl, ← hG] at hg2
  refine .mk _ _ false Tryd.call50 hg1 (Nat.le_of_ble_eq_true rfl) (.inl rfl) ?_
  conv => whnf
  refine ⟨by decide, by omega, by rw [encS_len]; omega, ?_⟩
  conv => whnf
  refine ⟨_, encS_at ps (i := 2) rfl (by omega), ?_⟩
  conv => whnf
  refine .mk _ _ false Tryd.call50 hg2 (Nat.le_of_ble_eq_true rfl) (.inl rfl) ?_
  conv => whnf
  refine .mk _ _ false Tryd.call37 (number_ok (cutA 47 (mkS (ps.getD 0 []))) (by have h1 := cutA47_size (mkS (ps.getD 0 [])); rw [mkS_size] at h1; have := hpz 0; omega)) (Nat.le_of_ble_eq_true rfl) (.inl rfl) ?_
  conv => whnf
  refine .mk _ _ false Tryd.call37 (number_ok (cutB 47 (mkS (ps.getD 0 []))) (by have h1 := cutB47_size (mkS (ps.getD 0 [])); rw [mkS_size] at h1; have := hpz 0; omega)) (Nat.le_of_ble_eq_true rfl) (.inl rfl) ?_
  conv => whnf
  refine ⟨len_all rfl, len_all rfl, ?_⟩
  rw [take_all rfl, take_all rfl]
  obtain ⟨b, hb⟩ := pok_ex (numI (A47 ps)) (numI (B47 ps)) W G
  refine .mk _ _ false Tryd.call23 (implPW_ok (numI (A47 ps)) (numI (B47 ps)) W G (by omega) b hb) (Nat.le_of_ble_eq_true rfl) (.inr ⟨AV.nsB_iff rfl, fun k hk => by cases hk⟩) ?_
  conv => whnf
  have hpar : parseI t = ⟨numI (A47 ps), numI (B47 ps), W, G⟩ := by
    unfold parseI
    rw [← hps, hW, hG]
  by_cases hR : ReadsP t ⟨numI (A47 ps), numI (B47 ps), W, G⟩
  · obtain rfl := (ho _).2 hR
    obtain rfl : b = true := hb.2 hR.ok
    rw [str_t (show pw true (numI (A47 ps)) (numI (B47 ps)) W G = t from hR.wr)]
    conv => whnf
    refine ⟨⟨⟨by decide +kernel, Nat.le_of_ble_eq_true rfl⟩, trivial⟩, ?_⟩
    conv => whnf
    exact ⟨rfl, rfl⟩
  · obtain rfl := noneP ho fun p h => hR (by
      have := h.parseI
      rw [hpar] at this
      rw [this]
      exact h)
    rw [str_f (pw_ne hb hps q' hR)]
    conv => whnf
    refine ⟨⟨⟨by decide +kernel, Nat.le_of_ble_eq_true rfl⟩, trivial⟩, ?_⟩
    conv => whnf
    exact ⟨rfl, rfl⟩
end Go.Abs.D

set_option linter.unusedSimpArgs false
set_option linter.unusedVariables false
namespace Go.Abs.D
open Go Go.Abs Go.Proofs Go.RowKit
attribute [local irreducible] IntKind.wrap
set_option maxHeartbeats 16000000 in
set_option maxRecDepth 100000 in
theorem whInts_same (l : List Int) (hl : l.length ≤ 1000000) : Good Tryd.prog 52 [.one (.p (slI l)), .one (.p (slI l))] [] (vbool true) [] := by
  have hm : (l.map eI).length = l.length := List.length_map ..
  refine good_e noM Tryd.func52 rfl rfl ?_
  conv => whnf
  rw [show ((((l.map eI).length : Nat) : Int) != (((l.map eI).length : Nat) : Int)) = false by simp]
  conv => whnf
  refine VLoop.enter [0, 1, 5] ?_
  conv => whnf
  refine VLoop.ind1 (n0 := 0) (α := Int) noM [0, 1, 5] (fun i => ⟨26, 0, [(0, .one (.p (slI l))), (1, .one (.p (slI l))), (5, vint i)], []⟩)
    (fun i => 0 ≤ i ∧ i ≤ l.length) (fun i => (l.length - i).toNat) ?_ 0 ⟨by omega, by omega⟩
  rintro i ⟨h0, h1⟩
  conv => whnf
  rw [hm]
  split
  · rename_i k
    have k' := of_decide_eq_true k
    conv => whnf
    refine VDraw.goR [0, 0, 3, 7, 0, 0, 48, 112, 255] [] [] [] rfl (by decide +kernel) ?_
    conv => whnf
    refine ⟨h0, by rw [hm]; omega, _, atI l rfl (by omega), ?_⟩
    conv => whnf
    refine ⟨h0, by rw [hm]; omega, _, atI l rfl (by omega), ?_⟩
    conv => whnf
    rw [show (l.getD i.toNat 0 != l.getD i.toNat 0) = false by simp]
    conv => whnf
    have hw : IntKind.i64.wrap (i + 1) = i + 1 := wrap_in _ (by omega) (by omega)
    refine ⟨_, rfl, rfl, ⟨by rw [hw]; omega, by rw [hw]; omega⟩, by rw [hw]; omega⟩
  · conv => whnf
    refine ⟨trivial, ?_⟩
    conv => whnf
    exact ⟨rfl, rfl⟩
set_option maxHeartbeats 16000000 in
set_option maxRecDepth 100000 in
theorem whInts_nil : Good Tryd.prog 52 [.one nilP, .one nilP] [] (vbool true) [] := by
  refine good_e noM Tryd.func52 rfl rfl ?_
  conv => whnf
  refine VLoop.enter [0, 1, 5] ?_
  conv => whnf
  refine VLoop.ind1 (n0 := 0) (α := Int) noM [0, 1, 5] (fun i => ⟨26, 0, [(0, .one nilP), (1, .one nilP), (5, vint i)], []⟩)
    (fun i => i = 0) (fun i => 0) ?_ 0 rfl
  rintro i rfl
  conv => whnf
  refine ⟨trivial, ?_⟩
  conv => whnf
  exact ⟨rfl, rfl⟩
set_option maxHeartbeats 16000000 in
set_option maxRecDepth 100000 in
theorem whPlan_same (l s : Int) (ws gs : List Int) (hw : ws.length ≤ 1000000) (hg : gs.length ≤ 1000000) : Good Tryd.prog 22 [planF l s ws gs, planF l s ws gs] [] (vbool true) [] := by
  refine good_e noM Tryd.func22 rfl rfl ?_
  conv => whnf
  rw [show (l == l) = true by simp]
  conv => whnf
  rw [show (s == s) = true by simp]
  conv => whnf
  refine .mk _ _ false Tryd.call52 (whInts_same ws hw) (Nat.le_of_ble_eq_true rfl) (.inl rfl) ?_
  conv => whnf
  refine .mk _ _ false Tryd.call52 (whInts_same gs hg) (Nat.le_of_ble_eq_true rfl) (.inl rfl) ?_
  conv => whnf
  refine ⟨trivial, ?_⟩
  conv => whnf
  exact ⟨rfl, rfl⟩
set_option maxHeartbeats 16000000 in
set_option maxRecDepth 100000 in
theorem whPlan_nil (l s : Int) : Good Tryd.prog 22 [.agg [.p (.lit (.int .i64 l)), .p (.lit (.int .i64 s)), nilP, nilP], .agg [.p (.lit (.int .i64 l)), .p (.lit (.int .i64 s)), nilP, nilP]] [] (vbool true) [] := by
  refine good_e noM Tryd.func22 rfl rfl ?_
  conv => whnf
  rw [show (l == l) = true by simp]
  conv => whnf
  rw [show (s == s) = true by simp]
  conv => whnf
  refine .mk _ _ false Tryd.call52 whInts_nil (Nat.le_of_ble_eq_true rfl) (.inl rfl) ?_
  conv => whnf
  refine .mk _ _ false Tryd.call52 whInts_nil (Nat.le_of_ble_eq_true rfl) (.inl rfl) ?_
  conv => whnf
  refine ⟨trivial, ?_⟩
  conv => whnf
  exact ⟨rfl, rfl⟩
set_option maxHeartbeats 16000000 in
set_option maxRecDepth 100000 in
theorem l15Flag_ok (b : Bool) : Good Tryd.prog 49 [vbool b] [] (vint (match b with | true => 1 | false => 0)) [] := by
  refine good_e noM Tryd.func49 rfl rfl ?_
  conv => whnf
  cases b with
  | true =>
    conv => whnf
    refine ⟨trivial, ?_⟩
    conv => whnf
    exact ⟨rfl, rfl⟩
  | false =>
    conv => whnf
    refine ⟨trivial, ?_⟩
    conv => whnf
    exact ⟨rfl, rfl⟩
set_option maxHeartbeats 16000000 in
set_option maxRecDepth 100000 in
theorem drawPRead_ok (bs : List Int) (hb : ∀ x ∈ bs, 0 ≤ x ∧ x ≤ 255) (hl : bs.length ≤ 9223372036854775807) : ∃ r out, (∃ s : ByteArray, s.size ≤ 1000 ∧ r = vstr s ∧ out = []) ∧ Good Tryd.prog 19 [.one (.p (.sl (bs.map encU)))] [] r out := by
  refine good_v noM Tryd.func19 rfl rfl ?_
  conv => whnf
  obtain ⟨_, _, ⟨bs', hb', rfl, rfl⟩, hg⟩ := l1Open_ok bs hb hl
  refine .mk _ _ false Tryd.call39 hg (Nat.le_of_ble_eq_true rfl) (.inl rfl) ?_
  conv => whnf
  obtain ⟨_, _, ⟨l, s, ws, gs, gs', n, m, q, hp, hn, hm, hgs, hml, hq1, hq2, rfl, rfl⟩, hg5⟩ := l15Plan_ok bs' 0 hb' (by omega) (by omega)
  refine .mk _ _ false Tryd.call47 hg5 (Nat.le_of_ble_eq_true rfl) (.inl rfl) ?_
  conv => whnf
  refine ⟨len_all hn, by rw [List.length_map]; omega, ?_⟩
  rw [take_all hn, show List.take m (List.drop 0 (gs'.map eI)) = gs.map eI by rw [List.drop_zero, ← List.map_take, ← hgs]]
  refine .mk _ _ false Tryd.call25 (specPW_ok l s ws gs (by have := hp.w2; omega) true ⟨fun _ => hp, fun _ => rfl⟩) (Nat.le_of_ble_eq_true rfl) (.inr ⟨AV.nsB_iff rfl, fun k hk => by cases hk⟩) ?_
  conv => whnf
  obtain ⟨t, ht⟩ : ∃ t, t = pw true l s ws gs := ⟨_, rfl⟩
  have htz : t.size ≤ 49 := by rw [ht]; exact ptext_size hp
  rw [← ht]
  obtain ⟨_, _, ⟨v, hv0, hv1, rfl, rfl⟩, hg2⟩ := pick_ok bs' q 3 hb'.rng hb'.len (by omega) (by omega) (by omega) (by omega)
  refine .mk _ _ false Tryd.call41 hg2 (Nat.le_of_ble_eq_true rfl) (.inl rfl) ?_
  conv => whnf
  split
  · conv => whnf
    have hw2 : IntKind.i64.wrap ((t.size : Int) + 1) = (t.size : Int) + 1 := wrap_in _ (by omega) (by omega)
    rw [hw2]
    obtain ⟨_, _, ⟨v4, hv40, hv41, rfl, rfl⟩, hg4⟩ := pick_ok bs' (q + 1) ((t.size : Int) + 1) hb'.rng hb'.len (by omega) (by omega) (by omega) (by omega)
    refine .mk _ _ false Tryd.call41 hg4 (Nat.le_of_ble_eq_true rfl) (.inl rfl) ?_
    conv => whnf
    refine VDraw.goR [0, 0, 3, 0, 0, 24, 63, 0, 0, 0, 568, 0, 0, 4096, 14336, 32312, 65080, 130872, 262072, 524287, 1048575] [4, 5, 10, 15] [(5, [4])] [(5, [16]), (10, [16])] rfl (by decide +kernel) ?_
    conv => whnf
    refine ⟨⟨by omega, by omega, by omega⟩, ?_⟩
    conv => whnf
    refine ⟨Nat.le_refl 6, ?_⟩
    conv => whnf
    obtain ⟨_, _, ⟨f, hf, rfl, rfl⟩, hg6⟩ := of_ok bs' (q + 1 + 1) [⟨#[48]⟩, ⟨#[58]⟩, ⟨#[44]⟩, ⟨#[47]⟩, ⟨#[49]⟩, ⟨#[]⟩] hb' (by omega) (by omega) (by decide) (by decide)
    have hfz : f.size ≤ 1 := by
      simp only [List.mem_cons, List.not_mem_nil, or_false] at hf
      rcases hf with rfl | rfl | rfl | rfl | rfl | rfl <;> decide
    refine .mk _ _ true Tryd.call48 hg6 (Nat.le_of_ble_eq_true rfl) (fun b hb => by cases List.mem_singleton.1 hb; exact Nat.le_of_ble_eq_true rfl) ?_
    conv => whnf
    have hez : (t.extract (Int.toNat 0) v4.toNat).size ≤ 49 := by rw [ByteArray.size_extract]; omega
    rw [abin_cat (a := _) (b := _) rfl rfl (by omega)]
    conv => whnf
    obtain ⟨_, _, ⟨v5, hv50, hv51, rfl, rfl⟩, hg7⟩ := pick_ok bs' (q + 1 + 1 + 1) 2 hb'.rng hb'.len (by omega) (by omega) (by omega) (by omega)
    refine .mk _ _ false Tryd.call41 hg7 (Nat.le_of_ble_eq_true rfl) (.inl rfl) ?_
    conv => whnf
    refine .mk _ _ false Tryd.call49 (l15Flag_ok _) (Nat.le_of_ble_eq_true rfl) (.inl rfl) ?_
    conv => whnf
    obtain ⟨V, hV⟩ : ∃ V, V = IntKind.i64.wrap (v4 + IntKind.i64.wrap (v5 * (match decide (v4 < (t.size : Int)) with | true => 1 | false => 0))) := ⟨_, rfl⟩
    have hV2 : 0 ≤ V ∧ V ≤ t.size := by
      rw [hV]
      cases hd : decide (v4 < (t.size : Int)) with
      | true =>
        have hd' := of_decide_eq_true hd
        show 0 ≤ IntKind.i64.wrap (v4 + IntKind.i64.wrap (v5 * 1)) ∧ IntKind.i64.wrap (v4 + IntKind.i64.wrap (v5 * 1)) ≤ _
        rw [Int.mul_one, wrap_in v5 (by omega) (by omega), wrap_in (v4 + v5) (by omega) (by omega)]
        omega
      | false =>
        show 0 ≤ IntKind.i64.wrap (v4 + IntKind.i64.wrap (v5 * 0)) ∧ IntKind.i64.wrap (v4 + IntKind.i64.wrap (v5 * 0)) ≤ _
        rw [Int.mul_zero, wrap_in 0 (by omega) (by omega), Int.add_zero, wrap_in v4 (by omega) (by omega)]
        omega
    rw [← hV]
    refine ⟨⟨hV2.1, hV2.2, Int.le_refl _⟩, ?_⟩
    conv => whnf
    have hez2 : (t.extract V.toNat ((t.size : Int)).toNat).size ≤ 49 := by rw [ByteArray.size_extract]; omega
    rw [abin_cat (a := _) (b := _) rfl rfl (by rw [ByteArray.size_append]; omega)]
    conv => whnf
    refine ⟨trivial, ?_⟩
    conv => whnf
    refine ⟨_, ?_, rfl, rfl⟩
    show (t.extract (Int.toNat 0) v4.toNat ++ f ++ t.extract V.toNat ((t.size : Int)).toNat).size ≤ _
    rw [ByteArray.size_append, ByteArray.size_append]
    omega
  · conv => whnf
    refine ⟨trivial, ?_⟩
    conv => whnf
    exact ⟨t, by omega, rfl, rfl⟩
end Go.Abs.D

set_option linter.unusedSimpArgs false
set_option linter.unusedVariables false
namespace Go.Abs.D
open Go Go.Abs Go.Proofs Go.RowKit
attribute [local irreducible] IntKind.wrap
theorem by3a {n : Nat} (h : n ≤ 1099511627777) : n * (Tryd.prog.bytesOf 3 + 1) ≤ 140737488355328 := app3 h
theorem eI_len (l : List Int) : ∀ el ∈ l.map eI, el.length = 1 := fun el h => by obtain ⟨x, _, rfl⟩ := List.mem_map.1 h; rfl
set_option maxHeartbeats 16000000 in
set_option maxRecDepth 100000 in
theorem l6Plan_ok (l s : Int) (ws gs : List Int) (hw : ws.length ≤ 1000000) (hg : gs.length ≤ 1000000) : Good Tryd.prog 78 [planF l s ws gs] [] (.agg [.p (.lit (.int .i64 l)), .p (.lit (.int .i64 s)), .hs 0 0 ws.length, .hs 1 0 gs.length]) [.arr 1 (ws.map eI), .arr 1 (gs.map eI)] := by
  refine good_e noM Tryd.func78 rfl rfl ?_
  conv => whnf
  refine ⟨⟨rfl, rfl, rfl⟩, trivial, ?_⟩
  conv => whnf
  refine ⟨(fun q => by cases q), app3 (by rw [List.length_replicate, List.length_map]; omega), eI_len ws, ?_⟩
  conv => whnf
  refine ⟨⟨rfl, rfl, rfl⟩, trivial, ?_⟩
  conv => whnf
  refine ⟨(fun q => by cases q), app3 (by rw [List.length_replicate, List.length_map]; omega), eI_len gs, ?_⟩
  conv => whnf
  refine ⟨⟨⟨by decide +kernel, Nat.le_of_ble_eq_true rfl⟩, trivial⟩, ?_⟩
  conv => whnf
  refine ⟨?_, rfl⟩
  show AV.agg [.p (.lit (.int .i64 l)), .p (.lit (.int .i64 s)), .hs 0 0 (0 + (ws.map eI).length), .hs 1 0 (0 + (gs.map eI).length)] = _
  rw [Nat.zero_add, Nat.zero_add, List.length_map, List.length_map]
/-- A drawn plan, spoilt or not: its rows ours, or its windows none. -/
def PlanA (bs : List Int) (p : Int) (r : AV) (out : List Blk) : Prop := ∃ (l s : Int) (ws gs : List Int) (q : Int), l ≤ 1000 ∧ -1000 ≤ l ∧ s ≤ 1000 ∧ -1000 ≤ s ∧ ws.length ≤ 10 ∧ gs.length ≤ 10 ∧ p ≤ q ∧ q ≤ p + 10 ∧
  ((r = .agg [.p (.lit (.int .i64 l)), .p (.lit (.int .i64 s)), .hs 1 0 ws.length, .hs 2 0 gs.length] ∧ out = [rdB bs q, .arr 1 (ws.map eI), .arr 1 (gs.map eI)]) ∨
   (ws = [] ∧ r = .agg [.p (.lit (.int .i64 l)), .p (.lit (.int .i64 s)), nilP, .hs 1 0 gs.length] ∧ out = [rdB bs q, .arr 1 (gs.map eI)]))
set_option maxHeartbeats 16000000 in
set_option maxRecDepth 100000 in
theorem l15Spoil_ok (bs : List Int) (p : Int) (hb : Bytes bs) (h0 : 0 ≤ p) (h1 : p < 900000) (l s : Int) (ws gs : List Int) (hp : POk l s ws gs) : ∃ r out, PlanA bs p r out ∧ Good Tryd.prog 67 [.one (.hp 0 0 0), planF l s ws gs] [rdB bs p] r out := by
  have e1 := hp.l1; have e2 := hp.l2; have e3 := hp.s1; have e4 := hp.s2; have e5 := hp.w1; have e6 := hp.w2; have e7 := hp.g
  refine good_v noM Tryd.func67 rfl rfl ?_
  conv => whnf
  refine .mk _ _ false Tryd.call78 (l6Plan_ok l s ws gs (by omega) (by omega)) (Nat.le_of_ble_eq_true rfl) (.inl rfl) ?_
  conv => whnf
  obtain ⟨_, _, ⟨v, hv0, hv1, rfl, rfl⟩, hg⟩ := pick_ok bs p 6 hb.rng hb.len h0 (by omega) (by omega) (by omega)
  refine .mk _ _ false Tryd.call41 hg (Nat.le_of_ble_eq_true rfl) (.inl rfl) ?_
  conv => whnf
  have hv : v = 0 ∨ v = 1 ∨ v = 2 ∨ v = 3 ∨ v = 4 ∨ v = 5 := by omega
  rcases hv with rfl | rfl | rfl | rfl | rfl | rfl
  · have hwl : IntKind.i64.wrap (l + 20) = l + 20 := wrap_in _ (by omega) (by omega)
    conv => whnf
    refine VDraw.goR [0, 1, 3, 7, 0, 16, 63, 127, 255, 511] [3, 5, 9] [] [(5, [0]), (9, [33])] rfl (by decide +kernel) ?_
    conv => whnf
    rw [hwl]
    obtain ⟨_, _, ⟨v2, hv20, hv21, rfl, rfl⟩, hg2⟩ := pick_ok bs (p + 1) 3 hb.rng hb.len (by omega) (by omega) (by omega) (by omega)
    refine .mk _ _ false Tryd.call41 hg2 (Nat.le_of_ble_eq_true rfl) (.inl rfl) ?_
    conv => whnf
    have hv2 : v2 = 0 ∨ v2 = 1 ∨ v2 = 2 := by omega
    rcases hv2 with rfl | rfl | rfl
    · refine ⟨by decide, by decide, Nat.le_refl 3, ?_⟩
      conv => whnf
      refine ⟨_, rfl, ?_⟩
      conv => whnf
      refine ⟨⟨⟨by decide +kernel, Nat.le_of_ble_eq_true rfl⟩, trivial⟩, ?_⟩
      conv => whnf
      exact ⟨0, s, ws, gs, p + 1 + 1, by omega, by omega, by omega, by omega, by omega, by omega, by omega, by omega, .inl ⟨rfl, rfl⟩⟩
    · refine ⟨by decide, by decide, Nat.le_refl 3, ?_⟩
      conv => whnf
      refine ⟨_, rfl, ?_⟩
      conv => whnf
      refine ⟨⟨⟨by decide +kernel, Nat.le_of_ble_eq_true rfl⟩, trivial⟩, ?_⟩
      conv => whnf
      exact ⟨301, s, ws, gs, p + 1 + 1, by omega, by omega, by omega, by omega, by omega, by omega, by omega, by omega, .inl ⟨rfl, rfl⟩⟩
    · refine ⟨by decide, by decide, Nat.le_refl 3, ?_⟩
      conv => whnf
      refine ⟨_, rfl, ?_⟩
      conv => whnf
      refine ⟨⟨⟨by decide +kernel, Nat.le_of_ble_eq_true rfl⟩, trivial⟩, ?_⟩
      conv => whnf
      exact ⟨(l + 20), s, ws, gs, p + 1 + 1, by omega, by omega, by omega, by omega, by omega, by omega, by omega, by omega, .inl ⟨rfl, rfl⟩⟩
  · conv => whnf
    obtain ⟨_, _, ⟨v2, hv20, hv21, rfl, rfl⟩, hg2⟩ := pick_ok bs (p + 1) 3 hb.rng hb.len (by omega) (by omega) (by omega) (by omega)
    refine .mk _ _ false Tryd.call41 hg2 (Nat.le_of_ble_eq_true rfl) (.inl rfl) ?_
    conv => whnf
    have hv2 : v2 = 0 ∨ v2 = 1 ∨ v2 = 2 := by omega
    rcases hv2 with rfl | rfl | rfl
    · refine ⟨by decide, by decide, Nat.le_refl 3, ?_⟩
      conv => whnf
      refine ⟨_, rfl, ?_⟩
      conv => whnf
      refine ⟨⟨⟨by decide +kernel, Nat.le_of_ble_eq_true rfl⟩, trivial⟩, ?_⟩
      conv => whnf
      exact ⟨l, 0, ws, gs, p + 1 + 1, by omega, by omega, by omega, by omega, by omega, by omega, by omega, by omega, .inl ⟨rfl, rfl⟩⟩
    · refine ⟨by decide, by decide, Nat.le_refl 3, ?_⟩
      conv => whnf
      refine ⟨_, rfl, ?_⟩
      conv => whnf
      refine ⟨⟨⟨by decide +kernel, Nat.le_of_ble_eq_true rfl⟩, trivial⟩, ?_⟩
      conv => whnf
      exact ⟨l, 17, ws, gs, p + 1 + 1, by omega, by omega, by omega, by omega, by omega, by omega, by omega, by omega, .inl ⟨rfl, rfl⟩⟩
    · refine ⟨by decide, by decide, Nat.le_refl 3, ?_⟩
      conv => whnf
      refine ⟨_, rfl, ?_⟩
      conv => whnf
      refine ⟨⟨⟨by decide +kernel, Nat.le_of_ble_eq_true rfl⟩, trivial⟩, ?_⟩
      conv => whnf
      exact ⟨l, 1, ws, gs, p + 1 + 1, by omega, by omega, by omega, by omega, by omega, by omega, by omega, by omega, .inl ⟨rfl, rfl⟩⟩
  · conv => whnf
    refine VDraw.goR [0, 1, 0, 0, 8, 24, 60, 0, 0, 380, 1020, 2044, 4095, 8191] [6, 7, 9, 13] [] [(6, [0]), (9, [0]), (13, [25])] rfl (by decide +kernel) ?_
    conv => whnf
    obtain ⟨_, _, ⟨v2, hv20, hv21, rfl, rfl⟩, hg2⟩ := pick_ok bs (p + 1) (ws.length : Int) hb.rng hb.len (by omega) (by omega) (by omega) (by omega)
    refine .mk _ _ false Tryd.call41 hg2 (Nat.le_of_ble_eq_true rfl) (.inl rfl) ?_
    conv => whnf
    obtain ⟨_, _, ⟨v3, hv30, hv31, rfl, rfl⟩, hg3⟩ := pick_ok bs (p + 1 + 1) 3 hb.rng hb.len (by omega) (by omega) (by omega) (by omega)
    refine .mk _ _ false Tryd.call41 hg3 (Nat.le_of_ble_eq_true rfl) (.inl rfl) ?_
    conv => whnf
    have hm : (ws.map eI).length = ws.length := List.length_map ..
    have hv3 : v3 = 0 ∨ v3 = 1 ∨ v3 = 2 := by omega
    rcases hv3 with rfl | rfl | rfl
    · refine ⟨by decide, by decide, Nat.le_refl 3, ?_⟩
      conv => whnf
      refine ⟨_, rfl, ?_⟩
      conv => whnf
      refine ⟨by omega, by omega, by rw [hm]; omega, ?_⟩
      conv => whnf
      refine ⟨_, atI ws (i := v2.toNat) (by omega) (by omega), by rw [hm]; omega, ?_⟩
      conv => whnf
      refine ⟨⟨⟨by decide +kernel, Nat.le_of_ble_eq_true rfl⟩, trivial⟩, ?_⟩
      conv => whnf
      refine ⟨l, s, (ws.set v2.toNat 0), gs, p + 1 + 1 + 1, by omega, by omega, by omega, by omega, by first | omega | (rw [List.length_set]; omega), by first | omega | (rw [List.length_set]; omega), by omega, by omega, .inl ⟨?_, ?_⟩⟩
      · rw [List.length_set]; rfl
      · rw [List.map_set, show 0 + v2.toNat = v2.toNat by omega]; rfl
    · refine ⟨by decide, by decide, Nat.le_refl 3, ?_⟩
      conv => whnf
      refine ⟨_, rfl, ?_⟩
      conv => whnf
      refine ⟨by omega, by omega, by rw [hm]; omega, ?_⟩
      conv => whnf
      refine ⟨_, atI ws (i := v2.toNat) (by omega) (by omega), by rw [hm]; omega, ?_⟩
      conv => whnf
      refine ⟨⟨⟨by decide +kernel, Nat.le_of_ble_eq_true rfl⟩, trivial⟩, ?_⟩
      conv => whnf
      refine ⟨l, s, (ws.set v2.toNat 1), gs, p + 1 + 1 + 1, by omega, by omega, by omega, by omega, by first | omega | (rw [List.length_set]; omega), by first | omega | (rw [List.length_set]; omega), by omega, by omega, .inl ⟨?_, ?_⟩⟩
      · rw [List.length_set]; rfl
      · rw [List.map_set, show 0 + v2.toNat = v2.toNat by omega]; rfl
    · refine ⟨by decide, by decide, Nat.le_refl 3, ?_⟩
      conv => whnf
      refine ⟨_, rfl, ?_⟩
      conv => whnf
      refine ⟨by omega, by omega, by rw [hm]; omega, ?_⟩
      conv => whnf
      refine ⟨_, atI ws (i := v2.toNat) (by omega) (by omega), by rw [hm]; omega, ?_⟩
      conv => whnf
      refine ⟨⟨⟨by decide +kernel, Nat.le_of_ble_eq_true rfl⟩, trivial⟩, ?_⟩
      conv => whnf
      refine ⟨l, s, (ws.set v2.toNat 25), gs, p + 1 + 1 + 1, by omega, by omega, by omega, by omega, by first | omega | (rw [List.length_set]; omega), by first | omega | (rw [List.length_set]; omega), by omega, by omega, .inl ⟨?_, ?_⟩⟩
      · rw [List.length_set]; rfl
      · rw [List.map_set, show 0 + v2.toNat = v2.toNat by omega]; rfl
  · conv => whnf
    refine VDraw.goR [0, 1, 0, 0, 8, 24, 60, 0, 0, 380, 1020, 2044, 4095, 8191] [6, 7, 9, 13] [] [(6, [0]), (9, [0]), (13, [26])] rfl (by decide +kernel) ?_
    conv => whnf
    obtain ⟨_, _, ⟨v2, hv20, hv21, rfl, rfl⟩, hg2⟩ := pick_ok bs (p + 1) (gs.length : Int) hb.rng hb.len (by omega) (by omega) (by omega) (by omega)
    refine .mk _ _ false Tryd.call41 hg2 (Nat.le_of_ble_eq_true rfl) (.inl rfl) ?_
    conv => whnf
    obtain ⟨_, _, ⟨v3, hv30, hv31, rfl, rfl⟩, hg3⟩ := pick_ok bs (p + 1 + 1) 2 hb.rng hb.len (by omega) (by omega) (by omega) (by omega)
    refine .mk _ _ false Tryd.call41 hg3 (Nat.le_of_ble_eq_true rfl) (.inl rfl) ?_
    conv => whnf
    have hm : (gs.map eI).length = gs.length := List.length_map ..
    have hv3 : v3 = 0 ∨ v3 = 1 := by omega
    rcases hv3 with rfl | rfl
    · refine ⟨by decide, by decide, Nat.le_refl 2, ?_⟩
      conv => whnf
      refine ⟨_, rfl, ?_⟩
      conv => whnf
      refine ⟨by omega, by omega, by rw [hm]; omega, ?_⟩
      conv => whnf
      refine ⟨_, atI gs (i := v2.toNat) (by omega) (by omega), by rw [hm]; omega, ?_⟩
      conv => whnf
      refine ⟨⟨⟨by decide +kernel, Nat.le_of_ble_eq_true rfl⟩, trivial⟩, ?_⟩
      conv => whnf
      refine ⟨l, s, ws, (gs.set v2.toNat 0), p + 1 + 1 + 1, by omega, by omega, by omega, by omega, by first | omega | (rw [List.length_set]; omega), by first | omega | (rw [List.length_set]; omega), by omega, by omega, .inl ⟨?_, ?_⟩⟩
      · rw [List.length_set]; rfl
      · rw [List.map_set, show 0 + v2.toNat = v2.toNat by omega]; rfl
    · refine ⟨by decide, by decide, Nat.le_refl 2, ?_⟩
      conv => whnf
      refine ⟨_, rfl, ?_⟩
      conv => whnf
      refine ⟨by omega, by omega, by rw [hm]; omega, ?_⟩
      conv => whnf
      refine ⟨_, atI gs (i := v2.toNat) (by omega) (by omega), by rw [hm]; omega, ?_⟩
      conv => whnf
      refine ⟨⟨⟨by decide +kernel, Nat.le_of_ble_eq_true rfl⟩, trivial⟩, ?_⟩
      conv => whnf
      refine ⟨l, s, ws, (gs.set v2.toNat 100), p + 1 + 1 + 1, by omega, by omega, by omega, by omega, by first | omega | (rw [List.length_set]; omega), by first | omega | (rw [List.length_set]; omega), by omega, by omega, .inl ⟨?_, ?_⟩⟩
      · rw [List.length_set]; rfl
      · rw [List.map_set, show 0 + v2.toNat = v2.toNat by omega]; rfl
  · conv => whnf
    refine ⟨⟨rfl, (List.length_map ..).symm, rfl⟩, Nat.le_refl 1, ?_⟩
    conv => whnf
    refine ⟨(fun q => by cases q), app3 (by rw [List.length_map]; show gs.length + 1 ≤ _; omega), (fun el hel => by cases List.mem_singleton.1 hel; rfl), ?_⟩
    conv => whnf
    refine ⟨⟨⟨by decide +kernel, Nat.le_of_ble_eq_true rfl⟩, trivial⟩, ?_⟩
    conv => whnf
    refine ⟨l, s, ws, gs ++ [1], p + 1, by omega, by omega, by omega, by omega, by omega, by rw [List.length_append]; show gs.length + 1 ≤ _; omega, by omega, by omega, .inl ⟨?_, ?_⟩⟩
    · rw [List.length_append]
      show AV.agg [.p (.lit (.int .i64 l)), .p (.lit (.int .i64 s)), .hs 1 0 ws.length, .hs 2 0 ((gs.map eI).length + 1)] = _
      rw [List.length_map]; rfl
    · rw [List.map_append]; rfl
  · conv => whnf
    refine ⟨⟨⟨by decide +kernel, Nat.le_of_ble_eq_true rfl⟩, trivial⟩, ?_⟩
    conv => whnf
    exact ⟨l, s, [], gs, p + 1, by omega, by omega, by omega, by omega, Nat.zero_le _, by omega, by omega, by omega, .inr ⟨rfl, rfl, rfl⟩⟩
end Go.Abs.D

set_option linter.unusedSimpArgs false
set_option linter.unusedVariables false
namespace Go.Abs.D
open Go Go.Abs Go.Proofs Go.RowKit
attribute [local irreducible] IntKind.wrap
def PlanB (bs : List Int) (p : Int) (r : AV) (out : List Blk) : Prop := ∃ (l s : Int) (ws gs gs' : List Int) (q : Int), ws.length ≤ 10 ∧ gs.length ≤ 10 ∧ p ≤ q ∧ q ≤ p + 30 ∧ gs = gs'.take gs.length ∧ gs.length ≤ gs'.length ∧
  ((r = .agg [.p (.lit (.int .i64 l)), .p (.lit (.int .i64 s)), .hs 1 0 ws.length, .hs 2 0 gs.length] ∧ out = [rdB bs q, .arr 1 (ws.map eI), .arr 1 (gs'.map eI)]) ∨
   (ws = [] ∧ r = .agg [.p (.lit (.int .i64 l)), .p (.lit (.int .i64 s)), nilP, .hs 1 0 gs.length] ∧ out = [rdB bs q, .arr 1 (gs'.map eI)]))
def PlanW (r : AV) (out : List Blk) : Prop := ∃ (l s : Int) (ws gs gs' : List Int), ws.length ≤ 10 ∧ gs.length ≤ 10 ∧ gs = gs'.take gs.length ∧ gs.length ≤ gs'.length ∧
  ((r = .agg [.p (.lit (.int .i64 l)), .p (.lit (.int .i64 s)), .hs 0 0 ws.length, .hs 1 0 gs.length] ∧ out = [.arr 1 (ws.map eI), .arr 1 (gs'.map eI)]) ∨
   (ws = [] ∧ r = .agg [.p (.lit (.int .i64 l)), .p (.lit (.int .i64 s)), nilP, .hs 0 0 gs.length] ∧ out = [.arr 1 (gs'.map eI)]))
set_option maxHeartbeats 16000000 in
set_option maxRecDepth 100000 in
theorem l15AnyPlan_ok (bs : List Int) (p : Int) (hb : Bytes bs) (h0 : 0 ≤ p) (h1 : p < 800000) : ∃ r out, PlanB bs p r out ∧ Good Tryd.prog 54 [.one (.hp 0 0 0)] [rdB bs p] r out := by
  refine good_v noM Tryd.func54 rfl rfl ?_
  conv => whnf
  obtain ⟨_, _, ⟨l, s, ws, gs, gs', n, m, q, hp, rfl, rfl, hgs, hml, hq1, hq2, rfl, rfl⟩, hg5⟩ := l15Plan_ok bs p hb (by omega) (by omega)
  refine .mk _ _ false Tryd.call47 hg5 (Nat.le_of_ble_eq_true rfl) (.inl rfl) ?_
  conv => whnf
  obtain ⟨_, _, ⟨v, hv0, hv1, rfl, rfl⟩, hg2⟩ := pick_ok bs q 12 hb.rng hb.len (by omega) (by omega) (by omega) (by omega)
  refine .mk _ _ false Tryd.call41 hg2 (Nat.le_of_ble_eq_true rfl) (.inl rfl) ?_
  conv => whnf
  have e6 := hp.w2
  have e7 := hp.g
  split
  · conv => whnf
    refine ⟨len_all rfl, by rw [List.length_map]; omega, ?_⟩
    rw [take_all rfl, show List.take gs.length (List.drop 0 (gs'.map eI)) = gs.map eI by rw [List.drop_zero, ← List.map_take, ← hgs]]
    obtain ⟨_, _, ⟨l2, s2, ws2, gs2, q2, b1, b2, b3, b4, b5, b6, b7, b8, h⟩, hg6⟩ := l15Spoil_ok bs (q + 1) hb (by omega) (by omega) l s ws gs hp
    rcases h with ⟨rfl, rfl⟩ | ⟨rfl, rfl, rfl⟩
    · refine .mk _ _ true Tryd.call67 hg6 (Nat.le_of_ble_eq_true rfl) (fun b hb => by
        simp only [List.nil_append, List.append_nil, List.cons_append, List.mem_cons, List.not_mem_nil, or_false] at hb
        rcases hb with rfl | rfl <;> exact Nat.le_of_ble_eq_true rfl) ?_
      conv => whnf
      refine ⟨⟨⟨by decide +kernel, Nat.le_of_ble_eq_true rfl⟩, trivial⟩, ?_⟩
      conv => whnf
      exact ⟨l2, s2, ws2, gs2, gs2, q2, b5, b6, by omega, by omega, (List.take_of_length_le (Nat.le_refl _)).symm, Nat.le_refl _, .inl ⟨rfl, rfl⟩⟩
    · refine .mk _ _ true Tryd.call67 hg6 (Nat.le_of_ble_eq_true rfl) (fun b hb => by
        simp only [List.nil_append, List.append_nil, List.cons_append, List.mem_cons, List.not_mem_nil, or_false] at hb
        rcases hb with rfl | rfl <;> exact Nat.le_of_ble_eq_true rfl) ?_
      conv => whnf
      refine ⟨⟨⟨by decide +kernel, Nat.le_of_ble_eq_true rfl⟩, trivial⟩, ?_⟩
      conv => whnf
      exact ⟨l2, s2, [], gs2, gs2, q2, b5, b6, by omega, by omega, (List.take_of_length_le (Nat.le_refl _)).symm, Nat.le_refl _, .inr ⟨rfl, rfl, rfl⟩⟩
  · conv => whnf
    refine ⟨⟨⟨by decide +kernel, Nat.le_of_ble_eq_true rfl⟩, trivial⟩, ?_⟩
    conv => whnf
    exact ⟨l, s, ws, gs, gs', q + 1, by omega, by omega, by omega, by omega, hgs, hml, .inl ⟨rfl, rfl⟩⟩
set_option maxHeartbeats 16000000 in
set_option maxRecDepth 100000 in
theorem drawPWrite_ok (bs : List Int) (hb : ∀ x ∈ bs, 0 ≤ x ∧ x ≤ 255) (hl : bs.length ≤ 9223372036854775807) : ∃ r out, PlanW r out ∧ Good Tryd.prog 24 [.one (.p (.sl (bs.map encU)))] [] r out := by
  refine good_v noM Tryd.func24 rfl rfl ?_
  conv => whnf
  obtain ⟨_, _, ⟨bs', hb', rfl, rfl⟩, hg⟩ := l1Open_ok bs hb hl
  refine .mk _ _ false Tryd.call39 hg (Nat.le_of_ble_eq_true rfl) (.inl rfl) ?_
  conv => whnf
  obtain ⟨_, _, ⟨l, s, ws, gs, gs', q, b1, b2, b3, b4, b5, b6, h⟩, hg2⟩ := l15AnyPlan_ok bs' 0 hb' (by omega) (by omega)
  rcases h with ⟨rfl, rfl⟩ | ⟨rfl, rfl, rfl⟩
  · refine .mk _ _ false Tryd.call54 hg2 (Nat.le_of_ble_eq_true rfl) (.inl rfl) ?_
    conv => whnf
    refine ⟨⟨⟨by decide +kernel, Nat.le_of_ble_eq_true rfl⟩, trivial⟩, ?_⟩
    conv => whnf
    exact ⟨l, s, ws, gs, gs', b1, b2, b5, b6, .inl ⟨rfl, rfl⟩⟩
  · refine .mk _ _ false Tryd.call54 hg2 (Nat.le_of_ble_eq_true rfl) (.inl rfl) ?_
    conv => whnf
    refine ⟨⟨⟨by decide +kernel, Nat.le_of_ble_eq_true rfl⟩, trivial⟩, ?_⟩
    conv => whnf
    exact ⟨l, s, [], gs, gs', b1, b2, b5, b6, .inr ⟨rfl, rfl, rfl⟩⟩
end Go.Abs.D

set_option linter.unusedSimpArgs false
set_option linter.unusedVariables false
namespace Go.Abs.D
open Go Go.Abs Go.Proofs Go.RowKit
attribute [local irreducible] IntKind.wrap
@[reducible] def planN (l s : Int) (gs : List Int) : AV := .agg [.p (.lit (.int .i64 l)), .p (.lit (.int .i64 s)), nilP, .p (slI gs)]
theorem planN_rep {l s : Int} {gs : List Int} {w : World} {S : Nat → Prop} {σ : Nat → Loc} {v : Value} (h : RepV w S σ (planN l s gs) v) : RepV w S σ (planF l s [] gs) v := by
  cases h with
  | agg cs vs hl h =>
    refine .agg _ vs hl fun i c v h1 h2 => ?_
    rcases i with _ | _ | _ | i
    · exact h 0 c v h1 h2
    · exact h 1 c v h1 h2
    · cases h1
      have q := h 2 _ v rfl h2
      generalize hE : nilP = E at q
      cases q with
      | p hp =>
        cases hE
        cases hp
        exact .p (.nil none 0)
      | _ => cases hE
    · exact h (i + 3) c v h1 h2
theorem good_nilP {P : Program} {f : FuncId} {l s : Int} {gs : List Int} {r : AV} {out : List Blk} (h : Good P f [planF l s [] gs] [] r out) : Good P f [planN l s gs] [] r out := by
  intro w vs σ S hl hr hin
  refine h w vs σ S hl (fun i av v h1 h2 => ?_) (fun av hm => ?_)
  · rcases i with _ | i
    · cases h1; exact planN_rep (hr 0 _ v rfl h2)
    · simp at h1
  · cases List.mem_singleton.1 hm
    exact .agg fun c hc => by
      simp only [List.mem_cons, List.not_mem_nil, or_false] at hc
      rcases hc with rfl | rfl | rfl | rfl <;> trivial
theorem none_iff (l s : Int) (ws gs : List Int) : ∀ p, (none : Option RPlan) = some p ↔ ReadsP (pw false l s ws gs) p := fun p => Iff.intro (fun q => nomatch q) (fun q => by
  have h := congrArg List.length q.c58
  rw [cuts_length] at h
  have : List.count (58 : UInt8) (pw false l s ws gs).data.toList = 0 := rfl
  rw [this] at h
  cases h)
theorem some_iff {l s : Int} {ws gs : List Int} (hp : POk l s ws gs) : ∀ p, some (⟨l, s, ws, gs⟩ : RPlan) = some p ↔ ReadsP (pw true l s ws gs) p := fun p => Iff.intro (fun q => by cases q; exact ⟨hp, rfl⟩) (fun q => congrArg some ((ReadsP.mk hp rfl : ReadsP (pw true l s ws gs) ⟨l, s, ws, gs⟩).uniq q))
set_option maxHeartbeats 16000000 in
set_option maxRecDepth 100000 in
theorem planText_law (xs ys : List Int) (hx : ∀ x ∈ xs, 0 ≤ x ∧ x ≤ 255) (hxl : xs.length ≤ 9223372036854775807) (hy : ∀ x ∈ ys, 0 ≤ x ∧ x ≤ 255) (hyl : ys.length ≤ 9223372036854775807) : ∃ r out, r = vbool true ∧ Good Tryd.prog 7 [.one (.p (.sl (xs.map encU))), .one (.p (.sl (ys.map encU)))] [] r out := by
  refine good_v noM Tryd.func7 rfl rfl ?_
  conv => whnf
  split
  · conv => whnf
    refine ⟨trivial, ?_⟩
    conv => whnf
    rfl
  rename_i q
  conv => whnf
  split
  · conv => whnf
    refine ⟨trivial, ?_⟩
    conv => whnf
    rfl
  rename_i q2
  conv => whnf
  obtain ⟨_, _, ⟨t, ht, rfl, rfl⟩, hg⟩ := drawPRead_ok xs hx hxl
  refine .mk _ _ false Tryd.call19 hg (Nat.le_of_ble_eq_true rfl) (.inl rfl) ?_
  conv => whnf
  obtain ⟨o, ho⟩ := readsP_ex t
  have hgi := implPRead_ok t (by omega) o ho
  have hgs := specPRead_ok t (by omega) o ho
  cases o with
  | none =>
    refine .mk _ _ false Tryd.call20 hgi (Nat.le_of_ble_eq_true rfl) (.inl rfl) ?_
    conv => whnf
    refine .mk _ _ false Tryd.call21 hgs (Nat.le_of_ble_eq_true rfl) (.inl rfl) ?_
    conv => whnf
    refine .mk _ _ false Tryd.call22 (whPlan_nil 0 0) (Nat.le_of_ble_eq_true rfl) (.inl rfl) ?_
    conv => whnf
    obtain ⟨_, _, ⟨l, s, ws, gs, gs', b1, b2, b3, b4, h⟩, hg2⟩ := drawPWrite_ok ys hy hyl
    have hgt : List.take gs.length (List.drop 0 (gs'.map eI)) = gs.map eI := by rw [List.drop_zero, ← List.map_take, ← b3]
    rcases h with ⟨rfl, rfl⟩ | ⟨rfl, rfl, rfl⟩
    · refine .mk _ _ false Tryd.call24 hg2 (Nat.le_of_ble_eq_true rfl) (.inl rfl) ?_
      conv => whnf
      obtain ⟨b, hb⟩ := pok_ex l s ws gs
      obtain ⟨T, hT⟩ : ∃ T, T = pw b l s ws gs := ⟨_, rfl⟩
      have k1 := implPW_ok l s ws gs (by omega) b hb
      have k2 := specPW_ok l s ws gs (by omega) b hb
      rw [← hT] at k1 k2
      refine ⟨len_all rfl, by rw [List.length_map]; omega, ?_⟩
      rw [take_all rfl, hgt]
      refine .mk _ _ false Tryd.call23 k1 (Nat.le_of_ble_eq_true rfl) (.inr ⟨AV.nsB_iff rfl, fun k hk => by cases hk⟩) ?_
      conv => whnf
      cases b with
      | false =>
        have ho2 : ∀ p, (none : Option RPlan) = some p ↔ ReadsP T p := by rw [hT]; exact none_iff l s ws gs
        have hTs : T.size ≤ 900000 := by rw [hT]; show 0 ≤ _; omega
        refine .mk _ _ false Tryd.call20 (implPRead_ok T hTs none ho2) (Nat.le_of_ble_eq_true rfl) (.inl rfl) ?_
        conv => whnf
        refine VDraw.goR [0, 0, 2, 7, 15, 31, 31, 95, 255, 511, 1023, 2047, 4095, 2047, 16383, 32767, 65535, 131071, 262143, 524287, 1048575, 2097151, 2097151, 8388607, 16777215, 33554431, 67108863] [2, 7, 12, 14, 23] [] [] rfl (by decide +kernel) ?_
        conv => whnf
        refine ⟨len_all rfl, by rw [List.length_map]; omega, ?_⟩
        rw [take_all rfl, hgt]
        refine .mk _ _ false Tryd.call25 k2 (Nat.le_of_ble_eq_true rfl) (.inr ⟨AV.nsB_iff rfl, fun k hk => by cases hk⟩) ?_
        conv => whnf
        rw [str_t rfl]
        conv => whnf
        refine ⟨len_all rfl, by rw [List.length_map]; omega, ?_⟩
        rw [take_all rfl, hgt]
        refine .mk _ _ false Tryd.call26 (specPOk_ok l s ws gs (by omega) false hb) (Nat.le_of_ble_eq_true rfl) (.inr ⟨AV.nsB_iff rfl, fun k hk => by cases hk⟩) ?_
        conv => whnf
        refine ⟨len_all rfl, by rw [List.length_map]; omega, ?_⟩
        rw [take_all rfl, hgt]
        refine .mk _ _ false Tryd.call27 (implPOk_ok l s ws gs (by omega) false hb) (Nat.le_of_ble_eq_true rfl) (.inr ⟨AV.nsB_iff rfl, fun k hk => by cases hk⟩) ?_
        conv => whnf
        refine ⟨len_all rfl, by rw [List.length_map]; omega, ?_⟩
        rw [take_all rfl, hgt]
        refine .mk _ _ false Tryd.call26 (specPOk_ok l s ws gs (by omega) false hb) (Nat.le_of_ble_eq_true rfl) (.inr ⟨AV.nsB_iff rfl, fun k hk => by cases hk⟩) ?_
        conv => whnf
        refine ⟨trivial, ?_⟩
        conv => whnf
        rfl
      | true =>
        have hp := hb.1 rfl
        have ho2 : ∀ p, some (⟨l, s, ws, gs⟩ : RPlan) = some p ↔ ReadsP T p := by rw [hT]; exact some_iff hp
        have hTs : T.size ≤ 900000 := by rw [hT]; have := ptext_size hp; show (ptext l s ws gs).size ≤ _; omega
        refine .mk _ _ false Tryd.call20 (implPRead_ok T hTs _ ho2) (Nat.le_of_ble_eq_true rfl) (.inl rfl) ?_
        conv => whnf
        refine VDraw.goR [0, 0, 2, 7, 15, 31, 31, 95, 255, 511, 1023, 2047, 4095, 2047, 16383, 32767, 65535, 131071, 262143, 524287, 1048575, 2097151, 2097151, 8388607, 16777215, 33554431, 67108863] [2, 7, 12, 14, 23] [] [] rfl (by decide +kernel) ?_
        conv => whnf
        refine ⟨len_all rfl, by rw [List.length_map]; omega, ?_⟩
        rw [take_all rfl, hgt]
        refine .mk _ _ false Tryd.call25 k2 (Nat.le_of_ble_eq_true rfl) (.inr ⟨AV.nsB_iff rfl, fun k hk => by cases hk⟩) ?_
        conv => whnf
        rw [str_t rfl]
        conv => whnf
        refine ⟨len_all rfl, by rw [List.length_map]; omega, ?_⟩
        rw [take_all rfl, hgt]
        refine .mk _ _ false Tryd.call26 (specPOk_ok l s ws gs (by omega) true hb) (Nat.le_of_ble_eq_true rfl) (.inr ⟨AV.nsB_iff rfl, fun k hk => by cases hk⟩) ?_
        conv => whnf
        refine ⟨len_all rfl, by rw [List.length_map]; omega, ?_⟩
        rw [take_all rfl, hgt]
        refine .mk _ _ false Tryd.call27 (implPOk_ok l s ws gs (by omega) true hb) (Nat.le_of_ble_eq_true rfl) (.inr ⟨AV.nsB_iff rfl, fun k hk => by cases hk⟩) ?_
        conv => whnf
        refine ⟨len_all rfl, by rw [List.length_map]; omega, ?_⟩
        rw [take_all rfl, hgt]
        refine .mk _ _ false Tryd.call26 (specPOk_ok l s ws gs (by omega) true hb) (Nat.le_of_ble_eq_true rfl) (.inr ⟨AV.nsB_iff rfl, fun k hk => by cases hk⟩) ?_
        conv => whnf
        refine ⟨len_all rfl, len_all rfl, len_all rfl, by rw [List.length_map]; omega, ?_⟩
        rw [take_all rfl, take_all rfl, hgt]
        refine .mk _ _ false Tryd.call22 (whPlan_same l s ws gs (by omega) (by omega)) (Nat.le_of_ble_eq_true rfl) (.inr ⟨AV.nsB_iff rfl, fun k hk => by cases hk⟩) ?_
        conv => whnf
        refine ⟨trivial, ?_⟩
        conv => whnf
        rfl
    · refine .mk _ _ false Tryd.call24 hg2 (Nat.le_of_ble_eq_true rfl) (.inl rfl) ?_
      conv => whnf
      have hb : false = true ↔ POk l s [] gs := Iff.intro (fun q => Bool.noConfusion q) (fun q => by have := q.w1; simp at this)
      obtain ⟨T, hT⟩ : ∃ T, T = pw false l s [] gs := ⟨_, rfl⟩
      have k1 := good_nilP (implPW_ok l s [] gs (by show 0 ≤ _; omega) false hb)
      have k2 := good_nilP (specPW_ok l s [] gs (by show 0 ≤ _; omega) false hb)
      rw [← hT] at k1 k2
      refine ⟨by rw [List.length_map]; omega, ?_⟩
      rw [hgt]
      refine .mk _ _ false Tryd.call23 k1 (Nat.le_of_ble_eq_true rfl) (.inr ⟨AV.nsB_iff rfl, fun k hk => by cases hk⟩) ?_
      conv => whnf
      have ho2 : ∀ p, (none : Option RPlan) = some p ↔ ReadsP T p := by rw [hT]; exact none_iff l s [] gs
      have hTs : T.size ≤ 900000 := by rw [hT]; show 0 ≤ _; omega
      refine .mk _ _ false Tryd.call20 (implPRead_ok T hTs none ho2) (Nat.le_of_ble_eq_true rfl) (.inl rfl) ?_
      conv => whnf
      refine VDraw.goR [0, 0, 2, 7, 15, 31, 31, 95, 255, 511, 1023, 2047, 4095, 2047, 16383, 32767, 65535, 131071, 262143, 524287, 1048575, 2097151, 2097151, 8388607, 16777215, 33554431, 67108863] [2, 7, 12, 14, 23] [] [] rfl (by decide +kernel) ?_
      conv => whnf
      refine ⟨by rw [List.length_map]; omega, ?_⟩
      rw [hgt]
      refine .mk _ _ false Tryd.call25 k2 (Nat.le_of_ble_eq_true rfl) (.inr ⟨AV.nsB_iff rfl, fun k hk => by cases hk⟩) ?_
      conv => whnf
      rw [str_t rfl]
      conv => whnf
      refine ⟨by rw [List.length_map]; omega, ?_⟩
      rw [hgt]
      refine .mk _ _ false Tryd.call26 (good_nilP (specPOk_ok l s [] gs (by show 0 ≤ _; omega) false hb)) (Nat.le_of_ble_eq_true rfl) (.inr ⟨AV.nsB_iff rfl, fun k hk => by cases hk⟩) ?_
      conv => whnf
      refine ⟨by rw [List.length_map]; omega, ?_⟩
      rw [hgt]
      refine .mk _ _ false Tryd.call27 (good_nilP (implPOk_ok l s [] gs (by show 0 ≤ _; omega) false hb)) (Nat.le_of_ble_eq_true rfl) (.inr ⟨AV.nsB_iff rfl, fun k hk => by cases hk⟩) ?_
      conv => whnf
      refine ⟨by rw [List.length_map]; omega, ?_⟩
      rw [hgt]
      refine .mk _ _ false Tryd.call26 (good_nilP (specPOk_ok l s [] gs (by show 0 ≤ _; omega) false hb)) (Nat.le_of_ble_eq_true rfl) (.inr ⟨AV.nsB_iff rfl, fun k hk => by cases hk⟩) ?_
      conv => whnf
      refine ⟨trivial, ?_⟩
      conv => whnf
      rfl
  | some p =>
    have hp0 := (ho p).1 rfl
    have hp1 := hp0.ok.w2
    have hp2 := hp0.ok.g
    refine .mk _ _ false Tryd.call20 hgi (Nat.le_of_ble_eq_true rfl) (.inl rfl) ?_
    conv => whnf
    refine .mk _ _ false Tryd.call21 hgs (Nat.le_of_ble_eq_true rfl) (.inl rfl) ?_
    conv => whnf
    refine ⟨len_all rfl, len_all rfl, len_all rfl, len_all rfl, ?_⟩
    rw [take_all rfl, take_all rfl]
    refine .mk _ _ false Tryd.call22 (whPlan_same p.l p.s p.ws p.gs (by omega) (by omega)) (Nat.le_of_ble_eq_true rfl) (.inr ⟨AV.nsB_iff rfl, fun k hk => by cases hk⟩) ?_
    conv => whnf
    refine ⟨len_all rfl, len_all rfl, ?_⟩
    rw [take_all rfl, take_all rfl]
    have k0 := implPW_ok p.l p.s p.ws p.gs (by omega) true ⟨fun _ => hp0.ok, fun _ => rfl⟩
    rw [show pw true p.l p.s p.ws p.gs = t from hp0.wr] at k0
    refine .mk _ _ false Tryd.call23 k0 (Nat.le_of_ble_eq_true rfl) (.inr ⟨AV.nsB_iff rfl, fun k hk => by cases hk⟩) ?_
    conv => whnf
    rw [str_t rfl]
    conv => whnf
    obtain ⟨_, _, ⟨l, s, ws, gs, gs', b1, b2, b3, b4, h⟩, hg2⟩ := drawPWrite_ok ys hy hyl
    have hgt : List.take gs.length (List.drop 0 (gs'.map eI)) = gs.map eI := by rw [List.drop_zero, ← List.map_take, ← b3]
    rcases h with ⟨rfl, rfl⟩ | ⟨rfl, rfl, rfl⟩
    · refine .mk _ _ false Tryd.call24 hg2 (Nat.le_of_ble_eq_true rfl) (.inl rfl) ?_
      conv => whnf
      obtain ⟨b, hb⟩ := pok_ex l s ws gs
      obtain ⟨T, hT⟩ : ∃ T, T = pw b l s ws gs := ⟨_, rfl⟩
      have k1 := implPW_ok l s ws gs (by omega) b hb
      have k2 := specPW_ok l s ws gs (by omega) b hb
      rw [← hT] at k1 k2
      refine ⟨len_all rfl, by rw [List.length_map]; omega, ?_⟩
      rw [take_all rfl, hgt]
      refine .mk _ _ false Tryd.call23 k1 (Nat.le_of_ble_eq_true rfl) (.inr ⟨AV.nsB_iff rfl, fun k hk => by cases hk⟩) ?_
      conv => whnf
      cases b with
      | false =>
        have ho2 : ∀ p, (none : Option RPlan) = some p ↔ ReadsP T p := by rw [hT]; exact none_iff l s ws gs
        have hTs : T.size ≤ 900000 := by rw [hT]; show 0 ≤ _; omega
        refine .mk _ _ false Tryd.call20 (implPRead_ok T hTs none ho2) (Nat.le_of_ble_eq_true rfl) (.inl rfl) ?_
        conv => whnf
        refine VDraw.goR [0, 0, 2, 7, 15, 31, 31, 95, 255, 511, 1023, 2047, 4095, 2047, 16383, 32767, 65535, 131071, 262143, 524287, 1048575, 2097151, 2097151, 8388607, 16777215, 33554431, 67108863] [2, 7, 12, 14, 23] [] [] rfl (by decide +kernel) ?_
        conv => whnf
        refine ⟨len_all rfl, by rw [List.length_map]; omega, ?_⟩
        rw [take_all rfl, hgt]
        refine .mk _ _ false Tryd.call25 k2 (Nat.le_of_ble_eq_true rfl) (.inr ⟨AV.nsB_iff rfl, fun k hk => by cases hk⟩) ?_
        conv => whnf
        rw [str_t rfl]
        conv => whnf
        refine ⟨len_all rfl, by rw [List.length_map]; omega, ?_⟩
        rw [take_all rfl, hgt]
        refine .mk _ _ false Tryd.call26 (specPOk_ok l s ws gs (by omega) false hb) (Nat.le_of_ble_eq_true rfl) (.inr ⟨AV.nsB_iff rfl, fun k hk => by cases hk⟩) ?_
        conv => whnf
        refine ⟨len_all rfl, by rw [List.length_map]; omega, ?_⟩
        rw [take_all rfl, hgt]
        refine .mk _ _ false Tryd.call27 (implPOk_ok l s ws gs (by omega) false hb) (Nat.le_of_ble_eq_true rfl) (.inr ⟨AV.nsB_iff rfl, fun k hk => by cases hk⟩) ?_
        conv => whnf
        refine ⟨len_all rfl, by rw [List.length_map]; omega, ?_⟩
        rw [take_all rfl, hgt]
        refine .mk _ _ false Tryd.call26 (specPOk_ok l s ws gs (by omega) false hb) (Nat.le_of_ble_eq_true rfl) (.inr ⟨AV.nsB_iff rfl, fun k hk => by cases hk⟩) ?_
        conv => whnf
        refine ⟨trivial, ?_⟩
        conv => whnf
        rfl
      | true =>
        have hp := hb.1 rfl
        have ho2 : ∀ p, some (⟨l, s, ws, gs⟩ : RPlan) = some p ↔ ReadsP T p := by rw [hT]; exact some_iff hp
        have hTs : T.size ≤ 900000 := by rw [hT]; have := ptext_size hp; show (ptext l s ws gs).size ≤ _; omega
        refine .mk _ _ false Tryd.call20 (implPRead_ok T hTs _ ho2) (Nat.le_of_ble_eq_true rfl) (.inl rfl) ?_
        conv => whnf
        refine VDraw.goR [0, 0, 2, 7, 15, 31, 31, 95, 255, 511, 1023, 2047, 4095, 2047, 16383, 32767, 65535, 131071, 262143, 524287, 1048575, 2097151, 2097151, 8388607, 16777215, 33554431, 67108863] [2, 7, 12, 14, 23] [] [] rfl (by decide +kernel) ?_
        conv => whnf
        refine ⟨len_all rfl, by rw [List.length_map]; omega, ?_⟩
        rw [take_all rfl, hgt]
        refine .mk _ _ false Tryd.call25 k2 (Nat.le_of_ble_eq_true rfl) (.inr ⟨AV.nsB_iff rfl, fun k hk => by cases hk⟩) ?_
        conv => whnf
        rw [str_t rfl]
        conv => whnf
        refine ⟨len_all rfl, by rw [List.length_map]; omega, ?_⟩
        rw [take_all rfl, hgt]
        refine .mk _ _ false Tryd.call26 (specPOk_ok l s ws gs (by omega) true hb) (Nat.le_of_ble_eq_true rfl) (.inr ⟨AV.nsB_iff rfl, fun k hk => by cases hk⟩) ?_
        conv => whnf
        refine ⟨len_all rfl, by rw [List.length_map]; omega, ?_⟩
        rw [take_all rfl, hgt]
        refine .mk _ _ false Tryd.call27 (implPOk_ok l s ws gs (by omega) true hb) (Nat.le_of_ble_eq_true rfl) (.inr ⟨AV.nsB_iff rfl, fun k hk => by cases hk⟩) ?_
        conv => whnf
        refine ⟨len_all rfl, by rw [List.length_map]; omega, ?_⟩
        rw [take_all rfl, hgt]
        refine .mk _ _ false Tryd.call26 (specPOk_ok l s ws gs (by omega) true hb) (Nat.le_of_ble_eq_true rfl) (.inr ⟨AV.nsB_iff rfl, fun k hk => by cases hk⟩) ?_
        conv => whnf
        refine ⟨len_all rfl, len_all rfl, len_all rfl, by rw [List.length_map]; omega, ?_⟩
        rw [take_all rfl, take_all rfl, hgt]
        refine .mk _ _ false Tryd.call22 (whPlan_same l s ws gs (by omega) (by omega)) (Nat.le_of_ble_eq_true rfl) (.inr ⟨AV.nsB_iff rfl, fun k hk => by cases hk⟩) ?_
        conv => whnf
        refine ⟨trivial, ?_⟩
        conv => whnf
        rfl
    · refine .mk _ _ false Tryd.call24 hg2 (Nat.le_of_ble_eq_true rfl) (.inl rfl) ?_
      conv => whnf
      have hb : false = true ↔ POk l s [] gs := Iff.intro (fun q => Bool.noConfusion q) (fun q => by have := q.w1; simp at this)
      obtain ⟨T, hT⟩ : ∃ T, T = pw false l s [] gs := ⟨_, rfl⟩
      have k1 := good_nilP (implPW_ok l s [] gs (by show 0 ≤ _; omega) false hb)
      have k2 := good_nilP (specPW_ok l s [] gs (by show 0 ≤ _; omega) false hb)
      rw [← hT] at k1 k2
      refine ⟨by rw [List.length_map]; omega, ?_⟩
      rw [hgt]
      refine .mk _ _ false Tryd.call23 k1 (Nat.le_of_ble_eq_true rfl) (.inr ⟨AV.nsB_iff rfl, fun k hk => by cases hk⟩) ?_
      conv => whnf
      have ho2 : ∀ p, (none : Option RPlan) = some p ↔ ReadsP T p := by rw [hT]; exact none_iff l s [] gs
      have hTs : T.size ≤ 900000 := by rw [hT]; show 0 ≤ _; omega
      refine .mk _ _ false Tryd.call20 (implPRead_ok T hTs none ho2) (Nat.le_of_ble_eq_true rfl) (.inl rfl) ?_
      conv => whnf
      refine VDraw.goR [0, 0, 2, 7, 15, 31, 31, 95, 255, 511, 1023, 2047, 4095, 2047, 16383, 32767, 65535, 131071, 262143, 524287, 1048575, 2097151, 2097151, 8388607, 16777215, 33554431, 67108863] [2, 7, 12, 14, 23] [] [] rfl (by decide +kernel) ?_
      conv => whnf
      refine ⟨by rw [List.length_map]; omega, ?_⟩
      rw [hgt]
      refine .mk _ _ false Tryd.call25 k2 (Nat.le_of_ble_eq_true rfl) (.inr ⟨AV.nsB_iff rfl, fun k hk => by cases hk⟩) ?_
      conv => whnf
      rw [str_t rfl]
      conv => whnf
      refine ⟨by rw [List.length_map]; omega, ?_⟩
      rw [hgt]
      refine .mk _ _ false Tryd.call26 (good_nilP (specPOk_ok l s [] gs (by show 0 ≤ _; omega) false hb)) (Nat.le_of_ble_eq_true rfl) (.inr ⟨AV.nsB_iff rfl, fun k hk => by cases hk⟩) ?_
      conv => whnf
      refine ⟨by rw [List.length_map]; omega, ?_⟩
      rw [hgt]
      refine .mk _ _ false Tryd.call27 (good_nilP (implPOk_ok l s [] gs (by show 0 ≤ _; omega) false hb)) (Nat.le_of_ble_eq_true rfl) (.inr ⟨AV.nsB_iff rfl, fun k hk => by cases hk⟩) ?_
      conv => whnf
      refine ⟨by rw [List.length_map]; omega, ?_⟩
      rw [hgt]
      refine .mk _ _ false Tryd.call26 (good_nilP (specPOk_ok l s [] gs (by show 0 ≤ _; omega) false hb)) (Nat.le_of_ble_eq_true rfl) (.inr ⟨AV.nsB_iff rfl, fun k hk => by cases hk⟩) ?_
      conv => whnf
      refine ⟨trivial, ?_⟩
      conv => whnf
      rfl
theorem fnPlanText_good (xs ys : List Int) (hx : xs.length ≤ 9223372036854775807 ∧ ∀ x ∈ xs, (Lit.int .u8 x).wf = true) (hy : ys.length ≤ 9223372036854775807 ∧ ∀ x ∈ ys, (Lit.int .u8 x).wf = true) : ∃ r out, r = vbool true ∧ Good Tryd.prog 7 [.one (.p (.sl (xs.map encU))), .one (.p (.sl (ys.map encU)))] [] r out := planText_law xs ys (fun x h => wf8 (hx.2 x h)) hx.1 (fun x h => wf8 (hy.2 x h)) hy.1
end Go.Abs.D
