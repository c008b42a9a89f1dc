import Derived.Test.YtilogdijodgcgaaDoorGBase
set_option linter.unusedSimpArgs false
set_option linter.unusedVariables false
namespace Go.Abs.E
open Go Go.Abs Go.Proofs Go.RowKit
attribute [local irreducible] IntKind.wrap
theorem dec_eq (n : Nat) : dec (n : Int) = ⟨(Lib.decDigits n).toArray⟩ := by unfold dec; rw [Lib.itoa_nonneg]
theorem atoi_ok (s : ByteArray) (hs : s.size ≤ 281474976710656) (v : Int) (h : Lib.atoiAll s.data.toList = .ok v) : Good Tryd.prog 49 [vstr s] [] (.tup [vint v, lit .nilIface]) [] :=
  good_tupB (vs := [.string s]) (rs := [.int .i64 v, .nilIface]) fun w hg => by
    have hc : Calls Tryd.prog 49 #[.string s] w _ := Any.strconv_Atoi_ok Tryd.laysC172 s (by omega) v h w
    refine Calls.mono hc ?_
    rintro e w' ⟨rfl, rfl | ⟨t, rfl⟩⟩
    · exact ⟨rfl, Below.refl _ _⟩
    · exact ⟨rfl, Lib.bytesWorld_below _ _ _⟩
theorem cell_of {w : World} {g : Nat} {v : Value} {ty : TypeId} {fr : Nat × Nat} (h : w.heap[g]? = some (.cells #[v] ty fr)) : w.cell? ⟨g, 0, none⟩ = some v := by
  simp [World.cell?, h]
set_option maxHeartbeats 4000000 in
theorem number_fail (s : ByteArray) (hs : s.size ≤ 281474976710656) (h : ∀ v, Lib.atoiAll s.data.toList ≠ .ok v) (w : World) (hg : GlobH w) :
    Calls Tryd.prog 35 #[.string s] w fun e w' => e = .returned (.tuple #[.int .i64 0, .bool false]) ∧ Below w.heap.size w w' := by
  have hc : Calls Tryd.prog 49 #[.string s] w fun e w' => (∃ n N, e = .returned (.tuple #[.int .i64 n, .iface 84 (.pointer (some ⟨N, 0, none⟩))])) ∧ Below w.heap.size w w' := by
    rcases ha : Lib.atoiAll s.data.toList with v | _ | _
    · exact absurd ha (h v)
    · obtain ⟨t, p, ty, fr, e⟩ := hg.2 2 (by decide)
      have hc : Calls Tryd.prog 49 #[.string s] w _ := Any.strconv_Atoi_syntax Tryd.laysC172 s hs ha (.iface t p) w (cell_of e) (.inr ⟨_, _, rfl⟩)
      refine Calls.mono hc ?_
      rintro e w' ⟨N, rfl, _, _, hb⟩
      exact ⟨⟨_, N, rfl⟩, hb⟩
    · obtain ⟨t, p, ty, fr, e⟩ := hg.2 3 (by decide)
      have hc : Calls Tryd.prog 49 #[.string s] w _ := Any.strconv_Atoi_range Tryd.laysC172 s hs ha (.iface t p) w (cell_of e) (.inr ⟨_, _, rfl⟩)
      refine Calls.mono hc ?_
      rintro e w' ⟨N, rfl, _, _, hb⟩
      exact ⟨⟨_, N, rfl⟩, hb⟩
  go_enter Tryd.func35, Tryd.ntmps35
  go_wp2_with (go_at_call 49; refine hc.mono ?_; rintro e w' ⟨⟨n, N, rfl⟩, hb⟩)
  go_ret2
  exact ⟨rfl, hb⟩
/-- The number of at most six figures that a text is. -/
def num (s : ByteArray) : Option Nat := numOf s.data.toList
def numI (s : ByteArray) : Int := match num s with
  | some v => (v : Int)
  | none => 0
def numS (s : ByteArray) : Int := match num s with
  | some v => (v : Int)
  | none => -1
def numOk (s : ByteArray) : Bool := (num s).isSome
set_option maxHeartbeats 16000000 in
set_option maxRecDepth 100000 in
theorem number_ok (s : ByteArray) (hs : s.size ≤ 281474976710656) : Good Tryd.prog 35 [vstr s] [] (.tup [vint (numI s), vbool (numOk s)]) [] := by
  by_cases h : ∃ v, Lib.atoiAll s.data.toList = .ok v
  · obtain ⟨v, ha⟩ := h
    have hb := Lib.atoiAll_bounds ha
    refine good_e noM Tryd.func35 rfl rfl ?_
    conv => whnf
    refine .mk _ _ false Tryd.call49 (atoi_ok s hs v ha) (Nat.le_of_ble_eq_true rfl) (.inl rfl) ?_
    conv => whnf
    have none_of : (v < 0 ∨ ¬ s.size ≤ 6) → num s = none := fun hv => by
      cases q : num s with
      | none => rfl
      | some u =>
        obtain ⟨hp, hl, e, _⟩ := numOf_some (l := s.data.toList) q
        rw [atoi_plain hp (by omega)] at ha
        cases ha
        have : s.data.toList.length = s.size := by simp
        omega
    split
    · rename_i q
      have q' : v < 0 := of_decide_eq_true q
      have hn := none_of (.inl q')
      unfold numI numOk
      rw [hn]
      conv => whnf
      refine ⟨trivial, ?_⟩
      conv => whnf
      exact ⟨rfl, rfl⟩
    · rename_i q
      have q' : ¬ v < 0 := of_decide_eq_false q
      conv => whnf
      split
      · rename_i q2
        have q2' : 6 < (s.size : Int) := of_decide_eq_true q2
        have hn := none_of (.inr (by omega))
        unfold numI numOk
        rw [hn]
        conv => whnf
        refine ⟨trivial, ?_⟩
        conv => whnf
        exact ⟨rfl, rfl⟩
      · rename_i q2
        have q2' : ¬ 6 < (s.size : Int) := of_decide_eq_false q2
        conv => whnf
        refine .mk _ _ false Tryd.call36 (itoa_ok v hb.1 hb.2) (Nat.le_of_ble_eq_true rfl) (.inl rfl) ?_
        conv => whnf
        by_cases e : dec v = s
        · have hd : s.data.toList = Lib.decDigits v.toNat := by
            obtain ⟨n, rfl⟩ := Int.eq_ofNat_of_zero_le (show 0 ≤ v by omega)
            rw [← e, dec_eq]; rfl
          have hn : num s = some v.toNat := by
            show numOf s.data.toList = _
            have hl : s.data.toList.length = s.size := by simp
            rw [hd] at hl ⊢
            exact numOf_dec (by omega)
          have hv : ((v.toNat : Nat) : Int) = v := Int.toNat_of_nonneg (by omega)
          unfold numI numOk
          rw [hn, str_t e]
          simp only [Option.isSome, hv]
          conv => whnf
          refine ⟨trivial, ?_⟩
          conv => whnf
          exact ⟨rfl, rfl⟩
        · have hn : num s = none := by
            cases q : num s with
            | none => rfl
            | some u =>
              obtain ⟨hp, hl, e1, e2⟩ := numOf_some (l := s.data.toList) q
              rw [atoi_plain hp (by omega)] at ha
              cases ha
              exfalso
              apply e
              unfold dec
              rw [e1, e2]
          unfold numI numOk
          rw [hn, str_f e]
          conv => whnf
          refine ⟨trivial, ?_⟩
          conv => whnf
          exact ⟨rfl, rfl⟩
  · have hn : ∀ v, Lib.atoiAll s.data.toList ≠ .ok v := fun v q => h ⟨v, q⟩
    have hnum : num s = none := by
      cases q : num s with
      | none => rfl
      | some v =>
        obtain ⟨hp, hl, e, _⟩ := numOf_some (l := s.data.toList) q
        exact absurd (atoi_plain hp (by omega)) (hn _)
    unfold numI numOk
    rw [hnum]
    exact good_tupB (vs := [.string s]) (rs := [.int .i64 0, .bool false]) fun w hg => number_fail s hs hn w hg
theorem bt_get {s : ByteArray} {i : Nat} (h : i < s.size) : bt s i = ((s.data.toList[i]'(by simpa using h)).toNat : Int) := by
  unfold bt
  rw [List.getD_eq_getElem?_getD, List.getElem?_eq_getElem (by simpa using h)]; rfl
theorem bt_eq {s : ByteArray} {i : Nat} (h : i < s.size) (c : UInt8) : bt s i = (c.toNat : Int) ↔ s.data.toList[i]'(by simpa using h) = c := by
  rw [bt_get h]
  constructor
  · intro e; exact UInt8.toNat_inj.1 (by omega)
  · intro e; rw [e]
theorem szl (s : ByteArray) : s.data.toList.length = s.size := by simp
set_option maxHeartbeats 16000000 in
set_option maxRecDepth 100000 in
theorem l7Find_ok (s : ByteArray) (hs : s.size ≤ 281474976710656) (i0 : Nat) (hi0 : i0 ≤ 281474976710656) (c : UInt8) :
    Good Tryd.prog 55 [vstr s, vint (i0 : Int), lit (.int .u8 c.toNat)] [] (vint (findB c s.data.toList i0)) [] := by
  refine good_e noM Tryd.func55 rfl rfl ?_
  conv => whnf
  refine VLoop.enter [0, 2, 7] ?_
  conv => whnf
  refine VLoop.ind1 (n0 := 0) (α := Int) noM [0, 2, 7] (fun a => ⟨21, 0, [(0, vstr s), (2, lit (.int .u8 c.toNat)), (7, vint a)], []⟩)
    (fun a => ∃ i : Nat, a = i ∧ i ≤ 281474976710656 ∧ findB c s.data.toList i = findB c s.data.toList i0) (fun a => ((s.size : Int) - a).toNat) ?_ i0 ⟨i0, rfl, hi0, rfl⟩
  rintro _ ⟨i, rfl, hi, hf⟩
  conv => whnf
  split
  · rename_i q
    have q' : (i : Int) < s.size := of_decide_eq_true q
    have hw : IntKind.i64.wrap ((i : Int) + 1) = i + 1 := wrap_in _ (by omega) (by omega)
    have en : (i : Int).toNat = i := Int.toNat_natCast i
    have hb := bt_eq (s := s) (i := i) (by omega) c
    conv => whnf
    refine ⟨by omega, by omega, ?_⟩
    conv => whnf
    split
    · rename_i k
      have k' : bt s i = c.toNat := by rw [en] at k; exact beq_iff_eq.1 k
      conv => whnf
      refine ⟨trivial, ?_⟩
      conv => whnf
      rw [← hf, findB_hit (by rw [szl]; omega) (hb.1 k')]
      exact ⟨rfl, rfl⟩
    · rename_i k
      have k' : ¬ bt s i = c.toNat := by rw [en] at k; simpa using k
      conv => whnf
      refine ⟨_, rfl, rfl, ⟨i + 1, by rw [hw]; simp, by omega, ?_⟩, by rw [hw]; omega⟩
      rw [← hf, findB_next (i := i) (by rw [szl]; omega) (fun q => k' (hb.2 q))]
  · rename_i q
    have q' : ¬ (i : Int) < s.size := of_decide_eq_false q
    conv => whnf
    refine ⟨trivial, ?_⟩
    conv => whnf
    rw [← hf, findB_end (by rw [szl]; omega)]
    exact ⟨rfl, rfl⟩
theorem take_snoc {l : List UInt8} {i : Nat} (h : i < l.length) : l.take (i + 1) = l.take i ++ [l[i]] := List.take_succ_eq_append_getElem h
theorem num_none_of {s : ByteArray} (h : ∀ v, num s = some v → False) : numS s = -1 := by
  unfold numS
  cases q : num s with
  | none => rfl
  | some v => exact (h v q).elim
theorem numS_bad {s : ByteArray} {i : Nat} (hi : i < s.size) (h : bt s i < 48 ∨ 57 < bt s i) : numS s = -1 := by
  refine num_none_of fun v q => ?_
  obtain ⟨hp, hl, e, _⟩ := numOf_some (l := s.data.toList) q
  rw [bt_get hi] at h
  have := isDg_iff.1 (hp.dg _ (List.getElem_mem (by rw [szl]; exact hi)))
  omega
theorem numS_nought {s : ByteArray} (hi : 1 < s.size) (h : bt s 0 = 48) : numS s = -1 := by
  refine num_none_of fun v q => ?_
  obtain ⟨hp, hl, e, _⟩ := numOf_some (l := s.data.toList) q
  apply hp.hd (by rw [szl]; exact hi)
  have h1 := (bt_eq (s := s) (i := 0) (by omega) 48).1 h
  rw [List.head?_eq_getElem?, List.getElem?_eq_getElem (by rw [szl]; omega), h1]
theorem numS_good {s : ByteArray} (h1 : 1 ≤ s.size) (h6 : s.size ≤ 6) (hd : ∀ k, k < s.size → 48 ≤ bt s k ∧ bt s k ≤ 57) (hh : 1 < s.size → ¬ bt s 0 = 48) : numS s = (valL s.data.toList : Int) := by
  have hp : Plain s.data.toList := by
    refine ⟨fun q => ?_, fun c hc => ?_, fun hl q => ?_⟩
    · have := szl s; rw [q] at this; simp at this; omega
    · obtain ⟨k, hk, rfl⟩ := List.mem_iff_getElem.1 hc
      have hk' : k < s.size := by rw [szl] at hk; exact hk
      have := hd k hk'
      rw [bt_get hk'] at this
      rw [isDg_iff]; omega
    · rw [szl] at hl
      apply hh hl
      rw [List.head?_eq_getElem?, List.getElem?_eq_getElem (by rw [szl]; omega)] at q
      exact (bt_eq (s := s) (i := 0) (by omega) 48).2 (Option.some.inj q)
  unfold numS num numOf
  rw [figB_iff.2 hp, decide_eq_true (by rw [szl]; omega)]
  rfl
theorem dg_take {s : ByteArray} {i : Nat} (hd : ∀ k, k < i → 48 ≤ bt s k ∧ bt s k ≤ 57) (hi : i ≤ s.size) : ∀ c ∈ s.data.toList.take i, isDg c = true := by
  intro c hc
  obtain ⟨k, hk, rfl⟩ := List.mem_iff_getElem.1 hc
  rw [List.length_take] at hk
  have hk' : k < s.size := by omega
  have := hd k (by omega)
  rw [bt_get hk'] at this
  rw [isDg_iff, List.getElem_take]; omega
theorem numS_step {s : ByteArray} {i : Nat} (hd : ∀ k, k < i → 48 ≤ bt s k ∧ bt s k ≤ 57) (hi : i < s.size) (h6 : s.size ≤ 6) (h1 : 48 ≤ bt s i) (h2 : bt s i ≤ 57) :
    IntKind.i64.wrap (IntKind.i64.wrap ((valL (s.data.toList.take i) : Int) * 10) + IntKind.i64.wrap (IntKind.u8.wrap (bt s i - 48))) = (valL (s.data.toList.take (i + 1)) : Int) := by
  have hv := valL_lt _ (dg_take hd (by omega))
  have hl : (s.data.toList.take i).length = i := by rw [List.length_take, szl]; omega
  rw [hl] at hv
  have hp : 10 ^ i ≤ 10 ^ 5 := Nat.pow_le_pow_right (by decide) (by omega)
  have e5 : (10 : Nat) ^ 5 = 100000 := by decide
  rw [take_snoc (by rw [szl]; omega), valL_snoc]
  rw [bt_get hi] at h1 h2 ⊢
  generalize (s.data.toList[i]'(by simpa using hi)).toNat = c at h1 h2 ⊢
  rw [wrap_u8 ((c : Int) - 48) (by omega) (by omega), wrap_in ((c : Int) - 48) (by omega) (by omega), wrap_in ((valL (s.data.toList.take i) : Int) * 10) (by omega) (by omega), wrap_in _ (by omega) (by omega)]
  omega
set_option maxHeartbeats 16000000 in
set_option maxRecDepth 100000 in
theorem l5Num_ok (s : ByteArray) (hs : s.size ≤ 281474976710656) : Good Tryd.prog 56 [vstr s] [] (vint (numS s)) [] := by
  refine good_e noM Tryd.func56 rfl rfl ?_
  conv => whnf
  refine .mk _ _ false Tryd.call30 (l1In_ok _ _ _) (Nat.le_of_ble_eq_true rfl) (.inl rfl) ?_
  cases h1 : inR s.size 1 6 with
  | false =>
    have hn : numS s = -1 := by
      have : num s = none := by
        cases q : num s with
        | none => rfl
        | some v =>
          obtain ⟨hp, hl, e, _⟩ := numOf_some (l := s.data.toList) q
          have hne : s.data.toList.length ≠ 0 := fun w => hp.ne (List.length_eq_zero_iff.1 w)
          rw [szl] at hl hne
          rw [show inR s.size 1 6 = true from inR_iff.2 ⟨by omega, by omega⟩] at h1
          cases h1
      unfold numS; rw [this]
    rw [hn]
    conv => whnf
    refine ⟨trivial, ?_⟩
    conv => whnf
    exact ⟨rfl, rfl⟩
  | true =>
    have hr := inR_iff.1 h1
    conv => whnf
    split
    · rename_i q0
      have q0' : (s.size : Int) > 1 := of_decide_eq_true q0
      conv => whnf
      refine ⟨by omega, by omega, ?_⟩
      conv => whnf
      split
      · rename_i k0
        have k0' : bt s 0 = 48 := beq_iff_eq.1 k0
        conv => whnf
        refine ⟨trivial, ?_⟩
        conv => whnf
        rw [numS_nought (by omega) k0']
        exact ⟨rfl, rfl⟩
      · rename_i k0
        have k0' : ¬ bt s 0 = 48 := by simpa using k0
        conv => whnf
        refine VLoop.enter [0, 3, 4] ?_
        conv => whnf
        refine VLoop.ind2 (n0 := 0) (α := Int) (β := Int) noM [0, 3, 4] (fun a b => ⟨44, 0, [(0, vstr s), (3, vint b), (4, vint a)], []⟩)
          (fun a b => ∃ i : Nat, a = i ∧ i ≤ s.size ∧ b = (valL (s.data.toList.take i) : Int) ∧ ∀ k, k < i → 48 ≤ bt s k ∧ bt s k ≤ 57) (fun a _ => ((s.size : Int) - a).toNat) ?_ 0 0 ⟨0, rfl, by omega, rfl, fun k hk => by omega⟩
        rintro _ _ ⟨i, rfl, hi, rfl, hd⟩
        conv => whnf
        split
        · rename_i q
          have q' : (i : Int) < s.size := of_decide_eq_true q
          have hw : IntKind.i64.wrap ((i : Int) + 1) = i + 1 := wrap_in _ (by omega) (by omega)
          have en : (i : Int).toNat = i := Int.toNat_natCast i
          conv => whnf
          refine ⟨by omega, by omega, ?_⟩
          conv => whnf
          split
          · rename_i k1
            have k1' : bt s i < 48 := by rw [en] at k1; exact of_decide_eq_true k1
            conv => whnf
            refine ⟨trivial, ?_⟩
            conv => whnf
            rw [numS_bad (i := i) (by omega) (.inl k1')]
            exact ⟨rfl, rfl⟩
          · rename_i k1
            have k1' : ¬ bt s i < 48 := by rw [en] at k1; exact of_decide_eq_false k1
            conv => whnf
            refine ⟨by omega, by omega, ?_⟩
            conv => whnf
            split
            · rename_i k2
              have k2' : 57 < bt s i := by rw [en] at k2; exact of_decide_eq_true k2
              conv => whnf
              refine ⟨trivial, ?_⟩
              conv => whnf
              rw [numS_bad (i := i) (by omega) (.inr k2')]
              exact ⟨rfl, rfl⟩
            · rename_i k2
              have k2' : ¬ 57 < bt s i := by rw [en] at k2; exact of_decide_eq_false k2
              conv => whnf
              refine ⟨by omega, by omega, ?_⟩
              conv => whnf
              refine ⟨trivial, ?_⟩
              conv => whnf
              refine ⟨_, _, rfl, rfl, ⟨i + 1, by rw [hw]; simp, by omega, ?_, ?_⟩, by rw [hw]; omega⟩
              · rw [en]
                exact numS_step hd (by omega) (by omega) (by omega) (by omega)
              · intro k hk
                by_cases e : k = i
                · subst e; omega
                · exact hd k (by omega)
        · rename_i q
          have q' : ¬ (i : Int) < s.size := of_decide_eq_false q
          obtain rfl : i = s.size := by omega
          conv => whnf
          refine ⟨trivial, ?_⟩
          conv => whnf
          rw [numS_good (by omega) (by omega) hd (fun _ => k0'), List.take_of_length_le (by rw [szl]; omega)]
          exact ⟨rfl, rfl⟩
    · rename_i q0
      have q0' : ¬ (s.size : Int) > 1 := of_decide_eq_false q0
      conv => whnf
      refine VLoop.enter [0, 3, 4] ?_
      conv => whnf
      refine VLoop.ind2 (n0 := 0) (α := Int) (β := Int) noM [0, 3, 4] (fun a b => ⟨44, 0, [(0, vstr s), (3, vint b), (4, vint a)], []⟩)
        (fun a b => ∃ i : Nat, a = i ∧ i ≤ s.size ∧ b = (valL (s.data.toList.take i) : Int) ∧ ∀ k, k < i → 48 ≤ bt s k ∧ bt s k ≤ 57) (fun a _ => ((s.size : Int) - a).toNat) ?_ 0 0 ⟨0, rfl, by omega, rfl, fun k hk => by omega⟩
      rintro _ _ ⟨i, rfl, hi, rfl, hd⟩
      conv => whnf
      split
      · rename_i q
        have q' : (i : Int) < s.size := of_decide_eq_true q
        have hw : IntKind.i64.wrap ((i : Int) + 1) = i + 1 := wrap_in _ (by omega) (by omega)
        have en : (i : Int).toNat = i := Int.toNat_natCast i
        conv => whnf
        refine ⟨by omega, by omega, ?_⟩
        conv => whnf
        split
        · rename_i k1
          have k1' : bt s i < 48 := by rw [en] at k1; exact of_decide_eq_true k1
          conv => whnf
          refine ⟨trivial, ?_⟩
          conv => whnf
          rw [numS_bad (i := i) (by omega) (.inl k1')]
          exact ⟨rfl, rfl⟩
        · rename_i k1
          have k1' : ¬ bt s i < 48 := by rw [en] at k1; exact of_decide_eq_false k1
          conv => whnf
          refine ⟨by omega, by omega, ?_⟩
          conv => whnf
          split
          · rename_i k2
            have k2' : 57 < bt s i := by rw [en] at k2; exact of_decide_eq_true k2
            conv => whnf
            refine ⟨trivial, ?_⟩
            conv => whnf
            rw [numS_bad (i := i) (by omega) (.inr k2')]
            exact ⟨rfl, rfl⟩
          · rename_i k2
            have k2' : ¬ 57 < bt s i := by rw [en] at k2; exact of_decide_eq_false k2
            conv => whnf
            refine ⟨by omega, by omega, ?_⟩
            conv => whnf
            refine ⟨trivial, ?_⟩
            conv => whnf
            refine ⟨_, _, rfl, rfl, ⟨i + 1, by rw [hw]; simp, by omega, ?_, ?_⟩, by rw [hw]; omega⟩
            · rw [en]
              exact numS_step hd (by omega) (by omega) (by omega) (by omega)
            · intro k hk
              by_cases e : k = i
              · subst e; omega
              · exact hd k (by omega)
      · rename_i q
        have q' : ¬ (i : Int) < s.size := of_decide_eq_false q
        obtain rfl : i = s.size := by omega
        conv => whnf
        refine ⟨trivial, ?_⟩
        conv => whnf
        rw [numS_good (by omega) (by omega) hd (fun w => by omega), List.take_of_length_le (by rw [szl]; omega)]
        exact ⟨rfl, rfl⟩

end Go.Abs.E
