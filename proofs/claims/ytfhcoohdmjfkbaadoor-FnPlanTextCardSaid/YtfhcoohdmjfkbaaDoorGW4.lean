import Derived.Test.YtfhcoohdmjfkbaaDoorGW3
set_option linter.unusedSimpArgs false
set_option linter.unusedVariables false
namespace Go.Abs.D
open Go Go.Abs Go.Proofs
attribute [local irreducible] IntKind.wrap

theorem l1DecI_ok (n : Int) (h0 : 0 ≤ n) (h : n < 100000000) : Good Tryd.prog 55 [vint n] [] (vstr (dec n)) [] := by
  obtain ⟨m, rfl⟩ := Int.eq_ofNat_of_zero_le h0
  exact l1Dec_ok m (by omega)
theorem sevenI_ok (n : Int) (h0 : 0 ≤ n) (h : n < 2000000) : Good Tryd.prog 31 [vint n] [] (vstr (seven n.toNat)) [] := by
  obtain ⟨m, rfl⟩ := Int.eq_ofNat_of_zero_le h0
  exact seven_ok m (by omega)
theorem decI_size {n : Int} (h0 : 0 ≤ n) (h : n < 100000) : (dec n).size ≤ 5 := by
  obtain ⟨m, rfl⟩ := Int.eq_ofNat_of_zero_le h0
  exact dec_size (k := 4) (by omega)
theorem sumTo_rng (s : ByteArray) : ∀ i, 0 ≤ sumTo s i ∧ sumTo s i < 1000003
  | 0 => by unfold sumTo; omega
  | i + 1 => by
    have ih := sumTo_rng s i
    have hb := bt_rng s i
    unfold sumTo
    rw [Int.tmod_eq_emod_of_nonneg (by omega)]; omega
theorem sum_step (s : ByteArray) (i : Nat) : (IntKind.i64.wrap (IntKind.i64.wrap (IntKind.i64.wrap (sumTo s i * 31) + bt s i) + 7)).tmod 1000003 = sumTo s (i + 1) := by
  have ih := sumTo_rng s i
  have hb := bt_rng s i
  rw [wi (sumTo s i * 31) (by omega) (by omega), wi (sumTo s i * 31 + bt s i) (by omega) (by omega), wi _ (by omega) (by omega)]
  rfl
theorem sum_step' (s : ByteArray) (i : Nat) : (IntKind.i64.wrap (IntKind.i64.wrap (IntKind.i64.wrap (31 * sumTo s i) + bt s i) + 7)).tmod 1000003 = sumTo s (i + 1) := by
  rw [Int.mul_comm]; exact sum_step s i
set_option maxHeartbeats 16000000 in
set_option maxRecDepth 100000 in
theorem l7Sum_ok (s : ByteArray) (hs : s.size ≤ 1000) : Good Tryd.prog 29 [vstr s] [] (vstr (seven (sumTo s s.size).toNat)) [] := by
  refine good_e noM Tryd.func29 rfl rfl ?_
  conv => whnf
  refine VLoop.enter [0, 3, 4] ?_
  conv => whnf
  refine VLoop.ind2 (n0 := 0) (α := Int) (β := Int) noM [0, 3, 4] (fun a b => ⟨29, 0, [(0, vstr s), (3, vint b), (4, vint a)], []⟩)
    (fun a b => ∃ i : Nat, a = i ∧ i ≤ s.size ∧ b = sumTo s i) (fun a _ => ((s.size : Int) - a).toNat) ?_ 0 1 ⟨0, rfl, by omega, rfl⟩
  rintro _ _ ⟨i, rfl, hi, rfl⟩
  conv => whnf
  split
  · rename_i q
    have q' := of_decide_eq_true q
    have hw : IntKind.i64.wrap ((i : Int) + 1) = i + 1 := wi _ (by omega) (by omega)
    have en : (i : Int).toNat = i := Int.toNat_natCast i
    conv => whnf
    refine ⟨by omega, by omega, ?_⟩
    conv => whnf
    refine ⟨trivial, ?_⟩
    conv => whnf
    refine ⟨_, _, rfl, rfl, ⟨i + 1, by rw [hw]; simp, by omega, ?_⟩, by rw [hw]; omega⟩
    have hb := bt_rng s i
    rw [en, wi (bt s i) (by omega) (by omega)]
    exact sum_step s i
  · rename_i q
    have q' := of_decide_eq_false q
    obtain rfl : i = s.size := by omega
    have hr := sumTo_rng s s.size
    obtain ⟨m, hm⟩ := Int.eq_ofNat_of_zero_le hr.1
    rw [hm, Int.toNat_natCast]
    have hs8 : (dec (m : Int)).size ≤ 8 := dec_size (k := 7) (by omega)
    conv => whnf
    refine .mk _ _ false Tryd.call55 (l1Dec_ok m (by omega)) (Nat.le_of_ble_eq_true rfl) (.inl rfl) ?_
    conv => whnf
    refine VLoop.enter [5] ?_
    conv => whnf
    refine VLoop.ind1 (n0 := 0) (α := ByteArray) noM [5] (fun s => ⟨29, 0, [(5, vstr s)], []⟩)
      (fun s => ∃ k : Nat, pad7 k s = seven m ∧ s.size ≤ 8 ∧ 7 ≤ s.size + k) (fun s => 8 - s.size) ?_ (dec m) ⟨7, rfl, hs8, by omega⟩
    rintro s ⟨k, hk, hs8, hk7⟩
    conv => whnf
    split
    · rename_i q
      have q' := of_decide_eq_true q
      obtain ⟨k, rfl⟩ : ∃ k', k = k' + 1 := ⟨k - 1, by omega⟩
      unfold pad7 at hk
      rw [q] at hk
      simp only at hk
      conv => whnf
      rw [abin_cat (a := _) (b := _) rfl rfl (by show 1 + s.size ≤ _; omega)]
      conv => whnf
      refine ⟨_, rfl, rfl, ⟨k, hk, ?_, ?_⟩, ?_⟩
      · rw [ByteArray.size_append]; show 1 + s.size ≤ 8; omega
      · rw [ByteArray.size_append]; show 7 ≤ 1 + s.size + k; omega
      · rw [ByteArray.size_append]; show 8 - (1 + s.size) < 8 - s.size; omega
    · rename_i q
      have q' := of_decide_eq_false q
      conv => whnf
      refine ⟨trivial, ?_⟩
      conv => whnf
      rw [← hk, pad7_stop q']
      exact ⟨rfl, rfl⟩
@[reducible] def sp : ByteArray := ⟨#[32]⟩
@[reducible] def co : ByteArray := ⟨#[58]⟩
theorem sp1 : (ByteArray.mk #[32]).size = 1 := rfl
theorem co1 : (ByteArray.mk #[58]).size = 1 := rfl
def wbody (w : RWord) : ByteArray := dec w.a ++ sp ++ dec w.b ++ sp ++ dec w.c ++ sp ++ dec w.d ++ sp ++ dec w.e ++ sp ++ w.f ++ co ++ w.g
/-- Within the limits that a word that is ok keeps. -/
structure Lim (w : RWord) : Prop where
  a0 : 0 ≤ w.a
  a1 : w.a < 100000
  b0 : 0 ≤ w.b
  b1 : w.b < 100000
  c0 : 0 ≤ w.c
  c1 : w.c < 100000
  d0 : 0 ≤ w.d
  d1 : w.d < 100000
  e0 : 0 ≤ w.e
  e1 : w.e < 100000
  f : w.f.size ≤ 6
  g : w.g.size ≤ 80
theorem wbody_size {w : RWord} (l : Lim w) : (wbody w).size ≤ 200 := by
  have h1 := decI_size l.a0 l.a1; have h2 := decI_size l.b0 l.b1; have h3 := decI_size l.c0 l.c1; have h4 := decI_size l.d0 l.d1; have h5 := decI_size l.e0 l.e1
  have h6 := l.f; have h7 := l.g
  unfold wbody sp co
  simp only [ByteArray.size_append, sp1, co1]; omega
set_option maxHeartbeats 16000000 in
set_option maxRecDepth 100000 in
theorem l7Write_ok (w : RWord) (l : Lim w) : Good Tryd.prog 28 [word w] [] (vstr (wbody w)) [] := by
  have h1 := decI_size l.a0 l.a1; have h2 := decI_size l.b0 l.b1; have h3 := decI_size l.c0 l.c1; have h4 := decI_size l.d0 l.d1; have h5 := decI_size l.e0 l.e1
  have h6 := l.f; have h7 := l.g
  refine good_e noM Tryd.func28 rfl rfl ?_
  conv => whnf
  refine VDraw.go ⟨_, [0, 1, 3, 7, 0, 16, 55, 127, 255, 0, 512, 1655, 4095, 8191, 0, 16384, 52855, 131071, 262143, 0, 524288, 1691255, 4194303, 8388607, 0, 16777216, 67108863, 134217727, 0, 268435456, 1073741823, 2147483647], [2, 6, 11, 16, 21], []⟩ rfl rfl (by decide +kernel) ?_
  conv => whnf
  refine .mk _ _ false Tryd.call55 (l1DecI_ok w.a l.a0 (Int.lt_trans l.a1 (by decide))) (Nat.le_of_ble_eq_true rfl) (.inl rfl) ?_
  conv => whnf
  rw [abin_cat (a := _) (b := _) rfl rfl (by simp only [ByteArray.size_append, sp1, co1]; omega)]
  conv => whnf
  refine .mk _ _ false Tryd.call55 (l1DecI_ok w.b l.b0 (Int.lt_trans l.b1 (by decide))) (Nat.le_of_ble_eq_true rfl) (.inl rfl) ?_
  conv => whnf
  rw [abin_cat (a := _) (b := _) rfl rfl (by simp only [ByteArray.size_append, sp1, co1]; omega)]
  conv => whnf
  rw [abin_cat (a := _) (b := _) rfl rfl (by simp only [ByteArray.size_append, sp1, co1]; omega)]
  conv => whnf
  refine .mk _ _ false Tryd.call55 (l1DecI_ok w.c l.c0 (Int.lt_trans l.c1 (by decide))) (Nat.le_of_ble_eq_true rfl) (.inl rfl) ?_
  conv => whnf
  rw [abin_cat (a := _) (b := _) rfl rfl (by simp only [ByteArray.size_append, sp1, co1]; omega)]
  conv => whnf
  rw [abin_cat (a := _) (b := _) rfl rfl (by simp only [ByteArray.size_append, sp1, co1]; omega)]
  conv => whnf
  refine .mk _ _ false Tryd.call55 (l1DecI_ok w.d l.d0 (Int.lt_trans l.d1 (by decide))) (Nat.le_of_ble_eq_true rfl) (.inl rfl) ?_
  conv => whnf
  rw [abin_cat (a := _) (b := _) rfl rfl (by simp only [ByteArray.size_append, sp1, co1]; omega)]
  conv => whnf
  rw [abin_cat (a := _) (b := _) rfl rfl (by simp only [ByteArray.size_append, sp1, co1]; omega)]
  conv => whnf
  refine .mk _ _ false Tryd.call55 (l1DecI_ok w.e l.e0 (Int.lt_trans l.e1 (by decide))) (Nat.le_of_ble_eq_true rfl) (.inl rfl) ?_
  conv => whnf
  rw [abin_cat (a := _) (b := _) rfl rfl (by simp only [ByteArray.size_append, sp1, co1]; omega)]
  conv => whnf
  rw [abin_cat (a := _) (b := _) rfl rfl (by simp only [ByteArray.size_append, sp1, co1]; omega)]
  conv => whnf
  rw [abin_cat (a := _) (b := _) rfl rfl (by simp only [ByteArray.size_append, sp1, co1]; omega)]
  conv => whnf
  rw [abin_cat (a := _) (b := _) rfl rfl (by simp only [ByteArray.size_append, sp1, co1]; omega)]
  conv => whnf
  rw [abin_cat (a := _) (b := _) rfl rfl (by simp only [ByteArray.size_append, sp1, co1]; omega)]
  conv => whnf
  refine ⟨trivial, ?_⟩
  conv => whnf
  exact ⟨rfl, rfl⟩
end Go.Abs.D
