import Derived.Test.YtfhcoohdmjfkbaaDoorGW6
set_option linter.unusedSimpArgs false
set_option linter.unusedVariables false
namespace Go.Abs.D
open Go Go.Abs Go.Proofs
attribute [local irreducible] IntKind.wrap

def wtext (w : RWord) : ByteArray := match okS w with
  | true => seven (sumTo (wbody w) (wbody w).size).toNat ++ wbody w
  | false => ⟨#[]⟩
theorem seven_size {n : Nat} (h : n < 2000000) : (seven n).size ≤ 8 := by
  unfold seven; exact pad7_size (dec_size (k := 7) (by omega))
set_option maxHeartbeats 16000000 in
set_option maxRecDepth 100000 in
theorem specWrite_ok (w : RWord) (hf : w.f.size ≤ 9223372036854775807) : Good Tryd.prog 9 [word w] [] (vstr (wtext w)) [] := by
  refine good_e noM Tryd.func9 rfl rfl ?_
  conv => whnf
  refine .mk _ _ false Tryd.call17 (specOk_ok w hf) (Nat.le_of_ble_eq_true rfl) (.inl rfl) ?_
  unfold wtext
  cases hk : okS w with
  | false =>
    conv => whnf
    refine ⟨trivial, ?_⟩
    conv => whnf
    exact ⟨rfl, rfl⟩
  | true =>
    have l := okS_lim hk
    have hb := wbody_size l
    have hr := sumTo_rng (wbody w) (wbody w).size
    have hs := seven_size (n := (sumTo (wbody w) (wbody w).size).toNat) (by omega)
    conv => whnf
    refine .mk _ _ false Tryd.call28 (l7Write_ok w l) (Nat.le_of_ble_eq_true rfl) (.inl rfl) ?_
    conv => whnf
    refine .mk _ _ false Tryd.call29 (l7Sum_ok (wbody w) (by omega)) (Nat.le_of_ble_eq_true rfl) (.inl rfl) ?_
    conv => whnf
    rw [abin_cat (a := _) (b := _) rfl rfl (by omega)]
    conv => whnf
    refine ⟨trivial, ?_⟩
    conv => whnf
    exact ⟨rfl, rfl⟩
set_option maxHeartbeats 16000000 in
set_option maxRecDepth 100000 in
theorem implWrite_ok (w : RWord) (hf : w.f.size ≤ 9223372036854775807) : Good Tryd.prog 11 [word w] [] (vstr (wtext w)) [] := by
  refine good_e noM Tryd.func11 rfl rfl ?_
  conv => whnf
  refine .mk _ _ false Tryd.call18 (implOk_ok w hf) (Nat.le_of_ble_eq_true rfl) (.inl rfl) ?_
  rw [← ok_same]
  unfold wtext
  cases hk : okS w with
  | false =>
    conv => whnf
    refine ⟨trivial, ?_⟩
    conv => whnf
    exact ⟨rfl, rfl⟩
  | true =>
    have l := okS_lim hk
    have hb := wbody_size l
    have hr := sumTo_rng (wbody w) (wbody w).size
    have hs := seven_size (n := (sumTo (wbody w) (wbody w).size).toNat) (by omega)
    have h1 := decI_size l.a0 l.a1; have h2 := decI_size l.b0 l.b1; have h3 := decI_size l.c0 l.c1; have h4 := decI_size l.d0 l.d1; have h5 := decI_size l.e0 l.e1
    have h6 := l.f; have h7 := l.g
    have la := l.a0; have la' := l.a1; have lb := l.b0; have lb' := l.b1; have lc := l.c0; have lc' := l.c1; have ld := l.d0; have ld' := l.d1; have le := l.e0; have le' := l.e1
    conv => whnf
    refine VDraw.go ⟨_, [0, 0, 2, 7, 15, 0, 0, 64, 239, 511, 1023, 0, 0, 4096, 14831, 32767, 65535, 0, 0, 262144, 948719, 2097151, 4194303, 0, 0, 16777216, 60717551, 134217727, 268435455, 0, 536870912, 2147483647, 4294967295, 0, 8589934592, 34359738367, 68719476735], [3, 8, 14, 20, 26], []⟩ rfl rfl (by decide +kernel) ?_
    conv => whnf
    refine .mk _ _ false Tryd.call30 (itoa_ok w.a (by omega) (by omega)) (Nat.le_of_ble_eq_true rfl) (.inl rfl) ?_
    conv => whnf
    rw [abin_cat (a := _) (b := _) rfl rfl (by simp only [ByteArray.size_append, sp1, co1]; omega)]
    conv => whnf
    refine .mk _ _ false Tryd.call30 (itoa_ok w.b (by omega) (by omega)) (Nat.le_of_ble_eq_true rfl) (.inl rfl) ?_
    conv => whnf
    rw [abin_cat (a := _) (b := _) rfl rfl (by simp only [ByteArray.size_append, sp1, co1]; omega)]
    conv => whnf
    rw [abin_cat (a := _) (b := _) rfl rfl (by simp only [ByteArray.size_append, sp1, co1]; omega)]
    conv => whnf
    refine .mk _ _ false Tryd.call30 (itoa_ok w.c (by omega) (by omega)) (Nat.le_of_ble_eq_true rfl) (.inl rfl) ?_
    conv => whnf
    rw [abin_cat (a := _) (b := _) rfl rfl (by simp only [ByteArray.size_append, sp1, co1]; omega)]
    conv => whnf
    rw [abin_cat (a := _) (b := _) rfl rfl (by simp only [ByteArray.size_append, sp1, co1]; omega)]
    conv => whnf
    refine .mk _ _ false Tryd.call30 (itoa_ok w.d (by omega) (by omega)) (Nat.le_of_ble_eq_true rfl) (.inl rfl) ?_
    conv => whnf
    rw [abin_cat (a := _) (b := _) rfl rfl (by simp only [ByteArray.size_append, sp1, co1]; omega)]
    conv => whnf
    rw [abin_cat (a := _) (b := _) rfl rfl (by simp only [ByteArray.size_append, sp1, co1]; omega)]
    conv => whnf
    refine .mk _ _ false Tryd.call30 (itoa_ok w.e (by omega) (by omega)) (Nat.le_of_ble_eq_true rfl) (.inl rfl) ?_
    conv => whnf
    rw [abin_cat (a := _) (b := _) rfl rfl (by simp only [ByteArray.size_append, sp1, co1]; omega)]
    conv => whnf
    rw [abin_cat (a := _) (b := _) rfl rfl (by simp only [ByteArray.size_append, sp1, co1]; omega)]
    conv => whnf
    rw [abin_cat (a := _) (b := _) rfl rfl (by simp only [ByteArray.size_append, sp1, co1]; omega)]
    conv => whnf
    rw [abin_cat (a := _) (b := _) rfl rfl (by simp only [ByteArray.size_append, sp1, co1]; omega)]
    conv => whnf
    rw [abin_cat (a := _) (b := _) rfl rfl (by simp only [ByteArray.size_append, sp1, co1]; omega)]
    conv => whnf
    refine VLoop.enter [4, 5, 47, 48] ?_
    conv => whnf
    refine VLoop.ind2 (n0 := 0) (α := Int) (β := Int) noM [4, 5, 47, 48] (fun a b => ⟨65, 0, [(4, vstr (wbody w)), (5, vint b), (47, vint (wbody w).size), (48, vint a)], []⟩)
      (fun a b => ∃ i : Nat, a = i ∧ i ≤ (wbody w).size ∧ b = sumTo (wbody w) i) (fun a _ => (((wbody w).size : Int) - a).toNat) ?_ 0 1 ⟨0, rfl, by omega, rfl⟩
    rintro _ _ ⟨i, rfl, hi, rfl⟩
    conv => whnf
    split
    · rename_i q
      have q' := of_decide_eq_true q
      have hw : IntKind.i64.wrap ((i : Int) + 1) = i + 1 := wi _ (by omega) (by omega)
      have en : (i : Int).toNat = i := Int.toNat_natCast i
      conv => whnf
      refine ⟨by omega, by omega, ?_⟩
      conv => whnf
      refine ⟨trivial, ?_⟩
      conv => whnf
      refine ⟨_, _, rfl, rfl, ⟨i + 1, by rw [hw]; simp, by omega, ?_⟩, by rw [hw]; omega⟩
      have hbt := bt_rng (wbody w) i
      rw [en, wi (bt (wbody w) i) (by omega) (by omega)]
      exact sum_step' (wbody w) i
    · rename_i q
      have q' := of_decide_eq_false q
      obtain rfl : i = (wbody w).size := by omega
      conv => whnf
      refine .mk _ _ false Tryd.call31 (sevenI_ok _ hr.1 (by omega)) (Nat.le_of_ble_eq_true rfl) (.inl rfl) ?_
      conv => whnf
      rw [abin_cat (a := _) (b := _) rfl rfl (by omega)]
      conv => whnf
      refine ⟨trivial, ?_⟩
      conv => whnf
      exact ⟨rfl, rfl⟩
end Go.Abs.D
