import Derived.Test.YtfhcoohdmjfkbaaDoorGW2
set_option linter.unusedSimpArgs false
set_option linter.unusedVariables false
namespace Go.Abs.D
open Go Go.Abs Go.Proofs
attribute [local irreducible] IntKind.wrap

set_option maxHeartbeats 16000000 in
set_option maxRecDepth 100000 in
theorem l1Dec_ok (n : Nat) (h : n < 100000000) : Good Tryd.prog 55 [vint (n : Int)] [] (vstr (dec n)) [] := by
  induction n using Nat.strongRecOn with
  | _ n ih =>
  refine good_e noM Tryd.func55 rfl rfl ?_
  conv => whnf
  split
  · rename_i q
    have q' : n < 10 := by have := of_decide_eq_true q; omega
    conv => whnf
    refine ⟨trivial, ?_⟩
    conv => whnf
    rw [w8 n q']
    refine ⟨⟨Nat.le_refl 1, fun el hel => by cases List.mem_singleton.1 hel; exact isByte_mk⟩, ?_⟩
    conv => whnf
    refine ⟨trivial, ?_⟩
    conv => whnf
    refine ⟨?_, rfl⟩
    rw [dec_small q']
    exact congrArg vstr (digit_bytes n q')
  · rename_i q
    have q' : ¬ n < 10 := by have := of_decide_eq_false q; omega
    have hd : IntKind.i64.wrap ((n : Int).tdiv 10) = ((n / 10 : Nat) : Int) := by rw [Int.tdiv_eq_ediv_of_nonneg (by omega), wi _ (by omega) (by omega)]; omega
    have hr : ((n : Int).tmod 10) = ((n % 10 : Nat) : Int) := by rw [Int.tmod_eq_emod_of_nonneg (by omega)]; omega
    have ihd := ih (n / 10) (by omega) (by omega)
    have hs : (dec (n / 10 : Nat)).size ≤ 8 := dec_size (k := 7) (by omega)
    conv => whnf
    refine VDraw.go ⟨_, [0, 1, 3, 0, 8, 24, 56, 120, 248, 511, 1023], [2, 6, 7, 8], []⟩ rfl rfl (by decide +kernel) ?_
    conv => whnf
    rw [hd]
    refine .mk _ _ false Tryd.call55 ihd (Nat.le_of_ble_eq_true rfl) (.inl rfl) ?_
    conv => whnf
    refine ⟨trivial, ?_⟩
    conv => whnf
    rw [hr, w8 (n % 10) (by omega)]
    refine ⟨⟨Nat.le_refl 1, fun el hel => by cases List.mem_singleton.1 hel; exact isByte_mk⟩, ?_⟩
    conv => whnf
    rw [abin_cat (a := _) (b := _) rfl rfl (by rw [elsBytes_size]; show (dec (n / 10 : Nat)).size + 1 ≤ _; omega)]
    conv => whnf
    refine ⟨trivial, ?_⟩
    conv => whnf
    refine ⟨?_, rfl⟩
    rw [dec_big q']
    exact congrArg (fun b => vstr (dec (n / 10 : Nat) ++ b)) (digit_bytes (n % 10) (by omega))
/-- Noughts ahead, up to seven signs. -/
def pad7 : Nat → ByteArray → ByteArray
  | 0, s => s
  | k + 1, s => match decide ((s.size : Int) < 7) with
    | true => pad7 k (⟨#[48]⟩ ++ s)
    | false => s
theorem pad7_stop {k : Nat} {s : ByteArray} (h : ¬ (s.size : Int) < 7) : pad7 k s = s := by
  cases k with
  | zero => rfl
  | succ k => unfold pad7; rw [decide_eq_false h]
theorem pad7_size {k : Nat} : ∀ {s : ByteArray}, s.size ≤ 8 → (pad7 k s).size ≤ 8 := by
  induction k with
  | zero => exact fun h => h
  | succ k ih =>
    intro s h
    unfold pad7
    split
    · rename_i q; have := of_decide_eq_true q
      exact ih (by rw [ByteArray.size_append]; show 1 + s.size ≤ 8; omega)
    · exact h
def seven (n : Nat) : ByteArray := pad7 7 (dec n)
set_option maxHeartbeats 16000000 in
set_option maxRecDepth 100000 in
theorem seven_ok (n : Nat) (h : n < 2000000) : Good Tryd.prog 31 [vint (n : Int)] [] (vstr (seven n)) [] := by
  have hs : (dec n).size ≤ 8 := dec_size (k := 7) (by omega)
  refine good_e noM Tryd.func31 rfl rfl ?_
  conv => whnf
  refine .mk _ _ false Tryd.call30 (itoa_ok n (by omega) (by omega)) (Nat.le_of_ble_eq_true rfl) (.inl rfl) ?_
  conv => whnf
  refine VLoop.enter [3] ?_
  conv => whnf
  refine VLoop.ind1 (n0 := 0) (α := ByteArray) noM [3] (fun s => ⟨12, 0, [(3, vstr s)], []⟩)
    (fun s => ∃ k : Nat, pad7 k s = seven n ∧ s.size ≤ 8 ∧ 7 ≤ s.size + k) (fun s => 8 - s.size) ?_ (dec n) ⟨7, rfl, hs, by omega⟩
  rintro s ⟨k, hk, hs8, hk7⟩
  conv => whnf
  split
  · rename_i q
    have q' := of_decide_eq_true q
    obtain ⟨k, rfl⟩ : ∃ k', k = k' + 1 := ⟨k - 1, by omega⟩
    unfold pad7 at hk
    rw [q] at hk
    simp only at hk
    conv => whnf
    rw [abin_cat (a := _) (b := _) rfl rfl (by show 1 + s.size ≤ _; omega)]
    conv => whnf
    refine ⟨_, rfl, rfl, ⟨k, hk, ?_, ?_⟩, ?_⟩
    · rw [ByteArray.size_append]; show 1 + s.size ≤ 8; omega
    · rw [ByteArray.size_append]; show 7 ≤ 1 + s.size + k; omega
    · rw [ByteArray.size_append]; show 8 - (1 + s.size) < 8 - s.size; omega
  · rename_i q
    have q' := of_decide_eq_false q
    conv => whnf
    refine ⟨trivial, ?_⟩
    conv => whnf
    rw [← hk, pad7_stop q']
    exact ⟨rfl, rfl⟩
/-- The sum of a text's first signs. -/
def sumTo (s : ByteArray) : Nat → Int
  | 0 => 1
  | i + 1 => ((sumTo s i) * 31 + bt s i + 7).tmod 1000003
theorem bt_rng (s : ByteArray) (i : Nat) : 0 ≤ bt s i ∧ bt s i ≤ 255 := by
  unfold bt
  first
  | (split <;> omega)
  | (constructor <;> omega)
  | (have := UInt8.toNat_lt (s.data.toList.getD i 0); constructor <;> omega)
end Go.Abs.D
