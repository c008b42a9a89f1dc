import Derived.Test.YtfhcoohdmjfkbaaDoorGW1
set_option linter.unusedSimpArgs false
set_option linter.unusedVariables false
namespace Go.Abs.D
open Go Go.Abs Go.Proofs
theorem w8 (d : Nat) (h : d < 10) : IntKind.u8.wrap (IntKind.i64.wrap (48 + (d : Int))) = 48 + d := by
  have : d = 0 ∨ d = 1 ∨ d = 2 ∨ d = 3 ∨ d = 4 ∨ d = 5 ∨ d = 6 ∨ d = 7 ∨ d = 8 ∨ d = 9 := by omega
  rcases this with rfl | rfl | rfl | rfl | rfl | rfl | rfl | rfl | rfl | rfl <;> decide
theorem digit_bytes (d : Nat) (h : d < 10) : elsBytes [[.lit (.int .u8 (48 + (d : Int)))]] = ⟨#[UInt8.ofNat (48 + d)]⟩ := by
  have : d = 0 ∨ d = 1 ∨ d = 2 ∨ d = 3 ∨ d = 4 ∨ d = 5 ∨ d = 6 ∨ d = 7 ∨ d = 8 ∨ d = 9 := by omega
  rcases this with rfl | rfl | rfl | rfl | rfl | rfl | rfl | rfl | rfl | rfl <;> rfl
theorem dec_small {n : Nat} (h : n < 10) : dec n = ⟨#[UInt8.ofNat (48 + n)]⟩ := by
  unfold dec; rw [Lib.itoa_nonneg, Lib.decDigits_one h]
theorem dec_big {n : Nat} (h : ¬ n < 10) : dec n = dec (n / 10 : Nat) ++ ⟨#[UInt8.ofNat (48 + n % 10)]⟩ := by
  unfold dec
  rw [Lib.itoa_nonneg, Lib.itoa_nonneg, Lib.decDigits, dif_neg h]
  apply ByteArray.ext
  rw [ByteArray.data_append]
  simp
theorem dec_size {n k : Nat} (h : n < 10 ^ (k + 1)) : (dec n).size ≤ k + 1 := by
  induction k generalizing n with
  | zero => rw [dec_small (by omega)]; exact Nat.le_refl 1
  | succ k ih =>
    by_cases q : n < 10
    · rw [dec_small q]; show 1 ≤ _; omega
    · rw [dec_big q, ByteArray.size_append]
      have := ih (n := n / 10) (by rw [Nat.pow_succ] at h; omega)
      show (dec (n / 10 : Nat)).size + 1 ≤ _
      omega
end Go.Abs.D
