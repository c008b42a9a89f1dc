import Derived.Test.YtbpmfdpbgcpjeaaGCat6
set_option linter.unusedSimpArgs false
set_option linter.unusedVariables false
namespace Go.Abs.C
open Go Go.Abs Go.Proofs

set_option maxHeartbeats 16000000 in
set_option maxRecDepth 100000 in
theorem bits64_ok (n : Nat) (h : n ≤ 9) : ∃ r out, (∃ v, r = vint v ∧ out = []) ∧ Good Try.prog 92 [lit (.int .u64 n)] [] r out := by
  have : n = 0 ∨ n = 1 ∨ n = 2 ∨ n = 3 ∨ n = 4 ∨ n = 5 ∨ n = 6 ∨ n = 7 ∨ n = 8 ∨ n = 9 := by omega
  rcases this with rfl | rfl | rfl | rfl | rfl | rfl | rfl | rfl | rfl | rfl
  all_goals
    refine good_v noM Try.func92 rfl rfl ?_
    conv => whnf
    refine ⟨trivial, ?_⟩
    conv => whnf
    refine ⟨by decide, by decide +kernel, ?_⟩
    conv => whnf
    refine ⟨trivial, ?_⟩
    conv => whnf
    refine ⟨trivial, ?_⟩
    conv => whnf
    exact ⟨_, rfl, rfl⟩
set_option maxHeartbeats 16000000 in
set_option maxRecDepth 100000 in
theorem bits_ok (n : Nat) (h : n ≤ 9) : ∃ r out, (∃ v, r = vint v ∧ out = []) ∧ Good Try.prog 82 [lit (.int .u64 n)] [] r out := by
  refine good_v noM Try.func82 rfl rfl ?_
  conv => whnf
  obtain ⟨_, _, ⟨v, rfl, rfl⟩, hg⟩ := bits64_ok n h
  refine .mk _ _ false Try.call92 hg (Nat.le_of_ble_eq_true rfl) (.inl rfl) ?_
  conv => whnf
  refine ⟨trivial, ?_⟩
  conv => whnf
  exact ⟨_, rfl, rfl⟩

theorem w64 (n : Nat) (h : n ≤ 9) : IntKind.u64.wrap (n : Int) = n := by
  have : n = 0 ∨ n = 1 ∨ n = 2 ∨ n = 3 ∨ n = 4 ∨ n = 5 ∨ n = 6 ∨ n = 7 ∨ n = 8 ∨ n = 9 := by omega
  rcases this with rfl | rfl | rfl | rfl | rfl | rfl | rfl | rfl | rfl | rfl <;> decide
end Go.Abs.C
