/-
For every bucket, the program's BucketOk and the reference's BucketOk tell the same, so FnExactBucketOk returns true.
Conditions: none beyond the form's own reach.
-/
import Derived.Test.YtdigjaphfpfbaaaPFnExactBucketOkx0
import Derived.Test.YtdigjaphfpfbaaaPFnExactBucketOkx1
import Derived.Test.YtdigjaphfpfbaaaPureC
namespace Go.Proofs.Ytdigjaphfpfbaaa.Pure
open Go.RowKit Go.Proofs.Ytdigjaphfpfbaaa.PFnExactBucketOk Go.Proofs.Ytdigjaphfpfbaaa.C Go.Proofs.YtdigjaphfpfbaaaW.PrintWords Go.Proofs.YtdigjaphfpfbaaaW.PrintLast
set_option linter.unusedVariables false
set_option linter.unusedSimpArgs false

theorem l1In_f (a b c : Int) : spec_l1In.f a b c = some (decide (b ≤ a) && decide (a ≤ c)) := by
  unfold spec_l1In.f
  by_cases h : b ≤ a <;> simp [h]
theorem within_f (a b c : Int) : impl_within.f a b c = some (decide (b ≤ a) && decide (a ≤ c)) := by
  unfold impl_within.f
  by_cases h : b ≤ a <;> simp [h]
/-- Within limits: level, most, rate, at. -/
def bOk (l m r t : Int) : Bool := decide (0 ≤ m ∧ m ≤ 99999 ∧ 0 ≤ l ∧ l ≤ m ∧ 0 ≤ r ∧ r ≤ 99999 ∧ 0 ≤ t ∧ t ≤ 99999)
theorem specBOk (l m r t : Int) : spec_BucketOk.f l m r t = some (bOk l m r t) := by
  unfold spec_BucketOk.f
  simp only [l1In_f, Option.bind_some, bOk]
  by_cases h1 : 0 ≤ m ∧ m ≤ 99999 <;> by_cases h2 : 0 ≤ l ∧ l ≤ m <;> by_cases h3 : 0 ≤ r ∧ r ≤ 99999 <;> by_cases h4 : 0 ≤ t ∧ t ≤ 99999 <;> simp [h1, h2, h3, h4] <;> omega
theorem implBOk (l m r t : Int) : impl_BucketOk.f l m r t = some (bOk l m r t) := by
  unfold impl_BucketOk.f
  simp only [within_f, Option.bind_some, bOk]
  by_cases h1 : 0 ≤ m ∧ m ≤ 99999 <;> by_cases h2 : 0 ≤ l ∧ l ≤ m <;> by_cases h3 : 0 ≤ r ∧ r ≤ 99999 <;> by_cases h4 : 0 ≤ t ∧ t ≤ 99999 <;> simp [h1, h2, h3, h4] <;> omega
theorem bOk_iff {l m r t : Int} : bOk l m r t = true ↔ (0 ≤ m ∧ m ≤ 99999 ∧ 0 ≤ l ∧ l ≤ m ∧ 0 ≤ r ∧ r ≤ 99999 ∧ 0 ≤ t ∧ t ≤ 99999) := by
  unfold bOk
  exact decide_eq_true_iff

theorem FnExactBucketOk (a0_0 : Int) (a0_1 : Int) (a0_2 : Int) (a0_3 : Int) (h0 : ((Lit.int .i64 a0_0).wf = true) ∧ (((Lit.int .i64 a0_1).wf = true) ∧ (((Lit.int .i64 a0_2).wf = true) ∧ ((Lit.int .i64 a0_3).wf = true)))) :
    laws_FnExactBucketOk.f a0_0 a0_1 a0_2 a0_3 = some true := by
  unfold laws_FnExactBucketOk.f laws_toBucket.f
  simp only [Option.bind_some, specBOk, implBOk, bne_self_eq_false, Bool.false_eq_true, if_false]

end Go.Proofs.Ytdigjaphfpfbaaa.Pure
