/-
For every bucket, tick and number, the program's BucketWait and the reference's BucketWait tell the same, so FnExactBucketWait returns true.
Conditions: none beyond the form's own reach.
-/
import Derived.Test.YtdigjaphfpfbaaaPFnExactBucketWaitx0
import Derived.Test.YtdigjaphfpfbaaaPFnExactBucketWaitx1
import Derived.Test.YtdigjaphfpfbaaaPFnExactBucketWaitx2
import Derived.Test.YtdigjaphfpfbaaaPureC
namespace Go.Proofs.Ytdigjaphfpfbaaa.Pure
open Go.RowKit Go.Proofs.Ytdigjaphfpfbaaa.PFnExactBucketWait Go.Proofs.Ytdigjaphfpfbaaa.C Go.Proofs.YtdigjaphfpfbaaaW.PrintWords Go.Proofs.YtdigjaphfpfbaaaW.PrintLast
set_option linter.unusedVariables false
set_option linter.unusedSimpArgs false

theorem l1In_f (a b c : Int) : spec_l1In.f a b c = some (decide (b ≤ a) && decide (a ≤ c)) := by
  unfold spec_l1In.f
  by_cases h : b ≤ a <;> simp [h]
theorem within_f (a b c : Int) : impl_within.f a b c = some (decide (b ≤ a) && decide (a ≤ c)) := by
  unfold impl_within.f
  by_cases h : b ≤ a <;> simp [h]
/-- Within limits: level, most, rate, at. -/
def bOk (l m r t : Int) : Bool := decide (0 ≤ m ∧ m ≤ 99999 ∧ 0 ≤ l ∧ l ≤ m ∧ 0 ≤ r ∧ r ≤ 99999 ∧ 0 ≤ t ∧ t ≤ 99999)
theorem specBOk (l m r t : Int) : spec_BucketOk.f l m r t = some (bOk l m r t) := by
  unfold spec_BucketOk.f
  simp only [l1In_f, Option.bind_some, bOk]
  by_cases h1 : 0 ≤ m ∧ m ≤ 99999 <;> by_cases h2 : 0 ≤ l ∧ l ≤ m <;> by_cases h3 : 0 ≤ r ∧ r ≤ 99999 <;> by_cases h4 : 0 ≤ t ∧ t ≤ 99999 <;> simp [h1, h2, h3, h4] <;> omega
theorem implBOk (l m r t : Int) : impl_BucketOk.f l m r t = some (bOk l m r t) := by
  unfold impl_BucketOk.f
  simp only [within_f, Option.bind_some, bOk]
  by_cases h1 : 0 ≤ m ∧ m ≤ 99999 <;> by_cases h2 : 0 ≤ l ∧ l ≤ m <;> by_cases h3 : 0 ≤ r ∧ r ≤ 99999 <;> by_cases h4 : 0 ≤ t ∧ t ≤ 99999 <;> simp [h1, h2, h3, h4] <;> omega
theorem bOk_iff {l m r t : Int} : bOk l m r t = true ↔ (0 ≤ m ∧ m ≤ 99999 ∧ 0 ≤ l ∧ l ≤ m ∧ 0 ≤ r ∧ r ≤ 99999 ∧ 0 ≤ t ∧ t ≤ 99999) := by
  unfold bOk
  exact decide_eq_true_iff

theorem mulb {r d : Int} (hr : 0 ≤ r ∧ r ≤ 99999) (hd : 0 ≤ d ∧ d ≤ 99999) : 0 ≤ r * d ∧ r * d ≤ 9999800001 := by
  refine ⟨Int.mul_nonneg hr.1 hd.1, ?_⟩
  have h1 : r * d ≤ 99999 * d := Int.mul_le_mul_of_nonneg_right hr.2 hd.1
  omega
/-- The level at a tick that is not earlier. -/
def lvl (l m r t now : Int) : Int := if l + r * (now - t) > m then m else l + r * (now - t)
def bGood (l m r t now : Int) : Prop := bOk l m r t = true ∧ t ≤ now ∧ now ≤ 99999
theorem wlvl {l m r t now : Int} (h : bGood l m r t now) : wrap64 (l + wrap64 (r * wrap64 (now - t))) = l + r * (now - t) := by
  obtain ⟨h, h1, h2⟩ := h
  rw [bOk_iff] at h
  have hb := mulb (r := r) (d := now - t) (by omega) (by omega)
  rw [wz (n := now - t) (by omega), wz (n := r * (now - t)) (by omega), wz (by omega)]
theorem lvl_range {l m r t now : Int} (h : bGood l m r t now) : l ≤ lvl l m r t now ∧ lvl l m r t now ≤ m := by
  obtain ⟨h, h1, h2⟩ := h
  rw [bOk_iff] at h
  have hb := mulb (r := r) (d := now - t) (by omega) (by omega)
  unfold lvl
  split <;> omega

theorem specL11 {l m r t now : Int} (h : bGood l m r t now) : spec_l11At.f l m r t now = some (lvl l m r t now, m, r, now) := by
  unfold spec_l11At.f lvl
  rw [wlvl h]
  split <;> rfl
def bucketAt (l m r t now : Int) : Int × Int × Int × Int := if bOk l m r t = true ∧ 0 ≤ now ∧ now ≤ 99999 then (if now < t then (l, m, r, t) else (lvl l m r t now, m, r, now)) else (0, 0, 0, 0)

theorem mn_lvl {l m r t now : Int} (h : bGood l m r t now) : mn (wrap64 (l + wrap64 (r * wrap64 (now - t)))) m = lvl l m r t now := by
  rw [wlvl h]
  unfold mn lvl
  split <;> first | rfl | omega | (split <;> omega)
theorem implBAt (l m r t now : Int) : Ev (fun k => impl_BucketAt.f k l m r t now) (bucketAt l m r t now) := by
  unfold impl_BucketAt.f bucketAt
  simp only [implBOk, Option.bind_some, within_f]
  by_cases h : bOk l m r t = true
  · simp only [h, if_true, true_and]
    refine up ?_
    simp only [impl_BucketAt.j0]
    by_cases h1 : 0 ≤ now ∧ now ≤ 99999
    · simp only [h1.1, h1.2, decide_true, Bool.and_self, Bool.not_true, Bool.false_eq_true, if_false, and_self, if_true]
      by_cases h2 : now < t
      · simp only [if_pos h2]; exact Ev.now _
      · simp only [if_neg h2, mn_lvl ⟨h, Int.not_lt.1 h2, h1.2⟩]; exact Ev.now _
    · have e : (decide (0 ≤ now) && decide (now ≤ 99999)) = false := by rw [← Bool.decide_and]; exact decide_eq_false h1
      simp only [e, Bool.not_false, if_true, if_neg h1]; exact Ev.now _
  · have e : bOk l m r t = false := by simpa using h
    refine up ?_
    simp only [e, Bool.false_eq_true, if_false, impl_BucketAt.j0, if_true, false_and]
    exact Ev.now _

def bucketTake (l m r t now n : Int) : Int × Int × Int × Int × Bool :=
  if bOk l m r t = true ∧ t ≤ now ∧ now ≤ 99999 ∧ 0 ≤ n then (if lvl l m r t now < n then (lvl l m r t now, m, r, now, false) else (lvl l m r t now - n, m, r, now, true)) else (0, 0, 0, 0, false)
theorem bucketAt_good {l m r t now : Int} (h : bGood l m r t now) : bucketAt l m r t now = (lvl l m r t now, m, r, now) := by
  have ht := bOk_iff.1 h.1
  have h1 := h.2.1
  unfold bucketAt
  rw [if_pos ⟨h.1, by omega, h.2.2⟩, if_neg (by omega)]

def bucketWait (l m r t now n : Int) : Int :=
  if bOk l m r t = true ∧ t ≤ now ∧ now ≤ 99999 ∧ 0 ≤ n then (if n ≤ lvl l m r t now then 0 else if n > m then -1 else if r = 0 then -1 else (n - lvl l m r t now + r - 1) / r) else -1
theorem wwait {l m r t now n : Int} (h : bGood l m r t now) (h1 : ¬ n ≤ lvl l m r t now) (h2 : ¬ n > m) (h3 : ¬ r = 0) :
    wrap64 (Int.tdiv (wrap64 (wrap64 (wrap64 (n - lvl l m r t now) + r) - 1)) r) = (n - lvl l m r t now + r - 1) / r := by
  have ht := bOk_iff.1 h.1
  have hl := lvl_range h
  rw [wz (n := n - lvl l m r t now) (by omega), wz (n := n - lvl l m r t now + r) (by omega), wz (n := n - lvl l m r t now + r - 1) (by omega)]
  rw [Int.tdiv_eq_ediv_of_nonneg (by omega)]
  have a : 0 ≤ (n - lvl l m r t now + r - 1) / r := Int.ediv_nonneg (by omega) (by omega)
  have b : (n - lvl l m r t now + r - 1) / r ≤ n - lvl l m r t now + r - 1 := Int.ediv_le_self _ (by omega)
  rw [wz (by omega)]

theorem specBWait (l m r t now n : Int) : Ev (fun k => spec_BucketWait.f k l m r t now n) (bucketWait l m r t now n) := by
  unfold spec_BucketWait.f bucketWait
  simp only [specBOk, Option.bind_some, l1In_f]
  by_cases h : bOk l m r t = true
  · have ht := bOk_iff.1 h
    simp only [h, if_true, true_and]
    by_cases h1 : 0 ≤ now ∧ now ≤ 99999
    · simp only [h1.1, h1.2, decide_true, Bool.and_self, if_true, true_and]
      by_cases h2 : now < t
      · refine up ?_
        have h3 : ¬ (t ≤ now ∧ 0 ≤ n) := by omega
        simp only [if_pos h2, spec_BucketWait.j0, if_true, if_neg h3]
        exact Ev.now _
      · simp only [if_neg h2]
        have h2' : t ≤ now := Int.not_lt.1 h2
        refine up ?_
        by_cases h3 : n < 0
        · have h4 : ¬ (t ≤ now ∧ 0 ≤ n) := by omega
          simp only [spec_BucketWait.j0, h3, decide_true, if_true, if_neg h4]
          exact Ev.now _
        · have h4 : t ≤ now ∧ 0 ≤ n := by omega
          have g : bGood l m r t now := ⟨h, h2', h1.2⟩
          simp only [spec_BucketWait.j0, h3, decide_false, Bool.false_eq_true, if_false, if_pos h4, specL11 g, Option.bind_some]
          by_cases h5 : n ≤ lvl l m r t now
          · simp only [if_pos h5]; exact Ev.now _
          · by_cases h6 : n > m
            · simp only [if_neg h5, if_pos h6]; exact Ev.now _
            · by_cases h7 : r = 0
              · simp only [if_neg h5, if_neg h6, if_pos h7]; exact Ev.now _
              · simp only [if_neg h5, if_neg h6, if_neg h7, wwait g h5 h6 h7]; exact Ev.now _
    · have e : (decide (0 ≤ now) && decide (now ≤ 99999)) = false := by rw [← Bool.decide_and]; exact decide_eq_false h1
      have h3 : ¬ (t ≤ now ∧ now ≤ 99999 ∧ 0 ≤ n) := by omega
      refine up ?_
      simp only [e, Bool.false_eq_true, if_false, spec_BucketWait.j0, if_true, if_neg h3]
      exact Ev.now _
  · have e : bOk l m r t = false := by simpa using h
    refine up ?_
    simp only [e, Bool.false_eq_true, if_false, spec_BucketWait.j0, if_true, false_and]
    exact Ev.now _

theorem implBWait (l m r t now n : Int) : Ev (fun k => impl_BucketWait.f k l m r t now n) (bucketWait l m r t now n) := by
  unfold impl_BucketWait.f bucketWait
  simp only [implBOk, Option.bind_some, within_f]
  by_cases h : bOk l m r t = true
  · have ht := bOk_iff.1 h
    simp only [h, if_true, true_and]
    by_cases h1 : t ≤ now ∧ now ≤ 99999
    · simp only [h1.1, h1.2, decide_true, Bool.and_self, if_true, true_and]
      refine up ?_
      by_cases h3 : n < 0
      · have h4 : ¬ (0 ≤ n) := by omega
        simp only [impl_BucketWait.j0, h3, decide_true, if_true, if_neg h4]
        exact Ev.now _
      · have h4 : 0 ≤ n := by omega
        have g : bGood l m r t now := ⟨h, h1.1, h1.2⟩
        simp only [impl_BucketWait.j0, h3, decide_false, Bool.false_eq_true, if_false, if_pos h4]
        refine bd (implBAt _ _ _ _ _) ?_
        rw [bucketAt_good g]
        by_cases h5 : n ≤ lvl l m r t now
        · have h5' : lvl l m r t now ≥ n := h5
          simp only [if_pos h5, if_pos h5']; exact Ev.now _
        · have h5' : ¬ lvl l m r t now ≥ n := h5
          by_cases h6 : n > m
          · simp only [if_neg h5, if_neg h5', if_pos h6]; exact Ev.now _
          · by_cases h7 : r = 0
            · simp only [if_neg h5, if_neg h5', if_neg h6, if_pos h7]; exact Ev.now _
            · simp only [if_neg h5, if_neg h5', if_neg h6, if_neg h7, wwait g h5 h6 h7]; exact Ev.now _
    · have e : (decide (t ≤ now) && decide (now ≤ 99999)) = false := by rw [← Bool.decide_and]; exact decide_eq_false h1
      have h3 : ¬ (t ≤ now ∧ now ≤ 99999 ∧ 0 ≤ n) := by omega
      refine up ?_
      simp only [e, Bool.false_eq_true, if_false, impl_BucketWait.j0, if_true, if_neg h3]
      exact Ev.now _
  · have e : bOk l m r t = false := by simpa using h
    refine up ?_
    simp only [e, Bool.false_eq_true, if_false, impl_BucketWait.j0, if_true, false_and]
    exact Ev.now _

theorem FnExactBucketWait (a0_0 : Int) (a0_1 : Int) (a0_2 : Int) (a0_3 : Int) (a1 : Int) (a2 : Int) (h0 : ((Lit.int .i64 a0_0).wf = true) ∧ (((Lit.int .i64 a0_1).wf = true) ∧ (((Lit.int .i64 a0_2).wf = true) ∧ ((Lit.int .i64 a0_3).wf = true)))) (h1 : (Lit.int .i64 a1).wf = true) (h2 : (Lit.int .i64 a2).wf = true) :
    ∃ k, laws_FnExactBucketWait.f k a0_0 a0_1 a0_2 a0_3 a1 a2 = some true := by
  refine ex ?_
  unfold laws_FnExactBucketWait.f laws_toBucket.f
  simp only [Option.bind_some]
  refine bd (specBWait _ _ _ _ _ _) ?_
  refine bd (implBWait _ _ _ _ _ _) ?_
  simp only [if_true]
  exact Ev.now _

end Go.Proofs.Ytdigjaphfpfbaaa.Pure
