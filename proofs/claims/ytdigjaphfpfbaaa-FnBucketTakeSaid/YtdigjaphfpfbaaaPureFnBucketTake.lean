/-
Tokens are conserved: for every code the law FnBucketTake returns true: BucketTake is the reference's, taking n equals taking two parts of n at the same time, and the level decreases by exactly n.
Conditions: none beyond the form's own reach.
-/
import Derived.Test.YtdigjaphfpfbaaaPFnBucketTakex0
import Derived.Test.YtdigjaphfpfbaaaPFnBucketTakex1
import Derived.Test.YtdigjaphfpfbaaaPFnBucketTakex2
import Derived.Test.YtdigjaphfpfbaaaPFnBucketTakex3
import Derived.Test.YtdigjaphfpfbaaaPFnBucketTakex4
import Derived.Test.YtdigjaphfpfbaaaPFnBucketTakex5
import Derived.Test.YtdigjaphfpfbaaaPFnBucketTakex6
import Derived.Test.YtdigjaphfpfbaaaPureC
namespace Go.Proofs.Ytdigjaphfpfbaaa.Pure
open Go.RowKit Go.Proofs.Ytdigjaphfpfbaaa.PFnBucketTake Go.Proofs.Ytdigjaphfpfbaaa.C Go.Proofs.YtdigjaphfpfbaaaW.PrintWords Go.Proofs.YtdigjaphfpfbaaaW.PrintLast
set_option linter.unusedVariables false
set_option linter.unusedSimpArgs false

theorem l1In_f (a b c : Int) : spec_l1In.f a b c = some (decide (b ≤ a) && decide (a ≤ c)) := by
  unfold spec_l1In.f
  by_cases h : b ≤ a <;> simp [h]
theorem within_f (a b c : Int) : impl_within.f a b c = some (decide (b ≤ a) && decide (a ≤ c)) := by
  unfold impl_within.f
  by_cases h : b ≤ a <;> simp [h]
/-- Within limits: level, most, rate, at. -/
def bOk (l m r t : Int) : Bool := decide (0 ≤ m ∧ m ≤ 99999 ∧ 0 ≤ l ∧ l ≤ m ∧ 0 ≤ r ∧ r ≤ 99999 ∧ 0 ≤ t ∧ t ≤ 99999)
theorem specBOk (l m r t : Int) : spec_BucketOk.f l m r t = some (bOk l m r t) := by
  unfold spec_BucketOk.f
  simp only [l1In_f, Option.bind_some, bOk]
  by_cases h1 : 0 ≤ m ∧ m ≤ 99999 <;> by_cases h2 : 0 ≤ l ∧ l ≤ m <;> by_cases h3 : 0 ≤ r ∧ r ≤ 99999 <;> by_cases h4 : 0 ≤ t ∧ t ≤ 99999 <;> simp [h1, h2, h3, h4] <;> omega
theorem implBOk (l m r t : Int) : impl_BucketOk.f l m r t = some (bOk l m r t) := by
  unfold impl_BucketOk.f
  simp only [within_f, Option.bind_some, bOk]
  by_cases h1 : 0 ≤ m ∧ m ≤ 99999 <;> by_cases h2 : 0 ≤ l ∧ l ≤ m <;> by_cases h3 : 0 ≤ r ∧ r ≤ 99999 <;> by_cases h4 : 0 ≤ t ∧ t ≤ 99999 <;> simp [h1, h2, h3, h4] <;> omega
theorem bOk_iff {l m r t : Int} : bOk l m r t = true ↔ (0 ≤ m ∧ m ≤ 99999 ∧ 0 ≤ l ∧ l ≤ m ∧ 0 ≤ r ∧ r ≤ 99999 ∧ 0 ≤ t ∧ t ≤ 99999) := by
  unfold bOk
  exact decide_eq_true_iff

theorem mulb {r d : Int} (hr : 0 ≤ r ∧ r ≤ 99999) (hd : 0 ≤ d ∧ d ≤ 99999) : 0 ≤ r * d ∧ r * d ≤ 9999800001 := by
  refine ⟨Int.mul_nonneg hr.1 hd.1, ?_⟩
  have h1 : r * d ≤ 99999 * d := Int.mul_le_mul_of_nonneg_right hr.2 hd.1
  omega
/-- The level at a tick that is not earlier. -/
def lvl (l m r t now : Int) : Int := if l + r * (now - t) > m then m else l + r * (now - t)
def bGood (l m r t now : Int) : Prop := bOk l m r t = true ∧ t ≤ now ∧ now ≤ 99999
theorem wlvl {l m r t now : Int} (h : bGood l m r t now) : wrap64 (l + wrap64 (r * wrap64 (now - t))) = l + r * (now - t) := by
  obtain ⟨h, h1, h2⟩ := h
  rw [bOk_iff] at h
  have hb := mulb (r := r) (d := now - t) (by omega) (by omega)
  rw [wz (n := now - t) (by omega), wz (n := r * (now - t)) (by omega), wz (by omega)]
theorem lvl_range {l m r t now : Int} (h : bGood l m r t now) : l ≤ lvl l m r t now ∧ lvl l m r t now ≤ m := by
  obtain ⟨h, h1, h2⟩ := h
  rw [bOk_iff] at h
  have hb := mulb (r := r) (d := now - t) (by omega) (by omega)
  unfold lvl
  split <;> omega

theorem specL11 {l m r t now : Int} (h : bGood l m r t now) : spec_l11At.f l m r t now = some (lvl l m r t now, m, r, now) := by
  unfold spec_l11At.f lvl
  rw [wlvl h]
  split <;> rfl
def bucketAt (l m r t now : Int) : Int × Int × Int × Int := if bOk l m r t = true ∧ 0 ≤ now ∧ now ≤ 99999 then (if now < t then (l, m, r, t) else (lvl l m r t now, m, r, now)) else (0, 0, 0, 0)

theorem mn_lvl {l m r t now : Int} (h : bGood l m r t now) : mn (wrap64 (l + wrap64 (r * wrap64 (now - t)))) m = lvl l m r t now := by
  rw [wlvl h]
  unfold mn lvl
  split <;> first | rfl | omega | (split <;> omega)
theorem implBAt (l m r t now : Int) : Ev (fun k => impl_BucketAt.f k l m r t now) (bucketAt l m r t now) := by
  unfold impl_BucketAt.f bucketAt
  simp only [implBOk, Option.bind_some, within_f]
  by_cases h : bOk l m r t = true
  · simp only [h, if_true, true_and]
    refine up ?_
    simp only [impl_BucketAt.j0]
    by_cases h1 : 0 ≤ now ∧ now ≤ 99999
    · simp only [h1.1, h1.2, decide_true, Bool.and_self, Bool.not_true, Bool.false_eq_true, if_false, and_self, if_true]
      by_cases h2 : now < t
      · simp only [if_pos h2]; exact Ev.now _
      · simp only [if_neg h2, mn_lvl ⟨h, Int.not_lt.1 h2, h1.2⟩]; exact Ev.now _
    · have e : (decide (0 ≤ now) && decide (now ≤ 99999)) = false := by rw [← Bool.decide_and]; exact decide_eq_false h1
      simp only [e, Bool.not_false, if_true, if_neg h1]; exact Ev.now _
  · have e : bOk l m r t = false := by simpa using h
    refine up ?_
    simp only [e, Bool.false_eq_true, if_false, impl_BucketAt.j0, if_true, false_and]
    exact Ev.now _

def bucketTake (l m r t now n : Int) : Int × Int × Int × Int × Bool :=
  if bOk l m r t = true ∧ t ≤ now ∧ now ≤ 99999 ∧ 0 ≤ n then (if lvl l m r t now < n then (lvl l m r t now, m, r, now, false) else (lvl l m r t now - n, m, r, now, true)) else (0, 0, 0, 0, false)
theorem bucketAt_good {l m r t now : Int} (h : bGood l m r t now) : bucketAt l m r t now = (lvl l m r t now, m, r, now) := by
  have ht := bOk_iff.1 h.1
  have h1 := h.2.1
  unfold bucketAt
  rw [if_pos ⟨h.1, by omega, h.2.2⟩, if_neg (by omega)]

theorem specBTake (l m r t now n : Int) : Ev (fun k => spec_BucketTake.f k l m r t now n) (bucketTake l m r t now n) := by
  unfold spec_BucketTake.f bucketTake
  simp only [specBOk, Option.bind_some, l1In_f]
  by_cases h : bOk l m r t = true
  · have ht := bOk_iff.1 h
    simp only [h, if_true, true_and]
    by_cases h1 : 0 ≤ now ∧ now ≤ 99999
    · simp only [h1.1, h1.2, decide_true, Bool.and_self, if_true, true_and]
      by_cases h2 : now < t
      · refine up ?_
        have h3 : ¬ (t ≤ now ∧ 0 ≤ n) := by omega
        simp only [if_pos h2, spec_BucketTake.j0, if_true, if_neg h3]
        exact Ev.now _
      · simp only [if_neg h2]
        have h2' : t ≤ now := Int.not_lt.1 h2
        refine up ?_
        by_cases h3 : n < 0
        · have h4 : ¬ (t ≤ now ∧ 0 ≤ n) := by omega
          simp only [spec_BucketTake.j0, h3, decide_true, if_true, if_neg h4]
          exact Ev.now _
        · have h4 : t ≤ now ∧ 0 ≤ n := by omega
          have g : bGood l m r t now := ⟨h, h2', h1.2⟩
          have hl := lvl_range g
          simp only [spec_BucketTake.j0, h3, decide_false, Bool.false_eq_true, if_false, if_pos h4, specL11 g, Option.bind_some]
          by_cases h5 : n > lvl l m r t now
          · have h6 : lvl l m r t now < n := h5
            simp only [if_pos h5, if_pos h6]; exact Ev.now _
          · have h6 : ¬ lvl l m r t now < n := h5
            simp only [if_neg h5, if_neg h6, wz (n := lvl l m r t now - n) (by omega)]; exact Ev.now _
    · have e : (decide (0 ≤ now) && decide (now ≤ 99999)) = false := by rw [← Bool.decide_and]; exact decide_eq_false h1
      have h3 : ¬ (t ≤ now ∧ now ≤ 99999 ∧ 0 ≤ n) := by omega
      refine up ?_
      simp only [e, Bool.false_eq_true, if_false, spec_BucketTake.j0, if_true, if_neg h3]
      exact Ev.now _
  · have e : bOk l m r t = false := by simpa using h
    refine up ?_
    simp only [e, Bool.false_eq_true, if_false, spec_BucketTake.j0, if_true, false_and]
    exact Ev.now _

theorem implBTake (l m r t now n : Int) : Ev (fun k => impl_BucketTake.f k l m r t now n) (bucketTake l m r t now n) := by
  unfold impl_BucketTake.f bucketTake
  simp only [implBOk, Option.bind_some, within_f]
  by_cases h : bOk l m r t = true
  · have ht := bOk_iff.1 h
    simp only [h, if_true, true_and]
    by_cases h1 : t ≤ now ∧ now ≤ 99999
    · simp only [h1.1, h1.2, decide_true, Bool.and_self, if_true, true_and]
      refine up ?_
      by_cases h3 : n < 0
      · have h4 : ¬ (0 ≤ n) := by omega
        simp only [impl_BucketTake.j0, h3, decide_true, if_true, if_neg h4]
        exact Ev.now _
      · have h4 : 0 ≤ n := by omega
        have g : bGood l m r t now := ⟨h, h1.1, h1.2⟩
        have hl := lvl_range g
        simp only [impl_BucketTake.j0, h3, decide_false, Bool.false_eq_true, if_false, if_pos h4]
        refine bd (implBAt _ _ _ _ _) ?_
        rw [bucketAt_good g]
        by_cases h6 : lvl l m r t now < n
        · simp only [if_pos h6]; exact Ev.now _
        · simp only [if_neg h6, wz (n := lvl l m r t now - n) (by omega)]; exact Ev.now _
    · have e : (decide (t ≤ now) && decide (now ≤ 99999)) = false := by rw [← Bool.decide_and]; exact decide_eq_false h1
      have h3 : ¬ (t ≤ now ∧ now ≤ 99999 ∧ 0 ≤ n) := by omega
      refine up ?_
      simp only [e, Bool.false_eq_true, if_false, impl_BucketTake.j0, if_true, if_neg h3]
      exact Ev.now _
  · have e : bOk l m r t = false := by simpa using h
    refine up ?_
    simp only [e, Bool.false_eq_true, if_false, impl_BucketTake.j0, if_true, false_and]
    exact Ev.now _

theorem open_f (l : List Int) : spec_l1Open.f l = some (l.take 2000, 0) := by
  unfold spec_l1Open.f
  by_cases h : (l.length : Int) > 2000
  · have h2 : 2000 ≤ (l.length : Int) := by omega
    rw [if_pos h, if_pos h2]
  · rw [if_neg h, List.take_of_length_le (by omega)]
/-- The bytes of a code that is read. -/
structure Code (b : List Int) : Prop where
  byte : ∀ x ∈ b, 0 ≤ x ∧ x ≤ 255
  len : b.length ≤ 2000
theorem Code.of {l : List Int} (h : ∀ x ∈ l, (Lit.int .u8 x).wf = true) : Code (l.take 2000) :=
  ⟨fun x hx => wf_u8 (h x (List.mem_of_mem_take hx)), by rw [List.length_take]; omega⟩
theorem tmod_range {a n : Int} (ha : 0 ≤ a) (hn : 1 ≤ n) : 0 ≤ Int.tmod a n ∧ Int.tmod a n < n := ⟨Int.tmod_nonneg n ha, Int.tmod_lt_of_pos a (by omega)⟩
theorem pick_main (b : List Int) (hb : Code b) (p n : Int) (hp : 0 ≤ p ∧ p ≤ 1000000000000) (hn : 1 ≤ n) (hl : 1 ≤ (b.length : Int)) :
    ∃ v, Ev (fun k => spec_l1Rd_pick.j0 k n false b (p + 1)) (v, p + 1) ∧ 0 ≤ v ∧ v < n := by
  have hl2 : (b.length : Int) ≤ 2000 := by have := hb.len; omega
  have e1 : wrap64 (p + 1 - 1) = p := by rw [wz (by omega)]; omega
  have n0 : ¬ n = 0 := by omega
  by_cases h1 : p < (b.length : Int)
  · have hr := rd_mem (P := fun x => 0 ≤ x ∧ x ≤ 255) hb.byte p hp.1 h1
    have t := tmod_range hr.1 hn
    refine ⟨Int.tmod (rd b p) n, up ?_, t.1, t.2⟩
    have e2 : wrap64 (rd b p) = rd b p := wz (by omega)
    simp only [spec_l1Rd_pick.j0, Bool.false_eq_true, if_false, e1, if_pos h1, if_pos hp.1, if_neg n0, e2]
    exact Ev.now _
  · have l0 : ¬ (b.length : Int) = 0 := by omega
    have t1 := tmod_range hp.1 hl
    have e7 : wrap64 (wrap64 (p * 7) + 3) = p * 7 + 3 := by rw [wz (n := p * 7) (by omega), wz (by omega)]
    have t2 := tmod_range (a := p * 7 + 3) (by omega) hl
    have r1 := rd_mem (P := fun x => 0 ≤ x ∧ x ≤ 255) hb.byte (Int.tmod p b.length) t1.1 t1.2
    have r2 := rd_mem (P := fun x => 0 ≤ x ∧ x ≤ 255) hb.byte (Int.tmod (p * 7 + 3) b.length) t2.1 t2.2
    have d0 : 0 ≤ Int.tdiv p b.length ∧ Int.tdiv p b.length ≤ p := by
      rw [Int.tdiv_eq_ediv_of_nonneg hp.1]
      exact ⟨Int.ediv_nonneg hp.1 (by omega), Int.ediv_le_self _ hp.1⟩
    generalize hx1 : rd b (Int.tmod p b.length) = x1 at *
    generalize hx2 : rd b (Int.tmod (p * 7 + 3) b.length) = x2 at *
    generalize hq : Int.tdiv p b.length = q at *
    have w1 : wrap64 x1 = x1 := wz (by omega)
    have w2 : wrap64 x2 = x2 := wz (by omega)
    have w3 : wrap64 (x1 * 131) = x1 * 131 := wz (by omega)
    have w4 : wrap64 (x2 * 1117) = x2 * 1117 := wz (by omega)
    have w5 : wrap64 (x1 * 131 + x2 * 1117) = x1 * 131 + x2 * 1117 := wz (by omega)
    have w6 : wrap64 (p * 29) = p * 29 := wz (by omega)
    have w7 : wrap64 (x1 * 131 + x2 * 1117 + p * 29) = x1 * 131 + x2 * 1117 + p * 29 := wz (by omega)
    have w8 : wrap64 q = q := wz (by omega)
    have w9 : wrap64 (q * 53) = q * 53 := wz (by omega)
    have wA : wrap64 (x1 * 131 + x2 * 1117 + p * 29 + q * 53) = x1 * 131 + x2 * 1117 + p * 29 + q * 53 := wz (by omega)
    generalize hz : x1 * 131 + x2 * 1117 + p * 29 + q * 53 = z at *
    have z0 : 0 ≤ z ∧ z < 9223372036854775808 := by omega
    have d1 : 0 ≤ Int.tdiv z 64 ∧ Int.tdiv z 64 ≤ z := by
      rw [Int.tdiv_eq_ediv_of_nonneg z0.1]
      omega
    have wB : wrap64 (Int.tdiv z 64) = Int.tdiv z 64 := wz (by omega)
    have hX := xor_nonneg z (Int.tdiv z 64) z0.1 d1.1 z0.2 (by omega)
    have t := tmod_range hX hn
    refine ⟨_, up ?_, t.1, t.2⟩
    simp only [spec_l1Rd_pick.j0, Bool.false_eq_true, if_false, e1, if_neg h1, if_neg l0, if_pos t1.1, if_pos t1.2, e7, if_pos t2.1, if_pos t2.2, if_neg n0, hx1, hx2, hq, w1, w2, w3, w4, w5, w6, w7, w8, w9, hz, wA, wB]
    exact Ev.now _
/-- One number is read: below n; nought where there is none. -/
theorem pick (b : List Int) (hb : Code b) (p n : Int) (hp : 0 ≤ p ∧ p ≤ 1000000000000) :
    ∃ v, Ev (fun k => spec_l1Rd_pick.f k b p n) (v, p + 1) ∧ 0 ≤ v ∧ (1 ≤ n → v < n) := by
  have e0 : wrap64 (p + 1) = p + 1 := wz (by omega)
  unfold spec_l1Rd_pick.f
  by_cases hn : n < 1
  · refine ⟨0, ?_, by omega, by omega⟩
    simp only [if_pos hn, e0]
    refine up ?_
    simp only [spec_l1Rd_pick.j0, if_true]
    exact Ev.now _
  · simp only [if_neg hn, e0]
    by_cases hl : (b.length : Int) = 0
    · refine ⟨0, ?_, by omega, by omega⟩
      have e : ((b.length : Int) == 0) = true := by simpa using hl
      simp only [e]
      refine up ?_
      simp only [spec_l1Rd_pick.j0, if_true]
      exact Ev.now _
    · have e : ((b.length : Int) == 0) = false := by simpa using hl
      simp only [e]
      obtain ⟨v, h1, h2, h3⟩ := pick_main b hb p n hp (by omega) (by omega)
      exact ⟨v, h1, h2, fun _ => h3⟩

theorem drawBucket (b : List Int) (hb : Code b) (p : Int) (hp : 0 ≤ p ∧ p ≤ 1000000) :
    ∃ l m r t q, Ev (fun k => spec_l15Bucket.f k b p) (l, m, r, t, q) ∧ 0 ≤ q ∧ q ≤ p + 10 ∧ -1 ≤ l ∧ l ≤ 100 ∧ 0 ≤ m ∧ m ≤ 60 ∧ -1 ≤ r ∧ r ≤ 12 ∧ 0 ≤ t ∧ t ≤ 100000 := by
  obtain ⟨m, h1, a1, b1⟩ := pick b hb p 60 (by omega)
  obtain ⟨r, h2, a2, b2⟩ := pick b hb (p + 1) 12 (by omega)
  obtain ⟨t, h3, a3, b3⟩ := pick b hb (p + 1 + 1) 50 (by omega)
  obtain ⟨l, h4, a4, b4⟩ := pick b hb (p + 1 + 1 + 1) (m + 1) (by omega)
  obtain ⟨c, h5, a5, b5⟩ := pick b hb (p + 1 + 1 + 1 + 1) 16 (by omega)
  obtain ⟨s, h6, a6, b6⟩ := pick b hb (p + 1 + 1 + 1 + 1 + 1) 2 (by omega)
  have c1 := b1 (by omega)
  have c2 := b2 (by omega)
  have c3 := b3 (by omega)
  have c4 := b4 (by omega)
  have c5 := b5 (by omega)
  have c6 := b6 (by omega)
  have em : wrap64 (m + 1) = m + 1 := wz (by omega)
  by_cases e0 : c = 0
  · have hs : s < ((([(-1), m + 1] : List Int).length : Nat) : Int) := by simp; omega
    have hrd := rd_mem (xs := [(-1), m + 1]) (P := fun x => -1 ≤ x ∧ x ≤ 61) (by simp; omega) s a6 hs
    refine ⟨rd [(-1), m + 1] s, m, r, t, p + 1 + 1 + 1 + 1 + 1 + 1, ?_, by omega, by omega, hrd.1, by omega, a1, by omega, by omega, by omega, a3, by omega⟩
    · unfold spec_l15Bucket.f
      refine bd h1 ?_
      refine bd h2 ?_
      refine bd h3 ?_
      simp only [em]
      refine bd h4 ?_
      refine bd h5 ?_
      simp only [if_pos e0, Option.bind_some]
      refine bd h6 ?_
      simp only [if_pos a6, if_pos hs]
      exact Ev.now _
  · by_cases e1 : c = 1
    · refine ⟨l, m, -1, t, p + 1 + 1 + 1 + 1 + 1, ?_, by omega, by omega, by omega, by omega, a1, by omega, by omega, by omega, a3, by omega⟩
      · unfold spec_l15Bucket.f
        refine bd h1 ?_
        refine bd h2 ?_
        refine bd h3 ?_
        simp only [em]
        refine bd h4 ?_
        refine bd h5 ?_
        simp only [if_neg e0, if_pos e1]
        exact Ev.now _
    · by_cases e2 : c = 2
      · refine ⟨l, m, r, 100000, p + 1 + 1 + 1 + 1 + 1, ?_, by omega, by omega, by omega, by omega, a1, by omega, by omega, by omega, by omega, by omega⟩
        · unfold spec_l15Bucket.f
          refine bd h1 ?_
          refine bd h2 ?_
          refine bd h3 ?_
          simp only [em]
          refine bd h4 ?_
          refine bd h5 ?_
          simp only [if_neg e0, if_neg e1, if_pos e2]
          exact Ev.now _
      · refine ⟨l, m, r, t, p + 1 + 1 + 1 + 1 + 1, ?_, by omega, by omega, by omega, by omega, a1, by omega, by omega, by omega, a3, by omega⟩
        · unfold spec_l15Bucket.f
          refine bd h1 ?_
          refine bd h2 ?_
          refine bd h3 ?_
          simp only [em]
          refine bd h4 ?_
          refine bd h5 ?_
          simp only [if_neg e0, if_neg e1, if_neg e2]
          exact Ev.now _

theorem drawBucketTake (l0 : List Int) (hw : ∀ x ∈ l0, (Lit.int .u8 x).wf = true) : ∃ l m r t now n, Ev (fun k => spec_DrawBucketTake.f k l0) (l, m, r, t, now, n) ∧ -1 ≤ now ∧ now ≤ 200000 ∧ -1 ≤ n ∧ n ≤ 100 := by
  have hb := Code.of hw
  generalize hB : l0.take 2000 = b at hb
  obtain ⟨l, m, r, t, q, h1, q0, q1, _, _, _, _, _, _, t0, t1⟩ := drawBucket b hb 0 (by omega)
  obtain ⟨x1, h2, a2, b2⟩ := pick b hb q 9 (by omega)
  obtain ⟨x2, h3, a3, b3⟩ := pick b hb (q + 1) 80 (by omega)
  obtain ⟨x3, h4, a4, b4⟩ := pick b hb (q + 1 + 1) 12 (by omega)
  obtain ⟨x4, h5, a5, b5⟩ := pick b hb (q + 1 + 1 + 1) 60 (by omega)
  obtain ⟨x5, h6, a6, b6⟩ := pick b hb (q + 1 + 1 + 1 + 1) 10 (by omega)
  have c2 := b2 (by omega)
  have c3 := b3 (by omega)
  have c4 := b4 (by omega)
  have c5 := b5 (by omega)
  have c6 := b6 (by omega)
  have e0 : wrap64 (t + x1) = t + x1 := wz (by omega)
  have e1 : wrap64 (x3 * 3) = x3 * 3 := wz (by omega)
  have e2 : Int.tdiv (x3 * 3) 12 = x3 * 3 / 12 := Int.tdiv_eq_ediv_of_nonneg (by omega)
  have e3 : wrap64 (x3 * 3 / 12) = x3 * 3 / 12 := wz (by omega)
  have e4 : wrap64 (x5 * 3) = x5 * 3 := wz (by omega)
  have e5 : Int.tdiv (x5 * 3) 10 = x5 * 3 / 10 := Int.tdiv_eq_ediv_of_nonneg (by omega)
  have e6 : wrap64 (x5 * 3 / 10) = x5 * 3 / 10 := wz (by omega)
  have g1 : 0 ≤ x3 * 3 / 12 := by omega
  have g2 : x3 * 3 / 12 < ((([t + x1, x2, (-1)] : List Int).length : Nat) : Int) := by simp; omega
  have g3 : 0 ≤ x5 * 3 / 10 := by omega
  have g4 : x5 * 3 / 10 < ((([x4, 0, (-1)] : List Int).length : Nat) : Int) := by simp; omega
  have r1 := rd_mem (xs := [t + x1, x2, (-1)]) (P := fun x => -1 ≤ x ∧ x ≤ 200000) (by simp; omega) _ g1 g2
  have r2 := rd_mem (xs := [x4, 0, (-1)]) (P := fun x => -1 ≤ x ∧ x ≤ 100) (by simp; omega) _ g3 g4
  refine ⟨l, m, r, t, rd [t + x1, x2, (-1)] (x3 * 3 / 12), rd [x4, 0, (-1)] (x5 * 3 / 10), ?_, r1.1, r1.2, r2.1, r2.2⟩
  unfold spec_DrawBucketTake.f
  simp only [open_f, Option.bind_some, hB]
  refine bd h1 ?_
  refine bd h2 ?_
  refine bd h3 ?_
  simp only [e0]
  refine bd h4 ?_
  simp only [e1, e2, e3, if_pos g1, if_pos g2]
  refine bd h5 ?_
  refine bd h6 ?_
  simp only [e4, e5, e6, if_pos g3, if_pos g4]
  exact Ev.now _

theorem lvl_now {l m r now : Int} (h : l ≤ m) : lvl l m r now now = l := by
  unfold lvl
  rw [Int.sub_self, Int.mul_zero, Int.add_zero, if_neg (by omega)]
theorem take_yes {l m r t now n : Int} (g : bGood l m r t now) (hn : 0 ≤ n) (h : n ≤ lvl l m r t now) : bucketTake l m r t now n = (lvl l m r t now - n, m, r, now, true) := by
  unfold bucketTake
  rw [if_pos ⟨g.1, g.2.1, g.2.2, hn⟩, if_neg (by omega)]
theorem FnBucketTake (l0 : List (Int)) (h0 : l0.length ≤ 9223372036854775807 ∧ ∀ x ∈ l0, (Lit.int .u8 x).wf = true) :
    ∃ k, laws_FnBucketTake.f k l0 = some true := by
  have hw := h0.2
  refine ex ?_
  unfold laws_FnBucketTake.f
  by_cases hl : (l0.length : Int) > 1048576
  · simp only [if_pos hl]; exact Ev.now _
  · simp only [if_neg hl]
    obtain ⟨l, m, r, t, now, n, hd, n1, n2, n3, n4⟩ := drawBucketTake l0 hw
    refine bd hd ?_
    refine bd (implBTake _ _ _ _ _ _) ?_
    refine bd (specBTake _ _ _ _ _ _) ?_
    simp only [beq_self_eq_true, Bool.not_true, Bool.or_self, Bool.false_eq_true, if_false, bne_self_eq_false, implBOk, specBOk, Option.bind_some]
    by_cases hk : (bucketTake l m r t now n).2.2.2.2 = true
    · have hg : bOk l m r t = true ∧ t ≤ now ∧ now ≤ 99999 ∧ 0 ≤ n := by
        by_cases e : bOk l m r t = true ∧ t ≤ now ∧ now ≤ 99999 ∧ 0 ≤ n
        · exact e
        · unfold bucketTake at hk
          rw [if_neg e] at hk
          simp at hk
      obtain ⟨ho, g1, g2, hn⟩ := hg
      have g : bGood l m r t now := ⟨ho, g1, g2⟩
      have ht := bOk_iff.1 ho
      have hr := lvl_range g
      have hle : n ≤ lvl l m r t now := by
        by_cases e : lvl l m r t now < n
        · unfold bucketTake at hk
          rw [if_pos ⟨ho, g1, g2, hn⟩, if_pos e] at hk
          simp at hk
        · omega
      rw [take_yes g hn hle]
      have e1 : Int.tdiv n 2 = n / 2 := Int.tdiv_eq_ediv_of_nonneg hn
      have e2 : wrap64 (n / 2) = n / 2 := wz (by omega)
      have e3 : wrap64 (n - n / 2) = n - n / 2 := wz (by omega)
      have e4 : wrap64 (lvl l m r t now - n) = lvl l m r t now - n := wz (by omega)
      refine up ?_
      simp only [Bool.not_true, laws_FnBucketTake.j0, Bool.false_eq_true, if_false, e1, e2, e3]
      refine bd (implBAt _ _ _ _ _) ?_
      refine bd (implBTake _ _ _ _ _ _) ?_
      rw [take_yes (n := n / 2) g (by omega) (by omega)]
      refine bd (implBTake _ _ _ _ _ _) ?_
      have ho2 : bOk (lvl l m r t now - n / 2) m r now = true := bOk_iff.2 (by omega)
      have g3 : bGood (lvl l m r t now - n / 2) m r now now := ⟨ho2, by omega, by omega⟩
      have hl2 : lvl (lvl l m r t now - n / 2) m r now now = lvl l m r t now - n / 2 := lvl_now (by omega)
      rw [take_yes (n := n - n / 2) g3 (by omega) (by rw [hl2]; omega), hl2]
      have ho3 : bOk (lvl l m r t now - n) m r now = true := bOk_iff.2 (by omega)
      have e5 : lvl l m r t now - n / 2 - (n - n / 2) = lvl l m r t now - n := by omega
      rw [bucketAt_good g]
      simp only [implBOk, ho3, Option.bind_some, if_true, e4, e5, beq_self_eq_true, Bool.and_self]
      exact Ev.now _
    · have hk' : (bucketTake l m r t now n).2.2.2.2 = false := by simpa using hk
      refine up ?_
      simp only [hk', Bool.not_false, laws_FnBucketTake.j0, if_true, beq_self_eq_true, Bool.and_self]
      exact Ev.now _

end Go.Proofs.Ytdigjaphfpfbaaa.Pure
