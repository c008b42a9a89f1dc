/-
Filling is additive over time: for every two codes the law FnBucketAt returns true: BucketAt is the reference's, and BucketAt of an intermediate and then of a later tick is BucketAt of the later one.
Conditions: none beyond the form's own reach.
-/
import Derived.Test.YtdigjaphfpfbaaaPFnBucketAtx0
import Derived.Test.YtdigjaphfpfbaaaPFnBucketAtx1
import Derived.Test.YtdigjaphfpfbaaaPFnBucketAtx2
import Derived.Test.YtdigjaphfpfbaaaPFnBucketAtx3
import Derived.Test.YtdigjaphfpfbaaaPFnBucketAtx4
import Derived.Test.YtdigjaphfpfbaaaPFnBucketAtx5
import Derived.Test.YtdigjaphfpfbaaaPureC
namespace Go.Proofs.Ytdigjaphfpfbaaa.Pure
open Go.RowKit Go.Proofs.Ytdigjaphfpfbaaa.PFnBucketAt Go.Proofs.Ytdigjaphfpfbaaa.C Go.Proofs.YtdigjaphfpfbaaaW.PrintWords Go.Proofs.YtdigjaphfpfbaaaW.PrintLast
set_option linter.unusedVariables false
set_option linter.unusedSimpArgs false

theorem l1In_f (a b c : Int) : spec_l1In.f a b c = some (decide (b ≤ a) && decide (a ≤ c)) := by
  unfold spec_l1In.f
  by_cases h : b ≤ a <;> simp [h]
theorem within_f (a b c : Int) : impl_within.f a b c = some (decide (b ≤ a) && decide (a ≤ c)) := by
  unfold impl_within.f
  by_cases h : b ≤ a <;> simp [h]
/-- Within limits: level, most, rate, at. -/
def bOk (l m r t : Int) : Bool := decide (0 ≤ m ∧ m ≤ 99999 ∧ 0 ≤ l ∧ l ≤ m ∧ 0 ≤ r ∧ r ≤ 99999 ∧ 0 ≤ t ∧ t ≤ 99999)
theorem specBOk (l m r t : Int) : spec_BucketOk.f l m r t = some (bOk l m r t) := by
  unfold spec_BucketOk.f
  simp only [l1In_f, Option.bind_some, bOk]
  by_cases h1 : 0 ≤ m ∧ m ≤ 99999 <;> by_cases h2 : 0 ≤ l ∧ l ≤ m <;> by_cases h3 : 0 ≤ r ∧ r ≤ 99999 <;> by_cases h4 : 0 ≤ t ∧ t ≤ 99999 <;> simp [h1, h2, h3, h4] <;> omega
theorem implBOk (l m r t : Int) : impl_BucketOk.f l m r t = some (bOk l m r t) := by
  unfold impl_BucketOk.f
  simp only [within_f, Option.bind_some, bOk]
  by_cases h1 : 0 ≤ m ∧ m ≤ 99999 <;> by_cases h2 : 0 ≤ l ∧ l ≤ m <;> by_cases h3 : 0 ≤ r ∧ r ≤ 99999 <;> by_cases h4 : 0 ≤ t ∧ t ≤ 99999 <;> simp [h1, h2, h3, h4] <;> omega
theorem bOk_iff {l m r t : Int} : bOk l m r t = true ↔ (0 ≤ m ∧ m ≤ 99999 ∧ 0 ≤ l ∧ l ≤ m ∧ 0 ≤ r ∧ r ≤ 99999 ∧ 0 ≤ t ∧ t ≤ 99999) := by
  unfold bOk
  exact decide_eq_true_iff

theorem mulb {r d : Int} (hr : 0 ≤ r ∧ r ≤ 99999) (hd : 0 ≤ d ∧ d ≤ 99999) : 0 ≤ r * d ∧ r * d ≤ 9999800001 := by
  refine ⟨Int.mul_nonneg hr.1 hd.1, ?_⟩
  have h1 : r * d ≤ 99999 * d := Int.mul_le_mul_of_nonneg_right hr.2 hd.1
  omega
/-- The level at a tick that is not earlier. -/
def lvl (l m r t now : Int) : Int := if l + r * (now - t) > m then m else l + r * (now - t)
def bGood (l m r t now : Int) : Prop := bOk l m r t = true ∧ t ≤ now ∧ now ≤ 99999
theorem wlvl {l m r t now : Int} (h : bGood l m r t now) : wrap64 (l + wrap64 (r * wrap64 (now - t))) = l + r * (now - t) := by
  obtain ⟨h, h1, h2⟩ := h
  rw [bOk_iff] at h
  have hb := mulb (r := r) (d := now - t) (by omega) (by omega)
  rw [wz (n := now - t) (by omega), wz (n := r * (now - t)) (by omega), wz (by omega)]
theorem lvl_range {l m r t now : Int} (h : bGood l m r t now) : l ≤ lvl l m r t now ∧ lvl l m r t now ≤ m := by
  obtain ⟨h, h1, h2⟩ := h
  rw [bOk_iff] at h
  have hb := mulb (r := r) (d := now - t) (by omega) (by omega)
  unfold lvl
  split <;> omega

theorem specL11 {l m r t now : Int} (h : bGood l m r t now) : spec_l11At.f l m r t now = some (lvl l m r t now, m, r, now) := by
  unfold spec_l11At.f lvl
  rw [wlvl h]
  split <;> rfl
def bucketAt (l m r t now : Int) : Int × Int × Int × Int := if bOk l m r t = true ∧ 0 ≤ now ∧ now ≤ 99999 then (if now < t then (l, m, r, t) else (lvl l m r t now, m, r, now)) else (0, 0, 0, 0)

theorem specBAt (l m r t now : Int) : Ev (fun k => spec_BucketAt.f k l m r t now) (bucketAt l m r t now) := by
  unfold spec_BucketAt.f bucketAt
  simp only [specBOk, Option.bind_some, l1In_f]
  by_cases h : bOk l m r t = true
  · simp only [h, if_true, true_and]
    refine up ?_
    simp only [spec_BucketAt.j0]
    by_cases h1 : 0 ≤ now ∧ now ≤ 99999
    · simp only [h1.1, h1.2, decide_true, Bool.and_self, Bool.not_true, Bool.false_eq_true, if_false, and_self, if_true]
      by_cases h2 : now < t
      · simp only [if_pos h2]; exact Ev.now _
      · simp only [if_neg h2, specL11 ⟨h, Int.not_lt.1 h2, h1.2⟩, Option.bind_some]; exact Ev.now _
    · have e : (decide (0 ≤ now) && decide (now ≤ 99999)) = false := by rw [← Bool.decide_and]; exact decide_eq_false h1
      simp only [e, Bool.not_false, if_true, if_neg h1]; exact Ev.now _
  · have e : bOk l m r t = false := by simpa using h
    refine up ?_
    simp only [e, Bool.false_eq_true, if_false, spec_BucketAt.j0, if_true, false_and]
    exact Ev.now _

theorem mn_lvl {l m r t now : Int} (h : bGood l m r t now) : mn (wrap64 (l + wrap64 (r * wrap64 (now - t)))) m = lvl l m r t now := by
  rw [wlvl h]
  unfold mn lvl
  split <;> first | rfl | omega | (split <;> omega)
theorem implBAt (l m r t now : Int) : Ev (fun k => impl_BucketAt.f k l m r t now) (bucketAt l m r t now) := by
  unfold impl_BucketAt.f bucketAt
  simp only [implBOk, Option.bind_some, within_f]
  by_cases h : bOk l m r t = true
  · simp only [h, if_true, true_and]
    refine up ?_
    simp only [impl_BucketAt.j0]
    by_cases h1 : 0 ≤ now ∧ now ≤ 99999
    · simp only [h1.1, h1.2, decide_true, Bool.and_self, Bool.not_true, Bool.false_eq_true, if_false, and_self, if_true]
      by_cases h2 : now < t
      · simp only [if_pos h2]; exact Ev.now _
      · simp only [if_neg h2, mn_lvl ⟨h, Int.not_lt.1 h2, h1.2⟩]; exact Ev.now _
    · have e : (decide (0 ≤ now) && decide (now ≤ 99999)) = false := by rw [← Bool.decide_and]; exact decide_eq_false h1
      simp only [e, Bool.not_false, if_true, if_neg h1]; exact Ev.now _
  · have e : bOk l m r t = false := by simpa using h
    refine up ?_
    simp only [e, Bool.false_eq_true, if_false, impl_BucketAt.j0, if_true, false_and]
    exact Ev.now _

theorem bucketAt_good {l m r t now : Int} (h : bGood l m r t now) : bucketAt l m r t now = (lvl l m r t now, m, r, now) := by
  have ht := bOk_iff.1 h.1
  have h1 := h.2.1
  unfold bucketAt
  rw [if_pos ⟨h.1, by omega, h.2.2⟩, if_neg (by omega)]

theorem open_f (l : List Int) : spec_l1Open.f l = some (l.take 2000, 0) := by
  unfold spec_l1Open.f
  by_cases h : (l.length : Int) > 2000
  · have h2 : 2000 ≤ (l.length : Int) := by omega
    rw [if_pos h, if_pos h2]
  · rw [if_neg h, List.take_of_length_le (by omega)]
/-- The bytes of a code that is read. -/
structure Code (b : List Int) : Prop where
  byte : ∀ x ∈ b, 0 ≤ x ∧ x ≤ 255
  len : b.length ≤ 2000
theorem Code.of {l : List Int} (h : ∀ x ∈ l, (Lit.int .u8 x).wf = true) : Code (l.take 2000) :=
  ⟨fun x hx => wf_u8 (h x (List.mem_of_mem_take hx)), by rw [List.length_take]; omega⟩
theorem tmod_range {a n : Int} (ha : 0 ≤ a) (hn : 1 ≤ n) : 0 ≤ Int.tmod a n ∧ Int.tmod a n < n := ⟨Int.tmod_nonneg n ha, Int.tmod_lt_of_pos a (by omega)⟩
theorem pick_main (b : List Int) (hb : Code b) (p n : Int) (hp : 0 ≤ p ∧ p ≤ 1000000000000) (hn : 1 ≤ n) (hl : 1 ≤ (b.length : Int)) :
    ∃ v, Ev (fun k => spec_l1Rd_pick.j0 k n false b (p + 1)) (v, p + 1) ∧ 0 ≤ v ∧ v < n := by
  have hl2 : (b.length : Int) ≤ 2000 := by have := hb.len; omega
  have e1 : wrap64 (p + 1 - 1) = p := by rw [wz (by omega)]; omega
  have n0 : ¬ n = 0 := by omega
  by_cases h1 : p < (b.length : Int)
  · have hr := rd_mem (P := fun x => 0 ≤ x ∧ x ≤ 255) hb.byte p hp.1 h1
    have t := tmod_range hr.1 hn
    refine ⟨Int.tmod (rd b p) n, up ?_, t.1, t.2⟩
    have e2 : wrap64 (rd b p) = rd b p := wz (by omega)
    simp only [spec_l1Rd_pick.j0, Bool.false_eq_true, if_false, e1, if_pos h1, if_pos hp.1, if_neg n0, e2]
    exact Ev.now _
  · have l0 : ¬ (b.length : Int) = 0 := by omega
    have t1 := tmod_range hp.1 hl
    have e7 : wrap64 (wrap64 (p * 7) + 3) = p * 7 + 3 := by rw [wz (n := p * 7) (by omega), wz (by omega)]
    have t2 := tmod_range (a := p * 7 + 3) (by omega) hl
    have r1 := rd_mem (P := fun x => 0 ≤ x ∧ x ≤ 255) hb.byte (Int.tmod p b.length) t1.1 t1.2
    have r2 := rd_mem (P := fun x => 0 ≤ x ∧ x ≤ 255) hb.byte (Int.tmod (p * 7 + 3) b.length) t2.1 t2.2
    have d0 : 0 ≤ Int.tdiv p b.length ∧ Int.tdiv p b.length ≤ p := by
      rw [Int.tdiv_eq_ediv_of_nonneg hp.1]
      exact ⟨Int.ediv_nonneg hp.1 (by omega), Int.ediv_le_self _ hp.1⟩
    generalize hx1 : rd b (Int.tmod p b.length) = x1 at *
    generalize hx2 : rd b (Int.tmod (p * 7 + 3) b.length) = x2 at *
    generalize hq : Int.tdiv p b.length = q at *
    have w1 : wrap64 x1 = x1 := wz (by omega)
    have w2 : wrap64 x2 = x2 := wz (by omega)
    have w3 : wrap64 (x1 * 131) = x1 * 131 := wz (by omega)
    have w4 : wrap64 (x2 * 1117) = x2 * 1117 := wz (by omega)
    have w5 : wrap64 (x1 * 131 + x2 * 1117) = x1 * 131 + x2 * 1117 := wz (by omega)
    have w6 : wrap64 (p * 29) = p * 29 := wz (by omega)
    have w7 : wrap64 (x1 * 131 + x2 * 1117 + p * 29) = x1 * 131 + x2 * 1117 + p * 29 := wz (by omega)
    have w8 : wrap64 q = q := wz (by omega)
    have w9 : wrap64 (q * 53) = q * 53 := wz (by omega)
    have wA : wrap64 (x1 * 131 + x2 * 1117 + p * 29 + q * 53) = x1 * 131 + x2 * 1117 + p * 29 + q * 53 := wz (by omega)
    generalize hz : x1 * 131 + x2 * 1117 + p * 29 + q * 53 = z at *
    have z0 : 0 ≤ z ∧ z < 9223372036854775808 := by omega
    have d1 : 0 ≤ Int.tdiv z 64 ∧ Int.tdiv z 64 ≤ z := by
      rw [Int.tdiv_eq_ediv_of_nonneg z0.1]
      omega
    have wB : wrap64 (Int.tdiv z 64) = Int.tdiv z 64 := wz (by omega)
    have hX := xor_nonneg z (Int.tdiv z 64) z0.1 d1.1 z0.2 (by omega)
    have t := tmod_range hX hn
    refine ⟨_, up ?_, t.1, t.2⟩
    simp only [spec_l1Rd_pick.j0, Bool.false_eq_true, if_false, e1, if_neg h1, if_neg l0, if_pos t1.1, if_pos t1.2, e7, if_pos t2.1, if_pos t2.2, if_neg n0, hx1, hx2, hq, w1, w2, w3, w4, w5, w6, w7, w8, w9, hz, wA, wB]
    exact Ev.now _
/-- One number is read: below n; nought where there is none. -/
theorem pick (b : List Int) (hb : Code b) (p n : Int) (hp : 0 ≤ p ∧ p ≤ 1000000000000) :
    ∃ v, Ev (fun k => spec_l1Rd_pick.f k b p n) (v, p + 1) ∧ 0 ≤ v ∧ (1 ≤ n → v < n) := by
  have e0 : wrap64 (p + 1) = p + 1 := wz (by omega)
  unfold spec_l1Rd_pick.f
  by_cases hn : n < 1
  · refine ⟨0, ?_, by omega, by omega⟩
    simp only [if_pos hn, e0]
    refine up ?_
    simp only [spec_l1Rd_pick.j0, if_true]
    exact Ev.now _
  · simp only [if_neg hn, e0]
    by_cases hl : (b.length : Int) = 0
    · refine ⟨0, ?_, by omega, by omega⟩
      have e : ((b.length : Int) == 0) = true := by simpa using hl
      simp only [e]
      refine up ?_
      simp only [spec_l1Rd_pick.j0, if_true]
      exact Ev.now _
    · have e : ((b.length : Int) == 0) = false := by simpa using hl
      simp only [e]
      obtain ⟨v, h1, h2, h3⟩ := pick_main b hb p n hp (by omega) (by omega)
      exact ⟨v, h1, h2, fun _ => h3⟩

theorem drawBucket (b : List Int) (hb : Code b) (p : Int) (hp : 0 ≤ p ∧ p ≤ 1000000) :
    ∃ l m r t q, Ev (fun k => spec_l15Bucket.f k b p) (l, m, r, t, q) ∧ 0 ≤ q ∧ q ≤ p + 10 ∧ -1 ≤ l ∧ l ≤ 100 ∧ 0 ≤ m ∧ m ≤ 60 ∧ -1 ≤ r ∧ r ≤ 12 ∧ 0 ≤ t ∧ t ≤ 100000 := by
  obtain ⟨m, h1, a1, b1⟩ := pick b hb p 60 (by omega)
  obtain ⟨r, h2, a2, b2⟩ := pick b hb (p + 1) 12 (by omega)
  obtain ⟨t, h3, a3, b3⟩ := pick b hb (p + 1 + 1) 50 (by omega)
  obtain ⟨l, h4, a4, b4⟩ := pick b hb (p + 1 + 1 + 1) (m + 1) (by omega)
  obtain ⟨c, h5, a5, b5⟩ := pick b hb (p + 1 + 1 + 1 + 1) 16 (by omega)
  obtain ⟨s, h6, a6, b6⟩ := pick b hb (p + 1 + 1 + 1 + 1 + 1) 2 (by omega)
  have c1 := b1 (by omega)
  have c2 := b2 (by omega)
  have c3 := b3 (by omega)
  have c4 := b4 (by omega)
  have c5 := b5 (by omega)
  have c6 := b6 (by omega)
  have em : wrap64 (m + 1) = m + 1 := wz (by omega)
  by_cases e0 : c = 0
  · have hs : s < ((([(-1), m + 1] : List Int).length : Nat) : Int) := by simp; omega
    have hrd := rd_mem (xs := [(-1), m + 1]) (P := fun x => -1 ≤ x ∧ x ≤ 61) (by simp; omega) s a6 hs
    refine ⟨rd [(-1), m + 1] s, m, r, t, p + 1 + 1 + 1 + 1 + 1 + 1, ?_, by omega, by omega, hrd.1, by omega, a1, by omega, by omega, by omega, a3, by omega⟩
    · unfold spec_l15Bucket.f
      refine bd h1 ?_
      refine bd h2 ?_
      refine bd h3 ?_
      simp only [em]
      refine bd h4 ?_
      refine bd h5 ?_
      simp only [if_pos e0, Option.bind_some]
      refine bd h6 ?_
      simp only [if_pos a6, if_pos hs]
      exact Ev.now _
  · by_cases e1 : c = 1
    · refine ⟨l, m, -1, t, p + 1 + 1 + 1 + 1 + 1, ?_, by omega, by omega, by omega, by omega, a1, by omega, by omega, by omega, a3, by omega⟩
      · unfold spec_l15Bucket.f
        refine bd h1 ?_
        refine bd h2 ?_
        refine bd h3 ?_
        simp only [em]
        refine bd h4 ?_
        refine bd h5 ?_
        simp only [if_neg e0, if_pos e1]
        exact Ev.now _
    · by_cases e2 : c = 2
      · refine ⟨l, m, r, 100000, p + 1 + 1 + 1 + 1 + 1, ?_, by omega, by omega, by omega, by omega, a1, by omega, by omega, by omega, by omega, by omega⟩
        · unfold spec_l15Bucket.f
          refine bd h1 ?_
          refine bd h2 ?_
          refine bd h3 ?_
          simp only [em]
          refine bd h4 ?_
          refine bd h5 ?_
          simp only [if_neg e0, if_neg e1, if_pos e2]
          exact Ev.now _
      · refine ⟨l, m, r, t, p + 1 + 1 + 1 + 1 + 1, ?_, by omega, by omega, by omega, by omega, a1, by omega, by omega, by omega, a3, by omega⟩
        · unfold spec_l15Bucket.f
          refine bd h1 ?_
          refine bd h2 ?_
          refine bd h3 ?_
          simp only [em]
          refine bd h4 ?_
          refine bd h5 ?_
          simp only [if_neg e0, if_neg e1, if_neg e2]
          exact Ev.now _

theorem drawBucketAt (l0 : List Int) (hw : ∀ x ∈ l0, (Lit.int .u8 x).wf = true) : ∃ l m r t now, Ev (fun k => spec_DrawBucketAt.f k l0) (l, m, r, t, now) := by
  have hb := Code.of hw
  generalize hB : l0.take 2000 = b at hb
  obtain ⟨l, m, r, t, q, h1, q0, q1, _⟩ := drawBucket b hb 0 (by omega)
  obtain ⟨u, h2, a2, b2⟩ := pick b hb q 80 (by omega)
  obtain ⟨c, h3, a3, b3⟩ := pick b hb (q + 1) 12 (by omega)
  have c3 := b3 (by omega)
  have e1 : wrap64 (c * 4) = c * 4 := wz (by omega)
  have e2 : Int.tdiv (c * 4) 12 = c * 4 / 12 := Int.tdiv_eq_ediv_of_nonneg (by omega)
  have e3 : wrap64 (c * 4 / 12) = c * 4 / 12 := wz (by omega)
  have g1 : 0 ≤ c * 4 / 12 := by omega
  have g2 : c * 4 / 12 < ((([u, 99999, (-1), 100000] : List Int).length : Nat) : Int) := by simp; omega
  refine ⟨l, m, r, t, rd [u, 99999, (-1), 100000] (c * 4 / 12), ?_⟩
  unfold spec_DrawBucketAt.f
  simp only [open_f, Option.bind_some, hB]
  refine bd h1 ?_
  refine bd h2 ?_
  refine bd h3 ?_
  simp only [e1, e2, e3, if_pos g1, if_pos g2]
  exact Ev.now _
theorem lvl_add {l m r t mid now : Int} (h : bGood l m r t now) (h1 : t ≤ mid) (h2 : mid ≤ now) : lvl (lvl l m r t mid) m r mid now = lvl l m r t now := by
  obtain ⟨h, g1, g2⟩ := h
  rw [bOk_iff] at h
  have a1 := mulb (r := r) (d := mid - t) (by omega) (by omega)
  have a2 := mulb (r := r) (d := now - mid) (by omega) (by omega)
  have e : r * (now - t) = r * (mid - t) + r * (now - mid) := by rw [← Int.mul_add]; congr 1; omega
  unfold lvl
  rw [e]
  generalize r * (mid - t) = A at *
  generalize r * (now - mid) = B at *
  by_cases c1 : l + A > m
  · rw [if_pos c1]
    by_cases c2 : m + B > m
    · rw [if_pos c2, if_pos (by omega)]
    · rw [if_neg c2, if_pos (by omega)]; omega
  · rw [if_neg c1]
    by_cases c2 : l + A + B > m
    · rw [if_pos c2, if_pos (by omega)]
    · rw [if_neg c2, if_neg (by omega)]; omega
theorem FnBucketAt (l0 : List (Int)) (l1 : List (Int)) (h0 : l0.length ≤ 9223372036854775807 ∧ ∀ x ∈ l0, (Lit.int .u8 x).wf = true) (h1 : l1.length ≤ 9223372036854775807 ∧ ∀ x ∈ l1, (Lit.int .u8 x).wf = true) :
    ∃ k, laws_FnBucketAt.f k l0 l1 = some true := by
  have hw := h0.2
  refine ex ?_
  unfold laws_FnBucketAt.f
  by_cases hl : (l0.length : Int) > 1048576
  · simp only [if_pos hl]
    refine up ?_
    simp only [laws_FnBucketAt.j0, if_true]; exact Ev.now _
  · simp only [if_neg hl]
    by_cases hl1 : (l1.length : Int) > 1048576
    · refine up ?_
      simp only [yesB hl1, laws_FnBucketAt.j0, if_true]; exact Ev.now _
    · refine up ?_
      simp only [notB hl1, laws_FnBucketAt.j0, Bool.false_eq_true, if_false]
      obtain ⟨l, m, r, t, now, hd⟩ := drawBucketAt l0 hw
      refine bd hd ?_
      refine bd (implBAt _ _ _ _ _) ?_
      refine bd (specBAt _ _ _ _ _) ?_
      simp only [beq_self_eq_true, Bool.not_true, Bool.or_self, Bool.false_eq_true, if_false, specBOk, Option.bind_some]
      have same : ∀ x : Int × Int × Int × Int, x = bucketAt l m r t now → Ev (fun k => laws_FnBucketAt.j1 k l1 now true l m r t x.1 x.2.1 x.2.2.1 x.2.2.2) true := by
        rintro x rfl
        refine up ?_
        simp only [laws_FnBucketAt.j1, if_true]
        refine bd (specBAt _ _ _ _ _) ?_
        simp only [beq_self_eq_true, Bool.and_self]
        exact Ev.now _
      by_cases ho : bOk l m r t = true
      · simp only [if_pos ho]
        by_cases h1 : now < t
        · simp only [if_pos h1]; exact same _ rfl
        · simp only [if_neg h1]
          by_cases h2 : now > 99999
          · simp only [yesB h2]; exact same _ rfl
          · simp only [notB h2]
            have g : bGood l m r t now := ⟨ho, by omega, by omega⟩
            have ht := bOk_iff.1 ho
            have hr := lvl_range g
            rw [bucketAt_good g]
            have e1 : wrap64 (wrap64 (now - t) + 1) = now - t + 1 := by rw [wz (n := now - t) (by omega), wz (by omega)]
            have e2 : ¬ now - t + 1 = 0 := by omega
            have e3 : wrap64 ((l1.length : Int) * 7) = (l1.length : Int) * 7 := wz (by omega)
            have tm := tmod_range (a := (l1.length : Int) * 7) (n := now - t + 1) (by omega) (by omega)
            have e4 : wrap64 (t + Int.tmod ((l1.length : Int) * 7) (now - t + 1)) = t + Int.tmod ((l1.length : Int) * 7) (now - t + 1) := wz (by omega)
            generalize hmid : t + Int.tmod ((l1.length : Int) * 7) (now - t + 1) = mid at *
            have g1 : bGood l m r t mid := ⟨ho, by omega, by omega⟩
            have hr1 := lvl_range g1
            have o1 : bOk (lvl l m r t now) m r now = true := bOk_iff.2 (by omega)
            have g2 : bGood (lvl l m r t mid) m r mid now := ⟨bOk_iff.2 (by omega), by omega, by omega⟩
            have ge : lvl l m r t now ≥ l := hr.1
            refine up ?_
            simp only [laws_FnBucketAt.j1, Bool.false_eq_true, if_false, e1, if_neg e2, implBOk, Option.bind_some, o1, if_true, if_pos ge, e3, hmid, e4]
            have i1 := implBAt l m r t mid
            rw [bucketAt_good g1] at i1
            have i2 := implBAt (lvl l m r t mid) m r mid now
            rw [bucketAt_good g2, lvl_add g (by omega) (by omega)] at i2
            refine bd i1 ?_
            refine bd i2 ?_
            simp only [beq_self_eq_true, Bool.and_self]
            exact Ev.now _
      · have ho' : bOk l m r t = false := by simpa using ho
        simp only [ho', Bool.false_eq_true, if_false]
        exact same _ rfl

end Go.Proofs.Ytdigjaphfpfbaaa.Pure
