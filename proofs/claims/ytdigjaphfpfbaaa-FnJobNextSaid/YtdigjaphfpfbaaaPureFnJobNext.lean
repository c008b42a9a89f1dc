/-
The most urgent job is next: for every code the law FnJobNext returns true: JobNext is the reference's, no job has more worth and waiting time, and none before it as much.
Conditions: none beyond the form's own reach.
-/
import Derived.Test.YtdigjaphfpfbaaaPFnJobNextx0
import Derived.Test.YtdigjaphfpfbaaaPFnJobNextx1
import Derived.Test.YtdigjaphfpfbaaaPFnJobNextx2
import Derived.Test.YtdigjaphfpfbaaaPFnJobNextx3
import Derived.Test.YtdigjaphfpfbaaaPureC
namespace Go.Proofs.Ytdigjaphfpfbaaa.Pure
open Go.RowKit Go.Proofs.Ytdigjaphfpfbaaa.PFnJobNext Go.Proofs.Ytdigjaphfpfbaaa.C Go.Proofs.YtdigjaphfpfbaaaW.PrintWords Go.Proofs.YtdigjaphfpfbaaaW.PrintLast
set_option linter.unusedVariables false
set_option linter.unusedSimpArgs false

theorem l1In_f (a b c : Int) : spec_l1In.f a b c = some (decide (b ≤ a) && decide (a ≤ c)) := by
  unfold spec_l1In.f
  by_cases h : b ≤ a <;> simp [h]
theorem within_f (a b c : Int) : impl_within.f a b c = some (decide (b ≤ a) && decide (a ≤ c)) := by
  unfold impl_within.f
  by_cases h : b ≤ a <;> simp [h]

def jv (l : List S38) (j : Int) : Int := (rd_T38 l j).f1 - (rd_T38 l j).f2
def okJ (now : Int) (x : S38) : Prop := now ≤ 99999 ∧ 0 ≤ x.f1 ∧ x.f1 ≤ 99999 ∧ 0 ≤ x.f2 ∧ x.f2 ≤ now
/-- The first of the greatest ahead of i. -/
def Top (l : List S38) (now b i : Int) : Prop := 0 ≤ b ∧ b < i ∧ ∀ j, 0 ≤ j → j < i → okJ now (rd_T38 l j) ∧ jv l j ≤ jv l b ∧ (j < b → jv l j < jv l b)
def InvJ (l : List S38) (now b i : Int) : Prop := (b = -1 ∧ i = 0) ∨ Top l now b i
theorem InvJ.next {l : List S38} {now b i : Int} (h0 : 0 ≤ i) (h : InvJ l now b i) (ho : okJ now (rd_T38 l i)) (hb : b < 0) : InvJ l now i (i + 1) := by
  rcases h with ⟨rfl, rfl⟩ | h
  · refine .inr ⟨by omega, by omega, fun j h0 h1 => ?_⟩
    obtain rfl : j = 0 := by omega
    exact ⟨ho, Int.le_refl _, fun h => by omega⟩
  · have := h.1; omega
theorem InvJ.up {l : List S38} {now b i : Int} (h0 : 0 ≤ i) (h : Top l now b i) (ho : okJ now (rd_T38 l i)) (hv : jv l i > jv l b) : InvJ l now i (i + 1) := by
  refine .inr ⟨by omega, by omega, fun j h1 h2 => ?_⟩
  by_cases e : j = i
  · subst e; exact ⟨ho, Int.le_refl _, fun h => by omega⟩
  · obtain ⟨a, b1, c⟩ := h.2.2 j h1 (by omega)
    exact ⟨a, by omega, fun _ => by omega⟩
theorem InvJ.stay {l : List S38} {now b i : Int} (h0 : 0 ≤ i) (h : Top l now b i) (ho : okJ now (rd_T38 l i)) (hv : ¬ jv l i > jv l b) : InvJ l now b (i + 1) := by
  refine .inr ⟨h.1, by have := h.2.1; omega, fun j h1 h2 => ?_⟩
  by_cases e : j = i
  · subst e; exact ⟨ho, by omega, fun h' => by have := h.2.1; omega⟩
  · exact h.2.2 j h1 (by omega)
theorem jobs (l : List S38) (now : Int) (hl : l.length ≤ 9223372036854775807) : ∀ (d : Nat) (i b : Int), 0 ≤ i → i + d = l.length → InvJ l now b i →
    ∃ r, Ev (fun k => impl_JobNext.l0 k l now b l (l.length : Int) i) r ∧ Ev (fun k => spec_JobNext.l0 k l now b i) r ∧ (r = -1 ∨ Top l now r l.length) := by
  intro d
  induction d with
  | zero =>
    intro i b h0 hd hI
    have h1 : ¬ i < (l.length : Int) := by omega
    refine ⟨b, up ?_, up ?_, ?_⟩
    · simp only [impl_JobNext.l0, if_neg h1]; exact Ev.now _
    · simp only [spec_JobNext.l0, if_neg h1]; exact Ev.now _
    · rcases hI with ⟨h, _⟩ | h
      · exact .inl h
      · right; obtain rfl : i = (l.length : Int) := by omega
        exact h
  | succ d ih =>
    intro i b h0 hd hI
    have h1 : i < (l.length : Int) := by omega
    have hw : wrap64 (i + 1) = i + 1 := wz (by omega)
    by_cases ho : okJ now (rd_T38 l i)
    · have ⟨o1, o2, o3, o4, o5⟩ := ho
      have n1 : ¬ now > 99999 := by omega
      have key : ∀ c, InvJ l now c (i + 1) → ∃ r, Ev (fun k => impl_JobNext.l0 k l now c l (l.length : Int) (i + 1)) r ∧ Ev (fun k => spec_JobNext.l0 k l now c (i + 1)) r ∧ (r = -1 ∨ Top l now r l.length) := fun c hc => ih (i + 1) c (by omega) (by omega) hc
      by_cases hb : b < 0
      · obtain ⟨r, r1, r2, r3⟩ := key i (hI.next h0 ho hb)
        refine ⟨r, up ?_, up ?_, r3⟩
        · simp only [impl_JobNext.l0, if_pos h1, if_pos h0, if_neg n1, within_f, Option.bind_some, yesB o2, yesB o3, yesB o4, yesB o5, Bool.and_self, if_true, Bool.not_true]
          refine up ?_
          simp only [impl_JobNext.j1, Bool.false_eq_true, if_false, if_pos hb, hw]
          exact r1
        · simp only [spec_JobNext.l0, if_pos h1, if_pos h0, l1In_f, Option.bind_some, yesB o2, yesB o3, yesB o4, yesB o5, Bool.and_self, if_true]
          refine up ?_
          simp only [spec_JobNext.j1, notB n1, Bool.false_eq_true, if_false, if_pos hb, hw]
          exact r2
      · have hT : Top l now b i := by rcases hI with ⟨rfl, _⟩ | h; · omega
                                      · exact h
        have hb0 : 0 ≤ b := hT.1
        have hbl : b < (l.length : Int) := by have := hT.2.1; omega
        obtain ⟨⟨q1, q2, q3, q4, q5⟩, _, _⟩ := hT.2.2 b hb0 hT.2.1
        have w1 : wrap64 ((rd_T38 l i).f1 - (rd_T38 l i).f2) = jv l i := wz (by omega)
        have w2 : wrap64 ((rd_T38 l b).f1 - (rd_T38 l b).f2) = jv l b := wz (by omega)
        have w3 : wrap64 (wrap64 ((rd_T38 l i).f1 + now) - (rd_T38 l i).f2) = jv l i + now := by rw [wz (n := (rd_T38 l i).f1 + now) (by omega), wz (by omega)]; unfold jv; omega
        have w4 : wrap64 (wrap64 ((rd_T38 l b).f1 + now) - (rd_T38 l b).f2) = jv l b + now := by rw [wz (n := (rd_T38 l b).f1 + now) (by omega), wz (by omega)]; unfold jv; omega
        by_cases hv : jv l i > jv l b
        · have hv' : jv l i + now > jv l b + now := by omega
          obtain ⟨r, r1, r2, r3⟩ := key i (InvJ.up h0 hT ho hv)
          refine ⟨r, up ?_, up ?_, r3⟩
          · simp only [impl_JobNext.l0, if_pos h1, if_pos h0, if_neg n1, within_f, Option.bind_some, yesB o2, yesB o3, yesB o4, yesB o5, Bool.and_self, if_true, Bool.not_true]
            refine up ?_
            simp only [impl_JobNext.j1, Bool.false_eq_true, if_false, if_neg hb, if_pos hb0, if_pos hbl, w1, w2, if_pos hv, hw]
            exact r1
          · simp only [spec_JobNext.l0, if_pos h1, if_pos h0, l1In_f, Option.bind_some, yesB o2, yesB o3, yesB o4, yesB o5, Bool.and_self, if_true]
            refine up ?_
            simp only [spec_JobNext.j1, notB n1, Bool.false_eq_true, if_false, if_neg hb, if_pos hb0, if_pos hbl, w3, w4, if_pos hv', hw]
            exact r2
        · have hv' : ¬ jv l i + now > jv l b + now := by omega
          obtain ⟨r, r1, r2, r3⟩ := key b (InvJ.stay h0 hT ho hv)
          refine ⟨r, up ?_, up ?_, r3⟩
          · simp only [impl_JobNext.l0, if_pos h1, if_pos h0, if_neg n1, within_f, Option.bind_some, yesB o2, yesB o3, yesB o4, yesB o5, Bool.and_self, if_true, Bool.not_true]
            refine up ?_
            simp only [impl_JobNext.j1, Bool.false_eq_true, if_false, if_neg hb, if_pos hb0, if_pos hbl, w1, w2, if_neg hv, hw]
            exact r1
          · simp only [spec_JobNext.l0, if_pos h1, if_pos h0, l1In_f, Option.bind_some, yesB o2, yesB o3, yesB o4, yesB o5, Bool.and_self, if_true]
            refine up ?_
            simp only [spec_JobNext.j1, notB n1, Bool.false_eq_true, if_false, if_neg hb, if_pos hb0, if_pos hbl, w3, w4, if_neg hv', hw]
            exact r2
    · refine ⟨-1, up ?_, up ?_, .inl rfl⟩
      · by_cases n1 : now > 99999
        · simp only [impl_JobNext.l0, if_pos h1, if_pos h0, if_pos n1]
          refine up ?_
          simp only [impl_JobNext.j1, if_true]
          exact Ev.now _
        · simp only [impl_JobNext.l0, if_pos h1, if_pos h0, if_neg n1, within_f, Option.bind_some, andB]
          by_cases n2 : 0 ≤ (rd_T38 l i).f1 ∧ (rd_T38 l i).f1 ≤ 99999
          · have n3 : ¬ (0 ≤ (rd_T38 l i).f2 ∧ (rd_T38 l i).f2 ≤ now) := fun h => ho ⟨by omega, n2.1, n2.2, h.1, h.2⟩
            simp only [yesB n2, if_true, notB n3, Bool.not_false]
            refine up ?_
            simp only [impl_JobNext.j1, if_true]
            exact Ev.now _
          · simp only [notB n2, Bool.false_eq_true, if_false]
            refine up ?_
            simp only [impl_JobNext.j1, if_true]
            exact Ev.now _
      · simp only [spec_JobNext.l0, if_pos h1, if_pos h0, l1In_f, Option.bind_some, andB]
        by_cases n2 : 0 ≤ (rd_T38 l i).f1 ∧ (rd_T38 l i).f1 ≤ 99999
        · by_cases n3 : 0 ≤ (rd_T38 l i).f2 ∧ (rd_T38 l i).f2 ≤ now
          · have n1 : now > 99999 := by
              by_cases e : now > 99999
              · exact e
              · exact absurd ⟨by omega, n2.1, n2.2, n3.1, n3.2⟩ ho
            simp only [yesB n2, if_true, yesB n3, yesB n1]
            refine up ?_
            simp only [spec_JobNext.j1, if_true]
            exact Ev.now _
          · simp only [yesB n2, if_true, notB n3, Bool.false_eq_true, if_false]
            refine up ?_
            simp only [spec_JobNext.j1, if_true]
            exact Ev.now _
        · simp only [notB n2, Bool.false_eq_true, if_false]
          refine up ?_
          simp only [spec_JobNext.j1, if_true]
          exact Ev.now _
theorem jobNext (l : List S38) (now : Int) (hl : l.length ≤ 9223372036854775807) : ∃ r, Ev (fun k => impl_JobNext.f k l now) r ∧ Ev (fun k => spec_JobNext.f k l now) r ∧ (r = -1 ∨ Top l now r l.length) :=
  jobs l now hl l.length 0 (-1) (by omega) (by omega) (.inl ⟨rfl, rfl⟩)

theorem open_f (l : List Int) : spec_l1Open.f l = some (l.take 2000, 0) := by
  unfold spec_l1Open.f
  by_cases h : (l.length : Int) > 2000
  · have h2 : 2000 ≤ (l.length : Int) := by omega
    rw [if_pos h, if_pos h2]
  · rw [if_neg h, List.take_of_length_le (by omega)]
/-- The bytes of a code that is read. -/
structure Code (b : List Int) : Prop where
  byte : ∀ x ∈ b, 0 ≤ x ∧ x ≤ 255
  len : b.length ≤ 2000
theorem Code.of {l : List Int} (h : ∀ x ∈ l, (Lit.int .u8 x).wf = true) : Code (l.take 2000) :=
  ⟨fun x hx => wf_u8 (h x (List.mem_of_mem_take hx)), by rw [List.length_take]; omega⟩
theorem tmod_range {a n : Int} (ha : 0 ≤ a) (hn : 1 ≤ n) : 0 ≤ Int.tmod a n ∧ Int.tmod a n < n := ⟨Int.tmod_nonneg n ha, Int.tmod_lt_of_pos a (by omega)⟩
theorem pick_main (b : List Int) (hb : Code b) (p n : Int) (hp : 0 ≤ p ∧ p ≤ 1000000000000) (hn : 1 ≤ n) (hl : 1 ≤ (b.length : Int)) :
    ∃ v, Ev (fun k => spec_l1Rd_pick.j0 k n false b (p + 1)) (v, p + 1) ∧ 0 ≤ v ∧ v < n := by
  have hl2 : (b.length : Int) ≤ 2000 := by have := hb.len; omega
  have e1 : wrap64 (p + 1 - 1) = p := by rw [wz (by omega)]; omega
  have n0 : ¬ n = 0 := by omega
  by_cases h1 : p < (b.length : Int)
  · have hr := rd_mem (P := fun x => 0 ≤ x ∧ x ≤ 255) hb.byte p hp.1 h1
    have t := tmod_range hr.1 hn
    refine ⟨Int.tmod (rd b p) n, up ?_, t.1, t.2⟩
    have e2 : wrap64 (rd b p) = rd b p := wz (by omega)
    simp only [spec_l1Rd_pick.j0, Bool.false_eq_true, if_false, e1, if_pos h1, if_pos hp.1, if_neg n0, e2]
    exact Ev.now _
  · have l0 : ¬ (b.length : Int) = 0 := by omega
    have t1 := tmod_range hp.1 hl
    have e7 : wrap64 (wrap64 (p * 7) + 3) = p * 7 + 3 := by rw [wz (n := p * 7) (by omega), wz (by omega)]
    have t2 := tmod_range (a := p * 7 + 3) (by omega) hl
    have r1 := rd_mem (P := fun x => 0 ≤ x ∧ x ≤ 255) hb.byte (Int.tmod p b.length) t1.1 t1.2
    have r2 := rd_mem (P := fun x => 0 ≤ x ∧ x ≤ 255) hb.byte (Int.tmod (p * 7 + 3) b.length) t2.1 t2.2
    have d0 : 0 ≤ Int.tdiv p b.length ∧ Int.tdiv p b.length ≤ p := by
      rw [Int.tdiv_eq_ediv_of_nonneg hp.1]
      exact ⟨Int.ediv_nonneg hp.1 (by omega), Int.ediv_le_self _ hp.1⟩
    generalize hx1 : rd b (Int.tmod p b.length) = x1 at *
    generalize hx2 : rd b (Int.tmod (p * 7 + 3) b.length) = x2 at *
    generalize hq : Int.tdiv p b.length = q at *
    have w1 : wrap64 x1 = x1 := wz (by omega)
    have w2 : wrap64 x2 = x2 := wz (by omega)
    have w3 : wrap64 (x1 * 131) = x1 * 131 := wz (by omega)
    have w4 : wrap64 (x2 * 1117) = x2 * 1117 := wz (by omega)
    have w5 : wrap64 (x1 * 131 + x2 * 1117) = x1 * 131 + x2 * 1117 := wz (by omega)
    have w6 : wrap64 (p * 29) = p * 29 := wz (by omega)
    have w7 : wrap64 (x1 * 131 + x2 * 1117 + p * 29) = x1 * 131 + x2 * 1117 + p * 29 := wz (by omega)
    have w8 : wrap64 q = q := wz (by omega)
    have w9 : wrap64 (q * 53) = q * 53 := wz (by omega)
    have wA : wrap64 (x1 * 131 + x2 * 1117 + p * 29 + q * 53) = x1 * 131 + x2 * 1117 + p * 29 + q * 53 := wz (by omega)
    generalize hz : x1 * 131 + x2 * 1117 + p * 29 + q * 53 = z at *
    have z0 : 0 ≤ z ∧ z < 9223372036854775808 := by omega
    have d1 : 0 ≤ Int.tdiv z 64 ∧ Int.tdiv z 64 ≤ z := by
      rw [Int.tdiv_eq_ediv_of_nonneg z0.1]
      omega
    have wB : wrap64 (Int.tdiv z 64) = Int.tdiv z 64 := wz (by omega)
    have hX := xor_nonneg z (Int.tdiv z 64) z0.1 d1.1 z0.2 (by omega)
    have t := tmod_range hX hn
    refine ⟨_, up ?_, t.1, t.2⟩
    simp only [spec_l1Rd_pick.j0, Bool.false_eq_true, if_false, e1, if_neg h1, if_neg l0, if_pos t1.1, if_pos t1.2, e7, if_pos t2.1, if_pos t2.2, if_neg n0, hx1, hx2, hq, w1, w2, w3, w4, w5, w6, w7, w8, w9, hz, wA, wB]
    exact Ev.now _
/-- One number is read: below n; nought where there is none. -/
theorem pick (b : List Int) (hb : Code b) (p n : Int) (hp : 0 ≤ p ∧ p ≤ 1000000000000) :
    ∃ v, Ev (fun k => spec_l1Rd_pick.f k b p n) (v, p + 1) ∧ 0 ≤ v ∧ (1 ≤ n → v < n) := by
  have e0 : wrap64 (p + 1) = p + 1 := wz (by omega)
  unfold spec_l1Rd_pick.f
  by_cases hn : n < 1
  · refine ⟨0, ?_, by omega, by omega⟩
    simp only [if_pos hn, e0]
    refine up ?_
    simp only [spec_l1Rd_pick.j0, if_true]
    exact Ev.now _
  · simp only [if_neg hn, e0]
    by_cases hl : (b.length : Int) = 0
    · refine ⟨0, ?_, by omega, by omega⟩
      have e : ((b.length : Int) == 0) = true := by simpa using hl
      simp only [e]
      refine up ?_
      simp only [spec_l1Rd_pick.j0, if_true]
      exact Ev.now _
    · have e : ((b.length : Int) == 0) = false := by simpa using hl
      simp only [e]
      obtain ⟨v, h1, h2, h3⟩ := pick_main b hb p n hp (by omega) (by omega)
      exact ⟨v, h1, h2, fun _ => h3⟩

theorem drawJob (l0 : List Int) (hw : ∀ x ∈ l0, (Lit.int .u8 x).wf = true) : ∃ (l : List S38) (now : Int), Ev (fun k => spec_DrawJobNext.f k l0) (l, now) ∧ l.length ≤ 100 ∧ 19 ≤ now ∧ now ≤ 30 := by
  have hb := Code.of hw
  generalize hB : l0.take 2000 = b at hb
  have tail : ∀ (x : List S38) (p : Int), x.length ≤ 100 → 0 ≤ p → p ≤ 1000 → ∃ (l : List S38) (now : Int), Ev (fun k => (spec_l1Rd_pick.f k b p 4).bind fun bt => (some (x, wrap64 (19 + bt.1)))) (l, now) ∧ l.length ≤ 100 ∧ 19 ≤ now ∧ now ≤ 30 := by
    intro x p hx hp0 hp1
    obtain ⟨v, h1, h2, h3⟩ := pick b hb p 4 (by omega)
    have := h3 (by omega)
    refine ⟨x, 19 + v, bd h1 ?_, hx, by omega, by omega⟩
    have e : wrap64 (19 + v) = 19 + v := wz (by omega)
    simp only [e]
    exact Ev.now _
  have loop : ∀ (d : Nat) (n p : Int) (x : List S38), n = d → n ≤ 6 → x.length + d ≤ 10 → 0 ≤ p → p + 10 * n ≤ 100 → ∃ (l : List S38) (now : Int), Ev (fun k => spec_DrawJobNext.l0 k x n b p) (l, now) ∧ l.length ≤ 100 ∧ 19 ≤ now ∧ now ≤ 30 := by
    intro d
    induction d with
    | zero =>
      intro n p x hn h6 hx hp0 hp1
      have n0 : ¬ n > 0 := by omega
      by_cases hx0 : (x.length : Int) > 0
      · obtain ⟨v, h1, h2, h3⟩ := pick b hb p 12 (by omega)
        by_cases hv : v = 0
        · have hx1 : 0 < (x.length : Int) := by omega
          obtain ⟨l, now, t, q⟩ := tail (x.set (0 : Int).toNat (⟨(rd_T38 x 0).f0, (-1), (rd_T38 x 0).f2⟩ : S38)) (p + 1) (by simp; omega) (by omega) (by omega)
          refine ⟨l, now, up ?_, q⟩
          simp only [spec_DrawJobNext.l0, if_neg n0, if_pos hx0]
          refine bd h1 ?_
          simp only [if_pos hv, if_pos hx1]
          exact t
        · obtain ⟨l, now, t, q⟩ := tail x (p + 1) (by omega) (by omega) (by omega)
          refine ⟨l, now, up ?_, q⟩
          simp only [spec_DrawJobNext.l0, if_neg n0, if_pos hx0]
          refine bd h1 ?_
          simp only [if_neg hv]
          exact t
      · obtain ⟨l, now, t, q⟩ := tail x p (by omega) (by omega) (by omega)
        refine ⟨l, now, up ?_, q⟩
        simp only [spec_DrawJobNext.l0, if_neg n0, if_neg hx0]
        exact t
    | succ d ih =>
      intro n p x hn h6 hx hp0 hp1
      have n0 : n > 0 := by omega
      obtain ⟨v, h1, h2, h3⟩ := pick b hb p 5 (by omega)
      obtain ⟨u, g1, g2, g3⟩ := pick b hb (p + 1) 20 (by omega)
      obtain ⟨l, now, t, q⟩ := ih (n - 1) (p + 1 + 1) (x ++ [(⟨n, v, u⟩ : S38)]) (by omega) (by omega) (by simp; omega) (by omega) (by omega)
      have hx1 : x.length < 5864062014805 := by omega
      have e : wrap64 (n - 1) = n - 1 := wz (by omega)
      refine ⟨l, now, up ?_, q⟩
      simp only [spec_DrawJobNext.l0, if_pos n0]
      refine bd h1 ?_
      refine bd g1 ?_
      simp only [if_pos hx1, e]
      exact t
  obtain ⟨v, h1, h2, h3⟩ := pick b hb 0 6 (by omega)
  have := h3 (by omega)
  obtain ⟨l, now, t, q⟩ := loop v.toNat v (0 + 1) [] (by omega) (by omega) (by simp; omega) (by omega) (by omega)
  refine ⟨l, now, ?_, q⟩
  unfold spec_DrawJobNext.f
  simp only [open_f, Option.bind_some, hB]
  exact bd h1 t
theorem FnJobNext (l0 : List (Int)) (h0 : l0.length ≤ 9223372036854775807 ∧ ∀ x ∈ l0, (Lit.int .u8 x).wf = true) :
    ∃ k, laws_FnJobNext.f k l0 = some true := by
  have hw := h0.2
  refine ex ?_
  unfold laws_FnJobNext.f
  by_cases hl : (l0.length : Int) > 1048576
  · simp only [if_pos hl]; exact Ev.now _
  · simp only [if_neg hl]
    obtain ⟨l, now, hd, hlen, n1, n2⟩ := drawJob l0 hw
    obtain ⟨r, r1, r2, hr⟩ := jobNext l now (by omega)
    refine bd hd ?_
    refine bd r1 ?_
    refine bd r2 ?_
    simp only [if_true]
    by_cases hneg : r < 0
    · refine up ?_
      simp only [laws_FnJobNext.j0, yesB hneg, if_true]
      refine bd r2 ?_
      simp only [beq_self_eq_true]
      exact Ev.now _
    · have hT : Top l now r l.length := by rcases hr with h | h; · omega
                                           · exact h
      have hr0 := hT.1
      have hr1 := hT.2.1
      have val : ∀ j : Int, 0 ≤ j → j < l.length → wrap64 (wrap64 ((rd_T38 l j).f1 + now) - (rd_T38 l j).f2) = jv l j + now := by
        intro j h0 h1
        obtain ⟨⟨q1, q2, q3, q4, q5⟩, _, _⟩ := hT.2.2 j h0 h1
        rw [wz (n := (rd_T38 l j).f1 + now) (by omega), wz (by omega)]
        unfold jv
        omega
      refine up ?_
      simp only [laws_FnJobNext.j0, notB hneg, Bool.false_eq_true, if_false, if_pos hr0, if_pos hr1, val r hr0 hr1]
      have main : ∀ (d i : Nat), i + d = l.length → Ev (fun k => laws_FnJobNext.l0 k l now r (jv l r + now) (i : Int)) true := by
        intro d
        induction d with
        | zero =>
          intro i hi
          have h1 : ¬ (i : Int) < (l.length : Int) := by omega
          refine up ?_
          simp only [laws_FnJobNext.l0, if_neg h1]
          exact Ev.now _
        | succ d ih =>
          intro i hi
          have h1 : (i : Int) < (l.length : Int) := by omega
          have h2 : 0 ≤ (i : Int) := by omega
          have h4 : wrap64 ((i : Int) + 1) = ((i + 1 : Nat) : Int) := by rw [wz (by omega)]; omega
          obtain ⟨_, t1, t2⟩ := hT.2.2 i h2 h1
          have g1 : ¬ jv l (i : Int) + now > jv l r + now := by omega
          refine up ?_
          simp only [laws_FnJobNext.l0, if_pos h1, if_pos h2, val i h2 h1, if_neg g1]
          by_cases g2 : jv l (i : Int) + now = jv l r + now
          · have g3 : ¬ (i : Int) < r := fun h => by have := t2 h; omega
            simp only [if_pos g2, if_neg g3, h4]
            exact ih (i + 1) (by omega)
          · simp only [if_neg g2, h4]
            exact ih (i + 1) (by omega)
      exact main l.length 0 (by omega)

end Go.Proofs.Ytdigjaphfpfbaaa.Pure
