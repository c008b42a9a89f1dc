/-
For every message, the program's WordOk and the reference's WordOk tell the same, so FnExactWordOk returns true.
Conditions: none beyond the form's own reach.
-/
import Derived.Test.YtdigjaphfpfbaaaPFnExactWordOkx0
import Derived.Test.YtdigjaphfpfbaaaPFnExactWordOkx1
import Derived.Test.YtdigjaphfpfbaaaPFnExactWordOkx2
import Derived.Test.YtdigjaphfpfbaaaPFnExactWordOkx3
import Derived.Test.YtdigjaphfpfbaaaPFnExactWordOkx4
import Derived.Test.YtdigjaphfpfbaaaPFnExactWordOkx5
import Derived.Test.YtdigjaphfpfbaaaPureC
namespace Go.Proofs.Ytdigjaphfpfbaaa.Pure
open Go.RowKit Go.Proofs.Ytdigjaphfpfbaaa.PFnExactWordOk Go.Proofs.Ytdigjaphfpfbaaa.C Go.Proofs.YtdigjaphfpfbaaaW.PrintWords Go.Proofs.YtdigjaphfpfbaaaW.PrintLast
set_option linter.unusedVariables false
set_option linter.unusedSimpArgs false

/-- A name: letters, one to six of them. -/
def nameF (s : ByteArray) : Nat → Bool
  | 0 => decide (1 ≤ s.size) && decide (s.size ≤ 6)
  | d + 1 => if bt s ((s.size : Int) - (d + 1)) < 97 then false else if bt s ((s.size : Int) - (d + 1)) > 122 then false else nameF s d
def nameB (s : ByteArray) : Bool := nameF s s.size

theorem l1In_f (a b c : Int) : spec_l1In.f a b c = some (decide (b ≤ a) && decide (a ≤ c)) := by
  unfold spec_l1In.f
  by_cases h : b ≤ a <;> simp [h]
theorem within_f (a b c : Int) : impl_within.f a b c = some (decide (b ≤ a) && decide (a ≤ c)) := by
  unfold impl_within.f
  by_cases h : b ≤ a <;> simp [h]

theorem specName_l0 (s : ByteArray) (hs : s.size ≤ 140737488351232) : ∀ (d : Nat), d ≤ s.size → Ev (fun k => spec_NameOk.l0 k s ((s.size : Int) - d)) (nameF s d) := by
  intro d
  induction d with
  | zero =>
    intro _
    refine up ?_
    have h : ¬ ((s.size : Int) - ((0 : Nat) : Int) < s.size) := by omega
    simp only [spec_NameOk.l0, if_neg h, l1In_f, Option.bind_some, nameF]
    rw [show decide (1 ≤ (s.size : Int)) = decide (1 ≤ s.size) from decide_eq_decide.2 (by omega), show decide ((s.size : Int) ≤ 6) = decide (s.size ≤ 6) from decide_eq_decide.2 (by omega)]
    exact Ev.now _
  | succ d ih =>
    intro hd
    refine up ?_
    have h1 : (s.size : Int) - ((d + 1 : Nat) : Int) < s.size := by omega
    have h2 : 0 ≤ (s.size : Int) - ((d + 1 : Nat) : Int) := by omega
    have h3 : wrap64 ((s.size : Int) - ((d + 1 : Nat) : Int) + 1) = (s.size : Int) - (d : Int) := by rw [wz (by omega)]; omega
    have e : ((d + 1 : Nat) : Int) = (d : Int) + 1 := by omega
    simp only [spec_NameOk.l0, if_pos h1, if_pos h2, h3, nameF]
    rw [e]
    by_cases h4 : bt s ((s.size : Int) - ((d : Int) + 1)) < 97
    · simp only [if_pos h4]; exact Ev.now _
    · simp only [if_neg h4]
      by_cases h5 : bt s ((s.size : Int) - ((d : Int) + 1)) > 122
      · simp only [if_pos h5]; exact Ev.now _
      · simp only [if_neg h5]; exact ih (by omega)
theorem specName (s : ByteArray) (hs : s.size ≤ 140737488351232) : Ev (fun k => spec_NameOk.f k s) (nameB s) := by
  have h := specName_l0 s hs s.size (Nat.le_refl _)
  have e : (s.size : Int) - (s.size : Int) = 0 := by omega
  rw [e] at h
  exact h

theorem implName_l0 (s : ByteArray) (hs : s.size ≤ 140737488351232) : ∀ (d : Nat), d ≤ s.size → Ev (fun k => impl_NameOk.l0 k s (s.size : Int) ((s.size : Int) - d)) (nameF s d) := by
  intro d
  induction d with
  | zero =>
    intro _
    refine up ?_
    have h : ¬ ((s.size : Int) - ((0 : Nat) : Int) < s.size) := by omega
    simp only [impl_NameOk.l0, if_neg h, within_f, Option.bind_some, nameF]
    rw [show decide (1 ≤ (s.size : Int)) = decide (1 ≤ s.size) from decide_eq_decide.2 (by omega), show decide ((s.size : Int) ≤ 6) = decide (s.size ≤ 6) from decide_eq_decide.2 (by omega)]
    exact Ev.now _
  | succ d ih =>
    intro hd
    refine up ?_
    have h1 : (s.size : Int) - ((d + 1 : Nat) : Int) < s.size := by omega
    have h2 : 0 ≤ (s.size : Int) - ((d + 1 : Nat) : Int) := by omega
    have h3 : wrap64 ((s.size : Int) - ((d + 1 : Nat) : Int) + 1) = (s.size : Int) - (d : Int) := by rw [wz (by omega)]; omega
    have e : ((d + 1 : Nat) : Int) = (d : Int) + 1 := by omega
    simp only [impl_NameOk.l0, if_pos h1, if_pos h2, h3, nameF]
    rw [e]
    by_cases h4 : bt s ((s.size : Int) - ((d : Int) + 1)) < 97
    · simp only [if_pos h4]; exact Ev.now _
    · simp only [if_neg h4]
      by_cases h5 : bt s ((s.size : Int) - ((d : Int) + 1)) > 122
      · simp only [if_pos h5]; exact Ev.now _
      · simp only [if_neg h5]; exact ih (by omega)
theorem implName (s : ByteArray) (hs : s.size ≤ 140737488351232) : Ev (fun k => impl_NameOk.f k s) (nameB s) := by
  have h := implName_l0 s hs s.size (Nat.le_refl _)
  have e : (s.size : Int) - (s.size : Int) = 0 := by omega
  rw [e] at h
  exact h

/-- A message within the document's limits. -/
def wordB (kind client try_ ed num : Int) (name data : ByteArray) : Bool :=
  if (0 ≤ client ∧ client ≤ 99999) ∧ (1 ≤ try_ ∧ try_ ≤ 99999) ∧ (0 ≤ ed ∧ ed ≤ 99999) ∧ (0 ≤ num ∧ num ≤ 99999) ∧ ¬ (data.size : Int) > 80 then
    (if kind = 1 then nameB name && !(decide (num > 0)) && !(data.toList != [])
     else if kind = 2 then decide (ed > 0) && (data.toList != []) && !(decide (num > 0)) && !(name.toList != [])
     else if kind = 3 then decide (ed > 0) && (data.toList != []) && !(name.toList != [])
     else if kind = 4 then decide (ed > 0) && !(name.toList != []) && !(data.toList != [])
     else if kind = 5 then decide (ed > 0) && !(name.toList != []) && !(data.toList != [])
     else if kind = 6 then !(decide (num > 0)) && !(name.toList != []) && !(data.toList != [])
     else false)
  else false
theorem bne_nil (l : List UInt8) : (l != []) = !(decide (l = [])) := by cases l <;> simp
theorem beq_nil (l : List UInt8) : (l == []) = decide (l = []) := by cases l <;> simp
theorem specWord (kind client try_ ed num : Int) (name data : ByteArray) (hn : name.size ≤ 140737488351232) : Ev (fun k => spec_WordOk.f k kind client try_ ed num name data) (wordB kind client try_ ed num name data) := by
  unfold spec_WordOk.f wordB
  simp only [l1In_f, Option.bind_some, andB, bne_nil, beq_nil]
  by_cases h1 : 0 ≤ client ∧ client ≤ 99999
  rotate_left
  · simp only [notB h1, Bool.false_eq_true, if_false, h1, false_and]; exact Ev.now _
  by_cases h2 : 1 ≤ try_ ∧ try_ ≤ 99999
  rotate_left
  · simp only [yesB h1, notB h2, Bool.false_eq_true, if_false, if_true, h2, false_and, and_false]; exact Ev.now _
  by_cases h3 : 0 ≤ ed ∧ ed ≤ 99999
  rotate_left
  · simp only [yesB h1, yesB h2, notB h3, Bool.false_eq_true, if_false, if_true, h3, false_and, and_false]; exact Ev.now _
  by_cases h4 : 0 ≤ num ∧ num ≤ 99999
  rotate_left
  · simp only [yesB h1, yesB h2, yesB h3, notB h4, Bool.false_eq_true, if_false, if_true, h4, false_and, and_false]; exact Ev.now _
  by_cases h5 : (data.size : Int) > 80
  · simp only [yesB h1, yesB h2, yesB h3, yesB h4, if_pos h5, if_true, not_true, h5, and_false, if_false]; exact Ev.now _
  simp only [yesB h1, yesB h2, yesB h3, yesB h4, if_neg h5, if_true, h1, h2, h3, h4, h5, not_false_eq_true, and_self]
  by_cases k1 : kind = 1
  · simp only [if_pos k1]
    refine bd (specName name hn) ?_
    cases nameB name with
    | false => simp only [Bool.false_eq_true, if_false, Bool.false_and]; exact Ev.now _
    | true =>
      simp only [if_true, Bool.true_and]
      by_cases e : num = 0
      · have e' : ¬ num > 0 := by omega
        simp only [if_pos e, notB e', Bool.not_false, Bool.true_and, Bool.not_not]; exact Ev.now _
      · have e' : num > 0 := by omega
        simp only [if_neg e, yesB e', Bool.not_true, Bool.false_and]; exact Ev.now _
  · simp only [if_neg k1]
    by_cases n1 : name.toList = []
    · have g : ¬ num > 0 ↔ num = 0 := by omega
      by_cases k6 : kind = 6
      · subst k6
        by_cases e : num = 0
        · have e' : ¬ num > 0 := by omega
          simp [n1, e, e']; exact Ev.now _
        · have e' : num > 0 := by omega
          simp [n1, e, e']; exact Ev.now _
      · by_cases k2 : kind = 2
        · subst k2
          by_cases e : num = 0
          · have e' : ¬ num > 0 := by omega
            by_cases f : ed > 0 <;> simp [n1, e, e', f] <;> exact Ev.now _
          · have e' : num > 0 := by omega
            by_cases f : ed > 0 <;> simp [n1, e, e', f] <;> exact Ev.now _
        · by_cases k3 : kind = 3
          · subst k3
            by_cases f : ed > 0 <;> simp [n1, f] <;> exact Ev.now _
          · by_cases k4 : kind = 4
            · subst k4
              by_cases f : ed > 0 <;> simp [n1, f] <;> exact Ev.now _
            · by_cases k5 : kind = 5
              · subst k5
                by_cases f : ed > 0 <;> simp [n1, f] <;> exact Ev.now _
              · simp [k1, k2, k3, k4, k5, k6, n1]; exact Ev.now _
    · simp [n1]; exact Ev.now _
theorem implWord (kind client try_ ed num : Int) (name data : ByteArray) (hn : name.size ≤ 140737488351232) : Ev (fun k => impl_WordOk.f k kind client try_ ed num name data) (wordB kind client try_ ed num name data) := by
  unfold impl_WordOk.f wordB
  simp only [within_f, Option.bind_some, andB, bne_nil, beq_nil]
  by_cases h1 : 0 ≤ client ∧ client ≤ 99999
  rotate_left
  · simp only [notB h1, Bool.false_eq_true, if_false, h1, false_and]; exact Ev.now _
  by_cases h3 : 0 ≤ ed ∧ ed ≤ 99999
  rotate_left
  · simp only [yesB h1, notB h3, Bool.false_eq_true, if_false, if_true, h3, false_and, and_false]; exact Ev.now _
  by_cases h4 : 0 ≤ num ∧ num ≤ 99999
  rotate_left
  · simp only [yesB h1, yesB h3, notB h4, Bool.false_eq_true, if_false, if_true, h4, false_and, and_false]; exact Ev.now _
  by_cases h2 : 1 ≤ try_ ∧ try_ ≤ 99999
  rotate_left
  · simp only [yesB h1, yesB h3, yesB h4, notB h2, Bool.false_eq_true, if_false, if_true, h2, false_and, and_false]; exact Ev.now _
  by_cases h5 : (data.size : Int) > 80
  · simp only [yesB h1, yesB h2, yesB h3, yesB h4, if_pos h5, if_true, not_true, h5, and_false, if_false]; exact Ev.now _
  simp only [yesB h1, yesB h2, yesB h3, yesB h4, if_neg h5, if_true, h1, h2, h3, h4, h5, not_false_eq_true, and_self]
  by_cases k1 : kind = 1
  · simp only [if_pos k1]
    refine bd (implName name hn) ?_
    cases nameB name with
    | false => simp only [Bool.false_eq_true, if_false, Bool.false_and]; exact Ev.now _
    | true =>
      simp only [if_true, Bool.true_and]
      by_cases e' : num > 0
      · simp only [if_pos e', yesB e', Bool.not_true, Bool.false_and]; exact Ev.now _
      · simp only [if_neg e', notB e', Bool.not_false, Bool.true_and]; exact Ev.now _
  · simp only [if_neg k1]
    by_cases n1 : name.toList = [] <;> by_cases d1 : data.toList = [] <;> by_cases e : num > 0 <;> by_cases f : ed > 0
    all_goals
      by_cases k2 : kind = 2
      · simp [*]; exact Ev.now _
      · by_cases k3 : kind = 3
        · simp [*]; exact Ev.now _
        · by_cases k4 : kind = 4
          · simp [*]; exact Ev.now _
          · by_cases k5 : kind = 5
            · simp [*]; exact Ev.now _
            · by_cases k6 : kind = 6
              · simp [*]; exact Ev.now _
              · simp [*]; exact Ev.now _

theorem FnExactWordOk (a0_0 : Int) (a0_1 : Int) (a0_2 : Int) (a0_3 : Int) (a0_4 : Int) (a0_5 : ByteArray) (a0_6 : ByteArray) (h0 : ((Lit.int .i64 a0_0).wf = true) ∧ (((Lit.int .i64 a0_1).wf = true) ∧ (((Lit.int .i64 a0_2).wf = true) ∧ (((Lit.int .i64 a0_3).wf = true) ∧ (((Lit.int .i64 a0_4).wf = true) ∧ ((a0_5.size ≤ 9223372036854775807) ∧ (a0_6.size ≤ 9223372036854775807))))))) :
    ∃ k, laws_FnExactWordOk.f k a0_0 a0_1 a0_2 a0_3 a0_4 a0_5 a0_6 = some true := by
  obtain ⟨_, _, _, _, _, s5, s6⟩ := h0
  refine ex ?_
  unfold laws_FnExactWordOk.f laws_szWord.f laws_toWord.f
  have e1 : wrap64 (1048576 - (a0_5.size : Int)) = 1048576 - (a0_5.size : Int) := wz (by omega)
  simp only [e1]
  by_cases c1 : 1048576 - (a0_5.size : Int) < 0
  · simp only [if_pos c1, Option.bind_some, if_pos (show (-1 : Int) < 0 by omega)]; exact Ev.now _
  · have e2 : wrap64 (1048576 - (a0_5.size : Int) - (a0_6.size : Int)) = 1048576 - (a0_5.size : Int) - (a0_6.size : Int) := wz (by omega)
    simp only [if_neg c1, e2]
    by_cases c2 : 1048576 - (a0_5.size : Int) - (a0_6.size : Int) < 0
    · simp only [if_pos c2, Option.bind_some, if_pos (show (-1 : Int) < 0 by omega)]; exact Ev.now _
    · simp only [if_neg c2, Option.bind_some]
      refine bd (specWord _ _ _ _ _ _ _ (by omega)) ?_
      refine bd (implWord _ _ _ _ _ _ _ (by omega)) ?_
      simp only [bne_self_eq_false, Bool.false_eq_true, if_false]
      exact Ev.now _

end Go.Proofs.Ytdigjaphfpfbaaa.Pure
