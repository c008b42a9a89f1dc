/-
For every house, name and text, the program's CatRecord and the reference's CatRecord write the same (of a house 0 or 1, a good name and a text of at most 300 bytes the record; of anything else nothing), so FnExactCatRecord returns true.
Conditions: none beyond the form's own reach.
-/
import Derived.Test.YtbpmfdpbgcpjeaaDoorPFnExactCatRecordx0
import Derived.Test.YtbpmfdpbgcpjeaaDoorPFnExactCatRecordx1
import Derived.Test.YtbpmfdpbgcpjeaaDoorPFnExactCatRecordx2
import Derived.Test.YtbpmfdpbgcpjeaaDoorPFnExactCatRecordx3
import Derived.Test.YtbpmfdpbgcpjeaaDoorPFnExactCatRecordx4
import Derived.Test.YtbpmfdpbgcpjeaaDoorPFnExactCatRecordx5
import Derived.Test.YtbpmfdpbgcpjeaaDoorPFnExactCatRecordx6
import Derived.Test.YtbpmfdpbgcpjeaaDoorPureC
namespace Go.Proofs.YtbpmfdpbgcpjeaaDoor.Pure
open Go.RowKit Go.Proofs.YtbpmfdpbgcpjeaaDoor.PFnExactCatRecord Go.Proofs.YtbpmfdpbgcpjeaaDoor.C Go.Proofs.YtbpmfdpbgcpjeaaDoorW.PrintWords Go.Proofs.YtbpmfdpbgcpjeaaDoorW.PrintLast
set_option linter.unusedVariables false
set_option linter.unusedSimpArgs false

/-- A name: letters, one to six of them. -/
def nameF (s : ByteArray) : Nat → Bool
  | 0 => decide (1 ≤ s.size) && decide (s.size ≤ 6)
  | d + 1 => if bt s ((s.size : Int) - (d + 1)) < 97 then false else if bt s ((s.size : Int) - (d + 1)) > 122 then false else nameF s d
def nameB (s : ByteArray) : Bool := nameF s s.size

theorem l1In_f (a b c : Int) : spec_l1In.f a b c = some (decide (b ≤ a) && decide (a ≤ c)) := by
  unfold spec_l1In.f
  by_cases h : b ≤ a <;> simp [h]
theorem within_f (a b c : Int) : impl_within.f a b c = some (decide (b ≤ a) && decide (a ≤ c)) := by
  unfold impl_within.f
  by_cases h : b ≤ a <;> simp [h]

theorem specName_l0 (s : ByteArray) (hs : s.size ≤ 140737488351232) : ∀ (d : Nat), d ≤ s.size → Ev (fun k => spec_NameOk.l0 k s ((s.size : Int) - d)) (nameF s d) := by
  intro d
  induction d with
  | zero =>
    intro _
    refine up ?_
    have h : ¬ ((s.size : Int) - ((0 : Nat) : Int) < s.size) := by omega
    simp only [spec_NameOk.l0, if_neg h, l1In_f, Option.bind_some, nameF]
    rw [show decide (1 ≤ (s.size : Int)) = decide (1 ≤ s.size) from decide_eq_decide.2 (by omega), show decide ((s.size : Int) ≤ 6) = decide (s.size ≤ 6) from decide_eq_decide.2 (by omega)]
    exact Ev.now _
  | succ d ih =>
    intro hd
    refine up ?_
    have h1 : (s.size : Int) - ((d + 1 : Nat) : Int) < s.size := by omega
    have h2 : 0 ≤ (s.size : Int) - ((d + 1 : Nat) : Int) := by omega
    have h3 : wrap64 ((s.size : Int) - ((d + 1 : Nat) : Int) + 1) = (s.size : Int) - (d : Int) := by rw [wz (by omega)]; omega
    have e : ((d + 1 : Nat) : Int) = (d : Int) + 1 := by omega
    simp only [spec_NameOk.l0, if_pos h1, if_pos h2, h3, nameF]
    rw [e]
    by_cases h4 : bt s ((s.size : Int) - ((d : Int) + 1)) < 97
    · simp only [if_pos h4]; exact Ev.now _
    · simp only [if_neg h4]
      by_cases h5 : bt s ((s.size : Int) - ((d : Int) + 1)) > 122
      · simp only [if_pos h5]; exact Ev.now _
      · simp only [if_neg h5]; exact ih (by omega)
theorem specName (s : ByteArray) (hs : s.size ≤ 140737488351232) : Ev (fun k => spec_NameOk.f k s) (nameB s) := by
  have h := specName_l0 s hs s.size (Nat.le_refl _)
  have e : (s.size : Int) - (s.size : Int) = 0 := by omega
  rw [e] at h
  exact h

theorem implName_l0 (s : ByteArray) (hs : s.size ≤ 140737488351232) : ∀ (d : Nat), d ≤ s.size → Ev (fun k => impl_NameOk.l0 k s (s.size : Int) ((s.size : Int) - d)) (nameF s d) := by
  intro d
  induction d with
  | zero =>
    intro _
    refine up ?_
    have h : ¬ ((s.size : Int) - ((0 : Nat) : Int) < s.size) := by omega
    simp only [impl_NameOk.l0, if_neg h, within_f, Option.bind_some, nameF]
    rw [show decide (1 ≤ (s.size : Int)) = decide (1 ≤ s.size) from decide_eq_decide.2 (by omega), show decide ((s.size : Int) ≤ 6) = decide (s.size ≤ 6) from decide_eq_decide.2 (by omega)]
    exact Ev.now _
  | succ d ih =>
    intro hd
    refine up ?_
    have h1 : (s.size : Int) - ((d + 1 : Nat) : Int) < s.size := by omega
    have h2 : 0 ≤ (s.size : Int) - ((d + 1 : Nat) : Int) := by omega
    have h3 : wrap64 ((s.size : Int) - ((d + 1 : Nat) : Int) + 1) = (s.size : Int) - (d : Int) := by rw [wz (by omega)]; omega
    have e : ((d + 1 : Nat) : Int) = (d : Int) + 1 := by omega
    simp only [impl_NameOk.l0, if_pos h1, if_pos h2, h3, nameF]
    rw [e]
    by_cases h4 : bt s ((s.size : Int) - ((d : Int) + 1)) < 97
    · simp only [if_pos h4]; exact Ev.now _
    · simp only [if_neg h4]
      by_cases h5 : bt s ((s.size : Int) - ((d : Int) + 1)) > 122
      · simp only [if_pos h5]; exact Ev.now _
      · simp only [if_neg h5]; exact ih (by omega)
theorem implName (s : ByteArray) (hs : s.size ≤ 140737488351232) : Ev (fun k => impl_NameOk.f k s) (nameB s) := by
  have h := implName_l0 s hs s.size (Nat.le_refl _)
  have e : (s.size : Int) - (s.size : Int) = 0 := by omega
  rw [e] at h
  exact h

/-- The record as both write it. -/
def recM (a0 : Int) (a1 a2 : ByteArray) : ByteArray :=
  if 0 ≤ a0 ∧ a0 ≤ 1 then (if nameB a1 = true then (if (a2.size : Int) > 300 then ⟨#[]⟩ else ((((if a0 = 0 then (⟨#[48]⟩ : ByteArray) else ⟨#[49]⟩) ++ (⟨#[32]⟩ : ByteArray)) ++ a1) ++ (⟨#[58]⟩ : ByteArray)) ++ a2) else ⟨#[]⟩) else ⟨#[]⟩
theorem dec01 (a0 : Int) (h : 0 ≤ a0 ∧ a0 ≤ 1) : Ev (fun k => spec_l1Dec.f k a0) (if a0 = 0 then (⟨#[48]⟩ : ByteArray) else ⟨#[49]⟩) := by
  refine up ?_
  have e1 : ¬ a0 < (-9223372036854775807) := by omega
  have e2 : ¬ a0 < 0 := by omega
  have e3 : a0 < 10 := by omega
  have hw : wrap64 (48 + a0) = 48 + a0 := wz (by omega)
  simp only [spec_l1Dec.f, if_neg e1, if_neg e2, if_pos e3, hw]
  by_cases z : a0 = 0
  · subst z; exact Ev.now _
  · obtain rfl : a0 = 1 := by omega
    exact Ev.now _
theorem len_toList (s : ByteArray) : s.toList.length = s.size := by
  rw [ByteArray.toList_eq]
  exact Array.length_toList
theorem sz01 (a0 : Int) : (if a0 = 0 then (⟨#[48]⟩ : ByteArray) else ⟨#[49]⟩).size = 1 := by split <;> rfl
theorem specRec (a0 : Int) (a1 a2 : ByteArray) (h1 : a1.size ≤ 1048576) (h2 : a2.size ≤ 1048576) : Ev (fun k => spec_CatRecord.f k a0 a1 a2) (recM a0 a1 a2) := by
  have main : ∀ x7 : ByteArray, ((1 ≤ (x7.size : Int) ∧ (x7.size : Int) ≤ 300) ↔ ¬ (a2.size : Int) > 300) → Ev (fun k => spec_CatRecord.j0 k a0 a1 a2 x7) (recM a0 a1 a2) := by
    intro x7 hx
    refine up ?_
    unfold recM
    simp only [spec_CatRecord.j0, spec_l9Ok.f, l1In_f, Option.bind_some, andB]
    by_cases c : 0 ≤ a0 ∧ a0 ≤ 1
    · simp only [yesB c, if_true, if_pos c]
      cases nb : nameB a1 with
      | false =>
        simp only [Bool.false_eq_true, if_false]
        refine bd (a := false) (bd (specName _ (by omega)) ?_) ?_
        · rw [nb]; simp only [Bool.false_eq_true, if_false]; exact Ev.now _
        · simp only [Bool.false_eq_true, if_false]; exact Ev.now _
      | true =>
        simp only [if_true]
        by_cases g : (a2.size : Int) > 300
        · rw [if_pos g]
          have hn : ¬ (1 ≤ (x7.size : Int) ∧ (x7.size : Int) ≤ 300) := fun h => (hx.1 h) g
          refine bd (a := false) (bd (specName _ (by omega)) ?_) ?_
          · rw [nb]; simp only [if_true, notB hn]; exact Ev.now _
          · simp only [Bool.false_eq_true, if_false]; exact Ev.now _
        · rw [if_neg g]
          have hn := hx.2 g
          have s1 := sz01 a0
          generalize hD : (if a0 = 0 then (⟨#[48]⟩ : ByteArray) else ⟨#[49]⟩) = D at s1 ⊢
          have g1 : D.size + 1 ≤ 9223372036854775807 := by omega
          have z1 : (D ++ (⟨#[32]⟩ : ByteArray)).size = 2 := by rw [ByteArray.size_append, s1]; rfl
          have g2 : (D ++ (⟨#[32]⟩ : ByteArray)).size + a1.size ≤ 9223372036854775807 := by omega
          have z2 : ((D ++ (⟨#[32]⟩ : ByteArray)) ++ a1).size = 2 + a1.size := by rw [ByteArray.size_append, z1]
          have g3 : ((D ++ (⟨#[32]⟩ : ByteArray)) ++ a1).size + 1 ≤ 9223372036854775807 := by omega
          have z3 : (((D ++ (⟨#[32]⟩ : ByteArray)) ++ a1) ++ (⟨#[58]⟩ : ByteArray)).size = 2 + a1.size + 1 := by rw [ByteArray.size_append, z2]; rfl
          have g4 : (((D ++ (⟨#[32]⟩ : ByteArray)) ++ a1) ++ (⟨#[58]⟩ : ByteArray)).size + a2.size ≤ 9223372036854775807 := by omega
          refine bd (a := true) (bd (specName _ (by omega)) ?_) ?_
          · rw [nb]; simp only [if_true, yesB hn]; exact Ev.now _
          · simp only [if_true]
            have hd := dec01 a0 c
            rw [hD] at hd
            refine bd hd ?_
            simp only [if_pos g1, if_pos g2, if_pos g3, if_pos g4]
            exact Ev.now _
    · simp only [notB c, Bool.false_eq_true, if_false, if_neg c, Option.bind_some]
      exact Ev.now _
  unfold spec_CatRecord.f
  by_cases z : a2.toList = ([] : List UInt8)
  · simp only [if_pos z]
    refine main _ ?_
    have s0 : a2.size = 0 := by
      have h := len_toList a2
      rw [z] at h
      exact h.symm
    have : ((⟨#[120]⟩ : ByteArray).size : Int) = 1 := rfl
    omega
  · simp only [if_neg z]
    refine main _ ?_
    have s0 : a2.size ≠ 0 := by
      intro h
      apply z
      have e := len_toList a2
      rw [h] at e
      exact List.length_eq_zero_iff.1 e
    omega
theorem implRec (a0 : Int) (a1 a2 : ByteArray) (h1 : a1.size ≤ 1048576) (h2 : a2.size ≤ 1048576) : Ev (fun k => impl_CatRecord.f k a0 a1 a2) (recM a0 a1 a2) := by
  unfold impl_CatRecord.f impl_house.f recM
  simp only [within_f, Option.bind_some, andB]
  by_cases c : 0 ≤ a0 ∧ a0 ≤ 1
  · simp only [yesB c, if_true, if_pos c]
    refine bd (implName _ (by omega)) ?_
    cases nb : nameB a1 with
    | false => simp only [Bool.false_eq_true, if_false]; exact Ev.now _
    | true =>
      simp only [if_true]
      by_cases g : (a2.size : Int) > 300
      · simp only [if_pos g]; exact Ev.now _
      · simp only [if_neg g]
        have hI : strconv_Itoa_14.f a0 = some (if a0 = 0 then (⟨#[48]⟩ : ByteArray) else ⟨#[49]⟩) := by
          unfold strconv_Itoa_14.f strconv_Itoa_25.f strconv_FormatInt.f
          by_cases z : a0 = 0
          · simp [z]
          · have z1 : a0 = 1 := by omega
            simp [z1]
        have s1 := sz01 a0
        generalize hD : (if a0 = 0 then (⟨#[48]⟩ : ByteArray) else ⟨#[49]⟩) = D at s1 hI ⊢
        have g1 : D.size + 1 ≤ 9223372036854775807 := by omega
        have z1 : (D ++ (⟨#[32]⟩ : ByteArray)).size = 2 := by rw [ByteArray.size_append, s1]; rfl
        have g2 : (D ++ (⟨#[32]⟩ : ByteArray)).size + a1.size ≤ 9223372036854775807 := by omega
        have z2 : ((D ++ (⟨#[32]⟩ : ByteArray)) ++ a1).size = 2 + a1.size := by rw [ByteArray.size_append, z1]
        have g3 : ((D ++ (⟨#[32]⟩ : ByteArray)) ++ a1).size + 1 ≤ 9223372036854775807 := by omega
        have z3 : (((D ++ (⟨#[32]⟩ : ByteArray)) ++ a1) ++ (⟨#[58]⟩ : ByteArray)).size = 2 + a1.size + 1 := by rw [ByteArray.size_append, z2]; rfl
        have g4 : (((D ++ (⟨#[32]⟩ : ByteArray)) ++ a1) ++ (⟨#[58]⟩ : ByteArray)).size + a2.size ≤ 9223372036854775807 := by omega
        simp only [hI, Option.bind_some, if_pos g1, if_pos g2, if_pos g3, if_pos g4]
        exact Ev.now _
  · simp only [notB c, Bool.false_eq_true, if_false, if_neg c]
    exact Ev.now _
theorem FnExactCatRecord (a0 : Int) (a1 : ByteArray) (a2 : ByteArray) (h0 : (Lit.int .i64 a0).wf = true) (h1 : a1.size ≤ 9223372036854775807) (h2 : a2.size ≤ 9223372036854775807) :
    ∃ k, laws_FnExactCatRecord.f k a0 a1 a2 = some true := by
  refine ex ?_
  unfold laws_FnExactCatRecord.f
  by_cases c1 : (a1.size : Int) > 1048576
  · simp only [if_pos c1]; exact Ev.now _
  · by_cases c2 : (a2.size : Int) > 1048576
    · simp only [if_neg c1, if_pos c2]; exact Ev.now _
    · simp only [if_neg c1, if_neg c2]
      refine bd (specRec a0 a1 a2 (by omega) (by omega)) ?_
      refine bd (implRec a0 a1 a2 (by omega) (by omega)) ?_
      simp only [if_true]
      exact Ev.now _

end Go.Proofs.YtbpmfdpbgcpjeaaDoor.Pure
