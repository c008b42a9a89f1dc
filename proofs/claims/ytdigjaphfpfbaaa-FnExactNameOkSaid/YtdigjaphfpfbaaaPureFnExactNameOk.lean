/-
For every string, the program's NameOk and the reference's NameOk tell the same, so FnExactNameOk returns true.
Conditions: none beyond the form's own reach.
-/
import Derived.Test.YtdigjaphfpfbaaaPFnExactNameOkx0
import Derived.Test.YtdigjaphfpfbaaaPFnExactNameOkx1
import Derived.Test.YtdigjaphfpfbaaaPureC
namespace Go.Proofs.Ytdigjaphfpfbaaa.Pure
open Go.RowKit Go.Proofs.Ytdigjaphfpfbaaa.PFnExactNameOk Go.Proofs.Ytdigjaphfpfbaaa.C Go.Proofs.YtdigjaphfpfbaaaW.PrintWords Go.Proofs.YtdigjaphfpfbaaaW.PrintLast

/-- A name: letters, one to six of them. -/
def nameF (s : ByteArray) : Nat → Bool
  | 0 => decide (1 ≤ s.size) && decide (s.size ≤ 6)
  | d + 1 => if bt s ((s.size : Int) - (d + 1)) < 97 then false else if bt s ((s.size : Int) - (d + 1)) > 122 then false else nameF s d
def nameB (s : ByteArray) : Bool := nameF s s.size

theorem l1In_f (a b c : Int) : spec_l1In.f a b c = some (decide (b ≤ a) && decide (a ≤ c)) := by
  unfold spec_l1In.f
  by_cases h : b ≤ a <;> simp [h]
theorem within_f (a b c : Int) : impl_within.f a b c = some (decide (b ≤ a) && decide (a ≤ c)) := by
  unfold impl_within.f
  by_cases h : b ≤ a <;> simp [h]

theorem specName_l0 (s : ByteArray) (hs : s.size ≤ 140737488351232) : ∀ (d : Nat), d ≤ s.size → Ev (fun k => spec_NameOk.l0 k s ((s.size : Int) - d)) (nameF s d) := by
  intro d
  induction d with
  | zero =>
    intro _
    refine up ?_
    have h : ¬ ((s.size : Int) - ((0 : Nat) : Int) < s.size) := by omega
    simp only [spec_NameOk.l0, if_neg h, l1In_f, Option.bind_some, nameF]
    rw [show decide (1 ≤ (s.size : Int)) = decide (1 ≤ s.size) from decide_eq_decide.2 (by omega), show decide ((s.size : Int) ≤ 6) = decide (s.size ≤ 6) from decide_eq_decide.2 (by omega)]
    exact Ev.now _
  | succ d ih =>
    intro hd
    refine up ?_
    have h1 : (s.size : Int) - ((d + 1 : Nat) : Int) < s.size := by omega
    have h2 : 0 ≤ (s.size : Int) - ((d + 1 : Nat) : Int) := by omega
    have h3 : wrap64 ((s.size : Int) - ((d + 1 : Nat) : Int) + 1) = (s.size : Int) - (d : Int) := by rw [wz (by omega)]; omega
    have e : ((d + 1 : Nat) : Int) = (d : Int) + 1 := by omega
    simp only [spec_NameOk.l0, if_pos h1, if_pos h2, h3, nameF]
    rw [e]
    by_cases h4 : bt s ((s.size : Int) - ((d : Int) + 1)) < 97
    · simp only [if_pos h4]; exact Ev.now _
    · simp only [if_neg h4]
      by_cases h5 : bt s ((s.size : Int) - ((d : Int) + 1)) > 122
      · simp only [if_pos h5]; exact Ev.now _
      · simp only [if_neg h5]; exact ih (by omega)
theorem specName (s : ByteArray) (hs : s.size ≤ 140737488351232) : Ev (fun k => spec_NameOk.f k s) (nameB s) := by
  have h := specName_l0 s hs s.size (Nat.le_refl _)
  have e : (s.size : Int) - (s.size : Int) = 0 := by omega
  rw [e] at h
  exact h

theorem implName_l0 (s : ByteArray) (hs : s.size ≤ 140737488351232) : ∀ (d : Nat), d ≤ s.size → Ev (fun k => impl_NameOk.l0 k s (s.size : Int) ((s.size : Int) - d)) (nameF s d) := by
  intro d
  induction d with
  | zero =>
    intro _
    refine up ?_
    have h : ¬ ((s.size : Int) - ((0 : Nat) : Int) < s.size) := by omega
    simp only [impl_NameOk.l0, if_neg h, within_f, Option.bind_some, nameF]
    rw [show decide (1 ≤ (s.size : Int)) = decide (1 ≤ s.size) from decide_eq_decide.2 (by omega), show decide ((s.size : Int) ≤ 6) = decide (s.size ≤ 6) from decide_eq_decide.2 (by omega)]
    exact Ev.now _
  | succ d ih =>
    intro hd
    refine up ?_
    have h1 : (s.size : Int) - ((d + 1 : Nat) : Int) < s.size := by omega
    have h2 : 0 ≤ (s.size : Int) - ((d + 1 : Nat) : Int) := by omega
    have h3 : wrap64 ((s.size : Int) - ((d + 1 : Nat) : Int) + 1) = (s.size : Int) - (d : Int) := by rw [wz (by omega)]; omega
    have e : ((d + 1 : Nat) : Int) = (d : Int) + 1 := by omega
    simp only [impl_NameOk.l0, if_pos h1, if_pos h2, h3, nameF]
    rw [e]
    by_cases h4 : bt s ((s.size : Int) - ((d : Int) + 1)) < 97
    · simp only [if_pos h4]; exact Ev.now _
    · simp only [if_neg h4]
      by_cases h5 : bt s ((s.size : Int) - ((d : Int) + 1)) > 122
      · simp only [if_pos h5]; exact Ev.now _
      · simp only [if_neg h5]; exact ih (by omega)
theorem implName (s : ByteArray) (hs : s.size ≤ 140737488351232) : Ev (fun k => impl_NameOk.f k s) (nameB s) := by
  have h := implName_l0 s hs s.size (Nat.le_refl _)
  have e : (s.size : Int) - (s.size : Int) = 0 := by omega
  rw [e] at h
  exact h

theorem FnExactNameOk : laws_FnExactNameOk.Pure := by
  intro s hs
  refine ex ?_
  unfold laws_FnExactNameOk.f
  by_cases h : (s.size : Int) > 1048576
  · simp only [if_pos h]; exact Ev.now _
  · simp only [if_neg h]
    refine bd (specName s hs) ?_
    refine bd (implName s hs) ?_
    simp only [bne_self_eq_false, Bool.false_eq_true, if_false]
    exact Ev.now _

end Go.Proofs.Ytdigjaphfpfbaaa.Pure
