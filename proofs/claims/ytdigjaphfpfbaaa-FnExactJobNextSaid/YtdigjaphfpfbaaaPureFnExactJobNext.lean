/-
For every list of jobs and tick, the program's JobNext and the reference's JobNext tell the same and leave the list as it was, so FnExactJobNext returns true.
Conditions: none beyond the form's own reach.
-/
import Derived.Test.YtdigjaphfpfbaaaPFnExactJobNextx0
import Derived.Test.YtdigjaphfpfbaaaPFnExactJobNextx1
import Derived.Test.YtdigjaphfpfbaaaPFnExactJobNextx2
import Derived.Test.YtdigjaphfpfbaaaPureC
namespace Go.Proofs.Ytdigjaphfpfbaaa.Pure
open Go.RowKit Go.Proofs.Ytdigjaphfpfbaaa.PFnExactJobNext Go.Proofs.Ytdigjaphfpfbaaa.C Go.Proofs.YtdigjaphfpfbaaaW.PrintWords Go.Proofs.YtdigjaphfpfbaaaW.PrintLast
set_option linter.unusedVariables false
set_option linter.unusedSimpArgs false

theorem l1In_f (a b c : Int) : spec_l1In.f a b c = some (decide (b ≤ a) && decide (a ≤ c)) := by
  unfold spec_l1In.f
  by_cases h : b ≤ a <;> simp [h]
theorem within_f (a b c : Int) : impl_within.f a b c = some (decide (b ≤ a) && decide (a ≤ c)) := by
  unfold impl_within.f
  by_cases h : b ≤ a <;> simp [h]

def jv (l : List S38) (j : Int) : Int := (rd_T38 l j).f1 - (rd_T38 l j).f2
def okJ (now : Int) (x : S38) : Prop := now ≤ 99999 ∧ 0 ≤ x.f1 ∧ x.f1 ≤ 99999 ∧ 0 ≤ x.f2 ∧ x.f2 ≤ now
/-- The first of the greatest ahead of i. -/
def Top (l : List S38) (now b i : Int) : Prop := 0 ≤ b ∧ b < i ∧ ∀ j, 0 ≤ j → j < i → okJ now (rd_T38 l j) ∧ jv l j ≤ jv l b ∧ (j < b → jv l j < jv l b)
def InvJ (l : List S38) (now b i : Int) : Prop := (b = -1 ∧ i = 0) ∨ Top l now b i
theorem InvJ.next {l : List S38} {now b i : Int} (h0 : 0 ≤ i) (h : InvJ l now b i) (ho : okJ now (rd_T38 l i)) (hb : b < 0) : InvJ l now i (i + 1) := by
  rcases h with ⟨rfl, rfl⟩ | h
  · refine .inr ⟨by omega, by omega, fun j h0 h1 => ?_⟩
    obtain rfl : j = 0 := by omega
    exact ⟨ho, Int.le_refl _, fun h => by omega⟩
  · have := h.1; omega
theorem InvJ.up {l : List S38} {now b i : Int} (h0 : 0 ≤ i) (h : Top l now b i) (ho : okJ now (rd_T38 l i)) (hv : jv l i > jv l b) : InvJ l now i (i + 1) := by
  refine .inr ⟨by omega, by omega, fun j h1 h2 => ?_⟩
  by_cases e : j = i
  · subst e; exact ⟨ho, Int.le_refl _, fun h => by omega⟩
  · obtain ⟨a, b1, c⟩ := h.2.2 j h1 (by omega)
    exact ⟨a, by omega, fun _ => by omega⟩
theorem InvJ.stay {l : List S38} {now b i : Int} (h0 : 0 ≤ i) (h : Top l now b i) (ho : okJ now (rd_T38 l i)) (hv : ¬ jv l i > jv l b) : InvJ l now b (i + 1) := by
  refine .inr ⟨h.1, by have := h.2.1; omega, fun j h1 h2 => ?_⟩
  by_cases e : j = i
  · subst e; exact ⟨ho, by omega, fun h' => by have := h.2.1; omega⟩
  · exact h.2.2 j h1 (by omega)
theorem jobs (l : List S38) (now : Int) (hl : l.length ≤ 9223372036854775807) : ∀ (d : Nat) (i b : Int), 0 ≤ i → i + d = l.length → InvJ l now b i →
    ∃ r, Ev (fun k => impl_JobNext.l0 k l now b l (l.length : Int) i) r ∧ Ev (fun k => spec_JobNext.l0 k l now b i) r ∧ (r = -1 ∨ Top l now r l.length) := by
  intro d
  induction d with
  | zero =>
    intro i b h0 hd hI
    have h1 : ¬ i < (l.length : Int) := by omega
    refine ⟨b, up ?_, up ?_, ?_⟩
    · simp only [impl_JobNext.l0, if_neg h1]; exact Ev.now _
    · simp only [spec_JobNext.l0, if_neg h1]; exact Ev.now _
    · rcases hI with ⟨h, _⟩ | h
      · exact .inl h
      · right; obtain rfl : i = (l.length : Int) := by omega
        exact h
  | succ d ih =>
    intro i b h0 hd hI
    have h1 : i < (l.length : Int) := by omega
    have hw : wrap64 (i + 1) = i + 1 := wz (by omega)
    by_cases ho : okJ now (rd_T38 l i)
    · have ⟨o1, o2, o3, o4, o5⟩ := ho
      have n1 : ¬ now > 99999 := by omega
      have key : ∀ c, InvJ l now c (i + 1) → ∃ r, Ev (fun k => impl_JobNext.l0 k l now c l (l.length : Int) (i + 1)) r ∧ Ev (fun k => spec_JobNext.l0 k l now c (i + 1)) r ∧ (r = -1 ∨ Top l now r l.length) := fun c hc => ih (i + 1) c (by omega) (by omega) hc
      by_cases hb : b < 0
      · obtain ⟨r, r1, r2, r3⟩ := key i (hI.next h0 ho hb)
        refine ⟨r, up ?_, up ?_, r3⟩
        · simp only [impl_JobNext.l0, if_pos h1, if_pos h0, if_neg n1, within_f, Option.bind_some, yesB o2, yesB o3, yesB o4, yesB o5, Bool.and_self, if_true, Bool.not_true]
          refine up ?_
          simp only [impl_JobNext.j1, Bool.false_eq_true, if_false, if_pos hb, hw]
          exact r1
        · simp only [spec_JobNext.l0, if_pos h1, if_pos h0, l1In_f, Option.bind_some, yesB o2, yesB o3, yesB o4, yesB o5, Bool.and_self, if_true]
          refine up ?_
          simp only [spec_JobNext.j1, notB n1, Bool.false_eq_true, if_false, if_pos hb, hw]
          exact r2
      · have hT : Top l now b i := by rcases hI with ⟨rfl, _⟩ | h; · omega
                                      · exact h
        have hb0 : 0 ≤ b := hT.1
        have hbl : b < (l.length : Int) := by have := hT.2.1; omega
        obtain ⟨⟨q1, q2, q3, q4, q5⟩, _, _⟩ := hT.2.2 b hb0 hT.2.1
        have w1 : wrap64 ((rd_T38 l i).f1 - (rd_T38 l i).f2) = jv l i := wz (by omega)
        have w2 : wrap64 ((rd_T38 l b).f1 - (rd_T38 l b).f2) = jv l b := wz (by omega)
        have w3 : wrap64 (wrap64 ((rd_T38 l i).f1 + now) - (rd_T38 l i).f2) = jv l i + now := by rw [wz (n := (rd_T38 l i).f1 + now) (by omega), wz (by omega)]; unfold jv; omega
        have w4 : wrap64 (wrap64 ((rd_T38 l b).f1 + now) - (rd_T38 l b).f2) = jv l b + now := by rw [wz (n := (rd_T38 l b).f1 + now) (by omega), wz (by omega)]; unfold jv; omega
        by_cases hv : jv l i > jv l b
        · have hv' : jv l i + now > jv l b + now := by omega
          obtain ⟨r, r1, r2, r3⟩ := key i (InvJ.up h0 hT ho hv)
          refine ⟨r, up ?_, up ?_, r3⟩
          · simp only [impl_JobNext.l0, if_pos h1, if_pos h0, if_neg n1, within_f, Option.bind_some, yesB o2, yesB o3, yesB o4, yesB o5, Bool.and_self, if_true, Bool.not_true]
            refine up ?_
            simp only [impl_JobNext.j1, Bool.false_eq_true, if_false, if_neg hb, if_pos hb0, if_pos hbl, w1, w2, if_pos hv, hw]
            exact r1
          · simp only [spec_JobNext.l0, if_pos h1, if_pos h0, l1In_f, Option.bind_some, yesB o2, yesB o3, yesB o4, yesB o5, Bool.and_self, if_true]
            refine up ?_
            simp only [spec_JobNext.j1, notB n1, Bool.false_eq_true, if_false, if_neg hb, if_pos hb0, if_pos hbl, w3, w4, if_pos hv', hw]
            exact r2
        · have hv' : ¬ jv l i + now > jv l b + now := by omega
          obtain ⟨r, r1, r2, r3⟩ := key b (InvJ.stay h0 hT ho hv)
          refine ⟨r, up ?_, up ?_, r3⟩
          · simp only [impl_JobNext.l0, if_pos h1, if_pos h0, if_neg n1, within_f, Option.bind_some, yesB o2, yesB o3, yesB o4, yesB o5, Bool.and_self, if_true, Bool.not_true]
            refine up ?_
            simp only [impl_JobNext.j1, Bool.false_eq_true, if_false, if_neg hb, if_pos hb0, if_pos hbl, w1, w2, if_neg hv, hw]
            exact r1
          · simp only [spec_JobNext.l0, if_pos h1, if_pos h0, l1In_f, Option.bind_some, yesB o2, yesB o3, yesB o4, yesB o5, Bool.and_self, if_true]
            refine up ?_
            simp only [spec_JobNext.j1, notB n1, Bool.false_eq_true, if_false, if_neg hb, if_pos hb0, if_pos hbl, w3, w4, if_neg hv', hw]
            exact r2
    · refine ⟨-1, up ?_, up ?_, .inl rfl⟩
      · by_cases n1 : now > 99999
        · simp only [impl_JobNext.l0, if_pos h1, if_pos h0, if_pos n1]
          refine up ?_
          simp only [impl_JobNext.j1, if_true]
          exact Ev.now _
        · simp only [impl_JobNext.l0, if_pos h1, if_pos h0, if_neg n1, within_f, Option.bind_some, andB]
          by_cases n2 : 0 ≤ (rd_T38 l i).f1 ∧ (rd_T38 l i).f1 ≤ 99999
          · have n3 : ¬ (0 ≤ (rd_T38 l i).f2 ∧ (rd_T38 l i).f2 ≤ now) := fun h => ho ⟨by omega, n2.1, n2.2, h.1, h.2⟩
            simp only [yesB n2, if_true, notB n3, Bool.not_false]
            refine up ?_
            simp only [impl_JobNext.j1, if_true]
            exact Ev.now _
          · simp only [notB n2, Bool.false_eq_true, if_false]
            refine up ?_
            simp only [impl_JobNext.j1, if_true]
            exact Ev.now _
      · simp only [spec_JobNext.l0, if_pos h1, if_pos h0, l1In_f, Option.bind_some, andB]
        by_cases n2 : 0 ≤ (rd_T38 l i).f1 ∧ (rd_T38 l i).f1 ≤ 99999
        · by_cases n3 : 0 ≤ (rd_T38 l i).f2 ∧ (rd_T38 l i).f2 ≤ now
          · have n1 : now > 99999 := by
              by_cases e : now > 99999
              · exact e
              · exact absurd ⟨by omega, n2.1, n2.2, n3.1, n3.2⟩ ho
            simp only [yesB n2, if_true, yesB n3, yesB n1]
            refine up ?_
            simp only [spec_JobNext.j1, if_true]
            exact Ev.now _
          · simp only [yesB n2, if_true, notB n3, Bool.false_eq_true, if_false]
            refine up ?_
            simp only [spec_JobNext.j1, if_true]
            exact Ev.now _
        · simp only [notB n2, Bool.false_eq_true, if_false]
          refine up ?_
          simp only [spec_JobNext.j1, if_true]
          exact Ev.now _
theorem jobNext (l : List S38) (now : Int) (hl : l.length ≤ 9223372036854775807) : ∃ r, Ev (fun k => impl_JobNext.f k l now) r ∧ Ev (fun k => spec_JobNext.f k l now) r ∧ (r = -1 ∨ Top l now r l.length) :=
  jobs l now hl l.length 0 (-1) (by omega) (by omega) (.inl ⟨rfl, rfl⟩)

def toJ (x : S69) : S38 := ⟨x.f0, x.f1, x.f2⟩
theorem toJobs (l : List S69) (hl : l.length ≤ 1048576) : Ev (fun k => laws_toJobS.f k l) (l.map toJ) := by
  have main : ∀ (d i : Nat), i + d = l.length → Ev (fun k => laws_toJobS.l0 k l ((l.take i).map toJ ++ List.replicate (l.length - i) z38) (i : Int)) (l.map toJ) := by
    intro d
    induction d with
    | zero =>
      intro i hi
      have h1 : ¬ (i : Int) < (l.length : Int) := by omega
      obtain rfl : i = l.length := by omega
      refine up ?_
      simp only [laws_toJobS.l0, if_neg h1, fill_end]
      exact Ev.now _
    | succ d ih =>
      intro i hi
      have h1 : (i : Int) < (l.length : Int) := by omega
      have h2 : 0 ≤ (i : Int) := by omega
      have h3 : (i : Int) < ((((l.take i).map toJ ++ List.replicate (l.length - i) z38).length : Nat) : Int) := by simp; omega
      have h4 : wrap64 ((i : Int) + 1) = ((i + 1 : Nat) : Int) := by rw [wz (by omega)]; omega
      refine up ?_
      simp only [laws_toJobS.l0, if_pos h1, if_pos h2, if_pos h3, laws_toJob.f, Option.bind_some, h4, Int.toNat_natCast]
      have this : ((l.take i).map toJ ++ List.replicate (l.length - i) z38).set i (⟨(l.getD i z69).f0, (l.getD i z69).f1, (l.getD i z69).f2⟩ : S38) = _ := fill_step toJ z38 z69 l i (by omega)
      simp only [rd_T69, Int.toNat_natCast, this]
      exact ih (i + 1) (by omega)
  unfold laws_toJobS.f
  have h1 : 0 ≤ (l.length : Int) := by omega
  have h2 : l.length ≤ 11728124029610 := by omega
  simp only [if_pos h1, Int.toNat_natCast, if_pos h2]
  have := main l.length 0 (by omega)
  simpa using this
theorem eqJobs (l : List S38) (hl : l.length ≤ 1048576) : Ev (fun k => laws_eqJobS.f k l l) true := by
  have main : ∀ (d i : Nat), i + d = l.length → Ev (fun k => laws_eqJobS.l0 k l l (i : Int)) true := by
    intro d
    induction d with
    | zero =>
      intro i hi
      have h1 : ¬ (i : Int) < (l.length : Int) := by omega
      refine up ?_
      simp only [laws_eqJobS.l0, if_neg h1]
      exact Ev.now _
    | succ d ih =>
      intro i hi
      have h1 : (i : Int) < (l.length : Int) := by omega
      have h2 : 0 ≤ (i : Int) := by omega
      have h4 : wrap64 ((i : Int) + 1) = ((i + 1 : Nat) : Int) := by rw [wz (by omega)]; omega
      refine up ?_
      simp only [laws_eqJobS.l0, if_pos h1, if_pos h2, laws_eqJob.f, if_true, Option.bind_some, h4]
      exact ih (i + 1) (by omega)
  unfold laws_eqJobS.f
  simp only [if_true]
  exact main l.length 0 (by omega)

theorem FnExactJobNext (l0 : List (S69)) (a1 : Int) (h0 : l0.length ≤ 9223372036854775807 ∧ ∀ x ∈ l0, ((Lit.int .i64 x.f0).wf = true) ∧ (((Lit.int .i64 x.f1).wf = true) ∧ (((Lit.int .i64 x.f2).wf = true)))) (h1 : (Lit.int .i64 a1).wf = true) :
    ∃ k, laws_FnExactJobNext.f k l0 a1 = some true := by
  refine ex ?_
  unfold laws_FnExactJobNext.f laws_szJobS.f
  have hl := h0.1
  have hw : wrap64 (1048576 - (l0.length : Int)) = 1048576 - (l0.length : Int) := wz (by omega)
  simp only [hw]
  by_cases hs : 1048576 - (l0.length : Int) < 0
  · simp only [if_pos hs, Option.bind_some, if_pos (show (-1 : Int) < 0 by omega)]
    exact Ev.now _
  · simp only [if_neg hs, Option.bind_some]
    obtain ⟨r, r1, r2, _⟩ := jobNext (l0.map toJ) a1 (by simp; omega)
    refine bd (toJobs l0 (by omega)) ?_
    refine bd r2 ?_
    refine bd (toJobs l0 (by omega)) ?_
    refine bd r1 ?_
    simp only [if_true]
    refine bd (toJobs l0 (by omega)) ?_
    refine bd (eqJobs _ (by simp; omega)) ?_
    simp only [if_true]
    exact Ev.now _

end Go.Proofs.Ytdigjaphfpfbaaa.Pure
