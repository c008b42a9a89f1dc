/-
For every pool and edition, the program's PoolDrop and the reference's PoolDrop give the same (of a good pool: each frame of that edition that is not held is free), leave the pool as it was and give a pool of their own, so FnExactPoolDrop returns true.
Conditions: none beyond the form's own reach.
-/
import Derived.Test.YtlfnjkcgefcidaaPFnExactPoolDropx0
import Derived.Test.YtlfnjkcgefcidaaPFnExactPoolDropx1
import Derived.Test.YtlfnjkcgefcidaaPFnExactPoolDropx2
import Derived.Test.YtlfnjkcgefcidaaPFnExactPoolDropx3
import Derived.Test.YtlfnjkcgefcidaaPFnExactPoolDropx4
import Derived.Test.YtlfnjkcgefcidaaPFnExactPoolDropx5
import Derived.Test.YtlfnjkcgefcidaaPFnExactPoolDropx6
import Derived.Test.YtlfnjkcgefcidaaPFnExactPoolDropx7
import Derived.Test.YtlfnjkcgefcidaaPFnExactPoolDropx8
import Derived.Test.YtlfnjkcgefcidaaPFnExactPoolDropx9
import Derived.Test.YtlfnjkcgefcidaaPFnExactPoolDropx10
import Derived.Test.YtlfnjkcgefcidaaPFnExactPoolDropx11
import Derived.Test.YtlfnjkcgefcidaaPFnExactPoolDropx12
import Derived.Test.YtlfnjkcgefcidaaPFnExactPoolDropx13
import Derived.Test.YtlfnjkcgefcidaaPFnExactPoolDropx14
import Derived.Test.YtlfnjkcgefcidaaPFnExactPoolDropx15
import Derived.Test.YtlfnjkcgefcidaaPFnExactPoolDropx16
import Derived.Test.YtlfnjkcgefcidaaPFnExactPoolDropx17
import Derived.Test.YtlfnjkcgefcidaaPureC
namespace Go.Proofs.Ytlfnjkcgefcidaa.Pure
open Go.RowKit Go.Proofs.Ytlfnjkcgefcidaa.PFnExactPoolDrop Go.Proofs.Ytlfnjkcgefcidaa.C Go.Proofs.YtlfnjkcgefcidaaW.PrintWords Go.Proofs.YtlfnjkcgefcidaaW.PrintLast
set_option linter.unusedVariables false
set_option linter.unusedSimpArgs false

theorem l1In_f (a b c : Int) : spec_l1In.f a b c = some (decide (b ≤ a) && decide (a ≤ c)) := by
  unfold spec_l1In.f
  by_cases h : b ≤ a <;> simp [h]
theorem within_f (a b c : Int) : impl_within.f a b c = some (decide (b ≤ a) && decide (a ≤ c)) := by
  unfold impl_within.f
  by_cases h : b ≤ a <;> simp [h]

/-- Frame j has this edition and block. -/
def Mt (p : List S41) (e b j : Int) : Prop := (rd_T41 p j).f1 = e ∧ (rd_T41 p j).f2 = b
/-- The first frame of a block, -1 if there is none. -/
def FindP (p : List S41) (e b r : Int) : Prop :=
  (r = -1 ∧ ∀ j : Int, 0 ≤ j → j < p.length → ¬ Mt p e b j) ∨ (0 ≤ r ∧ r < p.length ∧ Mt p e b r ∧ ∀ j : Int, 0 ≤ j → j < r → ¬ Mt p e b j)
theorem FindP.uniq {p : List S41} {e b r s : Int} (h : FindP p e b r) (k : FindP p e b s) : r = s := by
  rcases h with ⟨rfl, h⟩ | ⟨h0, h1, h2, h3⟩ <;> rcases k with ⟨rfl, k⟩ | ⟨k0, k1, k2, k3⟩
  · rfl
  · exact absurd k2 (h _ k0 k1)
  · exact absurd h2 (k _ h0 h1)
  · rcases Int.lt_trichotomy r s with g | g | g
    · exact absurd h2 (k3 _ h0 g)
    · exact g
    · exact absurd k2 (h3 _ k0 g)
theorem find_ex (p : List S41) (e b : Int) (hl : p.length ≤ 10000000) : ∃ r, FindP p e b r := by
  have main : ∀ n : Nat, n ≤ p.length → (∀ j : Int, 0 ≤ j → j < n → ¬ Mt p e b j) ∨ ∃ r : Int, 0 ≤ r ∧ r < n ∧ Mt p e b r ∧ ∀ j : Int, 0 ≤ j → j < r → ¬ Mt p e b j := by
    intro n
    induction n with
    | zero => intro _; exact .inl fun j h0 h1 => by omega
    | succ n ih =>
      intro hn
      rcases ih (by omega) with h | ⟨r, h0, h1, h2⟩
      · by_cases hm : Mt p e b n
        · exact .inr ⟨n, by omega, by omega, hm, h⟩
        · refine .inl fun j h0 h1 => ?_
          by_cases ej : j = n
          · subst ej; exact hm
          · exact h j h0 (by omega)
      · exact .inr ⟨r, h0, by omega, h2⟩
  rcases main p.length (Nat.le_refl _) with h | ⟨r, h0, h1, h2, h3⟩
  · exact ⟨-1, .inl ⟨rfl, h⟩⟩
  · exact ⟨r, .inr ⟨h0, h1, h2, h3⟩⟩
theorem implFind (p : List S41) (h e b r : Int) (hl : p.length ≤ 1000000) (hr : FindP p e b r) : Ev (fun k => impl_Pool_find.f k p h e b) r := by
  have main : ∀ (d : Nat) (i : Int), 0 ≤ i → i + d = p.length → (∀ j : Int, 0 ≤ j → j < i → ¬ Mt p e b j) → Ev (fun k => impl_Pool_find.l0 k e b p (p.length : Int) i) r := by
    intro d
    induction d with
    | zero =>
      intro i h0 hd hn
      have h1 : ¬ i < (p.length : Int) := by omega
      refine up ?_
      simp only [impl_Pool_find.l0, if_neg h1]
      rw [hr.uniq (.inl ⟨rfl, fun j a b => hn j a (by omega)⟩)]
      exact Ev.now _
    | succ d ih =>
      intro i h0 hd hn
      have h1 : i < (p.length : Int) := by omega
      have hw : wrap64 (i + 1) = i + 1 := wz (by omega)
      have next : ¬ Mt p e b i → Ev (fun k => impl_Pool_find.l0 k e b p (p.length : Int) (i + 1)) r := fun hm => ih (i + 1) (by omega) (by omega) (fun j a b => by
        by_cases ej : j = i
        · subst ej; exact hm
        · exact hn j a (by omega))
      refine up ?_
      by_cases c1 : (rd_T41 p i).f1 = e
      · by_cases c2 : (rd_T41 p i).f2 = b
        · simp only [impl_Pool_find.l0, if_pos h1, if_pos h0, if_pos c1, if_pos c2]
          rw [hr.uniq (.inr ⟨h0, h1, ⟨c1, c2⟩, hn⟩)]
          exact Ev.now _
        · simp only [impl_Pool_find.l0, if_pos h1, if_pos h0, if_pos c1, if_neg c2, hw]
          exact next (fun hm => c2 hm.2)
      · simp only [impl_Pool_find.l0, if_pos h1, if_pos h0, if_neg c1, hw]
        exact next (fun hm => c1 hm.1)
  exact main p.length 0 (by omega) (by omega) (fun j a b => by omega)
/-- How many of the first n frames a house has. -/
def cntTo (p : List S41) (h : Int) : Nat → Nat
  | 0 => 0
  | n + 1 => cntTo p h n + if (rd_T41 p n).f1 > 0 ∧ (rd_T41 p n).f0 = h then 1 else 0
def cnt (p : List S41) (h : Int) : Nat := cntTo p h p.length
theorem cntTo_le (p : List S41) (h : Int) : ∀ n, cntTo p h n ≤ n
  | 0 => Nat.le_refl _
  | n + 1 => by
    have := cntTo_le p h n
    simp only [cntTo]
    split <;> omega
theorem implOf (p : List S41) (hd h : Int) (hl : p.length ≤ 1000000) : Ev (fun k => impl_Pool_of.f k p hd h) (cnt p h : Int) := by
  have main : ∀ (d n : Nat), n + d = p.length → Ev (fun k => impl_Pool_of.l0 k h (cntTo p h n : Int) p (p.length : Int) (n : Int)) (cnt p h : Int) := by
    intro d
    induction d with
    | zero =>
      intro n hn
      have h1 : ¬ (n : Int) < (p.length : Int) := by omega
      obtain rfl : n = p.length := by omega
      refine up ?_
      simp only [impl_Pool_of.l0, if_neg h1]
      exact Ev.now _
    | succ d ih =>
      intro n hn
      have h0 : 0 ≤ (n : Int) := by omega
      have h1 : (n : Int) < (p.length : Int) := by omega
      have hc := cntTo_le p h n
      have hw : wrap64 ((n : Int) + 1) = ((n + 1 : Nat) : Int) := by rw [wz (by omega)]; omega
      have hw2 : wrap64 ((cntTo p h n : Int) + 1) = ((cntTo p h n + 1 : Nat) : Int) := by rw [wz (by omega)]; omega
      have := ih (n + 1) (by omega)
      refine up ?_
      by_cases c1 : (rd_T41 p n).f1 > 0
      · by_cases c2 : (rd_T41 p n).f0 = h
        · simp only [impl_Pool_of.l0, if_pos h1, if_pos h0, if_pos c1, if_pos c2, hw, hw2]
          simp only [cntTo, if_pos (And.intro c1 c2)] at this
          exact this
        · simp only [impl_Pool_of.l0, if_pos h1, if_pos h0, if_pos c1, if_neg c2, hw]
          simp only [cntTo, if_neg (fun x : (rd_T41 p n).f1 > 0 ∧ (rd_T41 p n).f0 = h => c2 x.2), Nat.add_zero] at this
          exact this
      · simp only [impl_Pool_of.l0, if_pos h1, if_pos h0, if_neg c1, hw]
        simp only [cntTo, if_neg (fun x : (rd_T41 p n).f1 > 0 ∧ (rd_T41 p n).f0 = h => c1 x.1), Nat.add_zero] at this
        exact this
  exact main p.length 0 (by omega)
theorem specOf (p : List S41) (hd h : Int) (hl : p.length ≤ 1000000) : Ev (fun k => spec_l10Of.f k p hd h) (cnt p h : Int) := by
  have main : ∀ (d n : Nat), n + d = p.length → Ev (fun k => spec_l10Of.l0 k h (cntTo p h n : Int) (n : Int) p hd) (cnt p h : Int) := by
    intro d
    induction d with
    | zero =>
      intro n hn
      have h1 : ¬ (n : Int) < (p.length : Int) := by omega
      obtain rfl : n = p.length := by omega
      refine up ?_
      simp only [spec_l10Of.l0, if_neg h1]
      exact Ev.now _
    | succ d ih =>
      intro n hn
      have h0 : 0 ≤ (n : Int) := by omega
      have h1 : (n : Int) < (p.length : Int) := by omega
      have hc := cntTo_le p h n
      have hw : wrap64 ((n : Int) + 1) = ((n + 1 : Nat) : Int) := by rw [wz (by omega)]; omega
      have hw2 : wrap64 ((cntTo p h n : Int) + 1) = ((cntTo p h n + 1 : Nat) : Int) := by rw [wz (by omega)]; omega
      have := ih (n + 1) (by omega)
      refine up ?_
      by_cases c1 : (rd_T41 p n).f1 > 0
      · by_cases c2 : (rd_T41 p n).f0 = h
        · simp only [spec_l10Of.l0, if_pos h1, if_pos h0, if_pos c1, if_pos c2, hw, hw2]
          simp only [cntTo, if_pos (And.intro c1 c2)] at this
          exact this
        · simp only [spec_l10Of.l0, if_pos h1, if_pos h0, if_pos c1, if_neg c2, hw]
          simp only [cntTo, if_neg (fun x : (rd_T41 p n).f1 > 0 ∧ (rd_T41 p n).f0 = h => c2 x.2), Nat.add_zero] at this
          exact this
      · simp only [spec_l10Of.l0, if_pos h1, if_pos h0, if_neg c1, hw]
        simp only [cntTo, if_neg (fun x : (rd_T41 p n).f1 > 0 ∧ (rd_T41 p n).f0 = h => c1 x.1), Nat.add_zero] at this
        exact this
  exact main p.length 0 (by omega)
/-- A frame is free, with all else nought, or within limits. -/
def FrOk (x : S41) : Prop := (x.f1 = 0 ∧ x.f0 = 0 ∧ x.f2 = 0 ∧ x.f3 = 0 ∧ x.f4 = false) ∨ (0 ≤ x.f0 ∧ x.f0 ≤ 1 ∧ 1 ≤ x.f1 ∧ x.f1 ≤ 99999 ∧ 0 ≤ x.f2 ∧ x.f2 ≤ 23 ∧ 0 ≤ x.f3 ∧ x.f3 ≤ 99999)
structure PoolP (p : List S41) (hd : Int) : Prop where
  len : p.length = 8
  hand : 0 ≤ hd ∧ hd ≤ 7
  fr : ∀ j : Int, 0 ≤ j → j < 8 → FrOk (rd_T41 p j)
  once : ∀ i j : Int, 0 ≤ i → i < j → j < 8 → (rd_T41 p j).f1 ≠ 0 → ¬ Mt p (rd_T41 p j).f1 (rd_T41 p j).f2 i
  c0 : cnt p 0 ≤ 5
  c1 : cnt p 1 ≤ 5
noncomputable def poolB (p : List S41) (hd : Int) : Bool := @decide (PoolP p hd) (Classical.propDecidable _)
theorem poolB_yes {p : List S41} {hd : Int} (h : PoolP p hd) : poolB p hd = true := by unfold poolB; exact @decide_eq_true _ (Classical.propDecidable _) h
theorem poolB_no {p : List S41} {hd : Int} (h : ¬ PoolP p hd) : poolB p hd = false := by unfold poolB; exact @decide_eq_false _ (Classical.propDecidable _) h
theorem poolB_iff {p : List S41} {hd : Int} : poolB p hd = true ↔ PoolP p hd :=
  ⟨(fun h => Classical.byContradiction fun n => by rw [poolB_no n] at h; cases h), poolB_yes⟩

theorem house_f (a : Int) : impl_house.f a = some (decide (0 ≤ a) && decide (a ≤ 1)) := by
  unfold impl_house.f
  rw [within_f]
  rfl
theorem zeroTest (x : S41) : (!(x.f0 == 0) || (!(x.f1 == 0) || (!(x.f2 == 0) || (!(x.f3 == 0) || x.f4)))) = true ↔ ¬ (x.f1 = 0 ∧ x.f0 = 0 ∧ x.f2 = 0 ∧ x.f3 = 0 ∧ x.f4 = false) := by
  cases x.f4 <;> simp <;> omega
theorem implOk_of (p : List S41) (hd : Int) (hlen : p.length = 8) (n : Nat) (hn : n ≤ 2) (hc : ∀ h : Int, 0 ≤ h → h < n → cnt p h ≤ 5) :
    ∃ b, Ev (fun k => impl_PoolOk.l1 k (n : Int) p hd) b ∧ (b = true ↔ cnt p 0 ≤ 5 ∧ cnt p 1 ≤ 5) := by
  have step : ∀ m : Nat, m < 2 → (cnt p m ≤ 5 → ∃ b, Ev (fun k => impl_PoolOk.l1 k ((m + 1 : Nat) : Int) p hd) b ∧ (b = true ↔ cnt p 0 ≤ 5 ∧ cnt p 1 ≤ 5)) → ∃ b, Ev (fun k => impl_PoolOk.l1 k (m : Int) p hd) b ∧ (b = true ↔ cnt p 0 ≤ 5 ∧ cnt p 1 ≤ 5) := by
    intro m hm next
    have h1 : (m : Int) < 2 := by omega
    have hw : wrap64 ((m : Int) + 1) = ((m + 1 : Nat) : Int) := by rw [wz (by omega)]; omega
    by_cases c : cnt p m ≤ 5
    · obtain ⟨b, e, hb⟩ := next c
      have g : ¬ (cnt p m : Int) > 5 := by omega
      refine ⟨b, up ?_, hb⟩
      simp only [impl_PoolOk.l1, if_pos h1]
      refine bd (implOf p hd m (by omega)) ?_
      simp only [if_neg g, hw]
      exact e
    · have g : (cnt p m : Int) > 5 := by omega
      refine ⟨false, up ?_, ?_⟩
      · simp only [impl_PoolOk.l1, if_pos h1]
        refine bd (implOf p hd m (by omega)) ?_
        simp only [if_pos g]
        exact Ev.now _
      · rcases (show m = 0 ∨ m = 1 by omega) with rfl | rfl
        · exact ⟨(fun h => by cases h), fun h => absurd h.1 c⟩
        · exact ⟨(fun h => by cases h), fun h => absurd h.2 c⟩
  have two : ∀ (_ : cnt p 0 ≤ 5) (_ : cnt p 1 ≤ 5), ∃ b, Ev (fun k => impl_PoolOk.l1 k ((2 : Nat) : Int) p hd) b ∧ (b = true ↔ cnt p 0 ≤ 5 ∧ cnt p 1 ≤ 5) := by
    intro a b
    have h1 : ¬ ((2 : Nat) : Int) < 2 := by omega
    refine ⟨true, up ?_, ⟨fun _ => ⟨a, b⟩, fun _ => rfl⟩⟩
    simp only [impl_PoolOk.l1, if_neg h1]
    exact Ev.now _
  rcases (show n = 0 ∨ n = 1 ∨ n = 2 by omega) with rfl | rfl | rfl
  · exact step 0 (by omega) fun a => step 1 (by omega) fun b => two a b
  · exact step 1 (by omega) fun b => two (hc 0 (by omega) (by omega)) b
  · exact two (hc 0 (by omega) (by omega)) (hc 1 (by omega) (by omega))
/-- What the first loop asks of the frames ahead of n. -/
def Ahead (p : List S41) (n : Int) : Prop := ∀ j : Int, 0 ≤ j → j < n → FrOk (rd_T41 p j) ∧ ((rd_T41 p j).f1 ≠ 0 → ∀ i : Int, 0 ≤ i → i < j → ¬ Mt p (rd_T41 p j).f1 (rd_T41 p j).f2 i)
theorem implOk_l0 (p : List S41) (hd : Int) (hlen : p.length = 8) : ∀ (d : Nat) (n : Int), 0 ≤ n → n + d = 8 → Ahead p n →
    ∃ b, Ev (fun k => impl_PoolOk.l0 k p (p.length : Int) n p hd) b ∧ (b = true ↔ Ahead p 8 ∧ cnt p 0 ≤ 5 ∧ cnt p 1 ≤ 5) := by
  intro d
  induction d with
  | zero =>
    intro n h0 hd' hA
    have h1 : ¬ n < (p.length : Int) := by omega
    obtain ⟨b, e, hb⟩ := implOk_of p hd hlen 0 (by omega) (fun h a b => by omega)
    refine ⟨b, up ?_, ?_⟩
    · simp only [impl_PoolOk.l0, if_neg h1]
      exact e
    · obtain rfl : n = 8 := by omega
      rw [hb]
      exact ⟨fun h => ⟨hA, h⟩, fun h => h.2⟩
  | succ d ih =>
    intro n h0 hd' hA
    have h1 : n < (p.length : Int) := by omega
    have hw : wrap64 (n + 1) = n + 1 := wz (by omega)
    have bad : ¬ (FrOk (rd_T41 p n) ∧ ((rd_T41 p n).f1 ≠ 0 → ∀ i : Int, 0 ≤ i → i < n → ¬ Mt p (rd_T41 p n).f1 (rd_T41 p n).f2 i)) → (false = true ↔ Ahead p 8 ∧ cnt p 0 ≤ 5 ∧ cnt p 1 ≤ 5) :=
      fun hn => ⟨(fun h => by cases h), fun h => absurd (h.1 n h0 (by omega)) hn⟩
    have good : (FrOk (rd_T41 p n) ∧ ((rd_T41 p n).f1 ≠ 0 → ∀ i : Int, 0 ≤ i → i < n → ¬ Mt p (rd_T41 p n).f1 (rd_T41 p n).f2 i)) → ∃ b, Ev (fun k => impl_PoolOk.l0 k p (p.length : Int) (n + 1) p hd) b ∧ (b = true ↔ Ahead p 8 ∧ cnt p 0 ≤ 5 ∧ cnt p 1 ≤ 5) :=
      fun hg => ih (n + 1) (by omega) (by omega) (fun j a b => by
        by_cases ej : j = n
        · subst ej; exact hg
        · exact hA j a (by omega))
    by_cases c0 : (rd_T41 p n).f1 = 0
    · by_cases c1 : (!((rd_T41 p n).f0 == 0) || (!((rd_T41 p n).f1 == 0) || (!((rd_T41 p n).f2 == 0) || (!((rd_T41 p n).f3 == 0) || (rd_T41 p n).f4)))) = true
      · refine ⟨false, up ?_, bad fun h => ?_⟩
        · simp only [impl_PoolOk.l0, if_pos h1, if_pos h0, if_pos c0, if_pos c1]
          exact Ev.now _
        · rcases h.1 with g | g
          · exact (zeroTest _).1 c1 g
          · omega
      · have z := Classical.not_not.1 (mt (zeroTest _).2 c1)
        obtain ⟨b, e, hb⟩ := good ⟨.inl z, fun h => absurd c0 h⟩
        refine ⟨b, up ?_, hb⟩
        simp only [impl_PoolOk.l0, if_pos h1, if_pos h0, if_pos c0, if_neg c1, hw]
        exact e
    · have nb : ∀ P : Prop, (FrOk (rd_T41 p n) → P) → ¬ P → ¬ (FrOk (rd_T41 p n) ∧ ((rd_T41 p n).f1 ≠ 0 → ∀ i : Int, 0 ≤ i → i < n → ¬ Mt p (rd_T41 p n).f1 (rd_T41 p n).f2 i)) := fun P hP hn h => hn (hP h.1)
      by_cases d0 : 0 ≤ (rd_T41 p n).f0 ∧ (rd_T41 p n).f0 ≤ 1
      · by_cases d1 : 1 ≤ (rd_T41 p n).f1 ∧ (rd_T41 p n).f1 ≤ 99999
        · by_cases d2 : 0 ≤ (rd_T41 p n).f2 ∧ (rd_T41 p n).f2 ≤ 23
          · by_cases d3 : 0 ≤ (rd_T41 p n).f3 ∧ (rd_T41 p n).f3 ≤ 99999
            · have fr : FrOk (rd_T41 p n) := .inr ⟨d0.1, d0.2, d1.1, d1.2, d2.1, d2.2, d3.1, d3.2⟩
              obtain ⟨r, hr⟩ := find_ex p (rd_T41 p n).f1 (rd_T41 p n).f2 (by omega)
              have hf := implFind p hd _ _ r (by omega) hr
              by_cases er : r = n
              · have hfirst : ∀ i : Int, 0 ≤ i → i < n → ¬ Mt p (rd_T41 p n).f1 (rd_T41 p n).f2 i := by
                  rcases hr with ⟨g, _⟩ | ⟨_, _, _, g⟩
                  · omega
                  · rw [er] at g; exact g
                obtain ⟨b, e, hb⟩ := good ⟨fr, fun _ => hfirst⟩
                refine ⟨b, up ?_, hb⟩
                simp only [impl_PoolOk.l0, if_pos h1, if_pos h0, if_neg c0, house_f, within_f, Option.bind_some, andB, yesB d0, yesB d1, yesB d2, yesB d3, if_true]
                refine bd hf ?_
                simp only [if_pos er, hw]
                exact e
              · refine ⟨false, up ?_, bad fun h => ?_⟩
                · simp only [impl_PoolOk.l0, if_pos h1, if_pos h0, if_neg c0, house_f, within_f, Option.bind_some, andB, yesB d0, yesB d1, yesB d2, yesB d3, if_true]
                  refine bd hf ?_
                  simp only [if_neg er]
                  exact Ev.now _
                · exact er (hr.uniq (.inr ⟨h0, h1, ⟨rfl, rfl⟩, h.2 c0⟩))
            · refine ⟨false, up ?_, bad (nb (0 ≤ (rd_T41 p n).f3 ∧ (rd_T41 p n).f3 ≤ 99999) (fun h => by rcases h with h | h <;> omega) d3)⟩
              simp only [impl_PoolOk.l0, if_pos h1, if_pos h0, if_neg c0, house_f, within_f, Option.bind_some, andB, yesB d0, yesB d1, yesB d2, notB d3, if_true, Bool.false_eq_true, if_false]
              exact Ev.now _
          · refine ⟨false, up ?_, bad (nb (0 ≤ (rd_T41 p n).f2 ∧ (rd_T41 p n).f2 ≤ 23) (fun h => by rcases h with h | h <;> omega) d2)⟩
            simp only [impl_PoolOk.l0, if_pos h1, if_pos h0, if_neg c0, house_f, within_f, Option.bind_some, andB, yesB d0, yesB d1, notB d2, if_true, Bool.false_eq_true, if_false]
            exact Ev.now _
        · refine ⟨false, up ?_, bad (nb (1 ≤ (rd_T41 p n).f1 ∧ (rd_T41 p n).f1 ≤ 99999) (fun h => by rcases h with h | h <;> omega) d1)⟩
          simp only [impl_PoolOk.l0, if_pos h1, if_pos h0, if_neg c0, house_f, within_f, Option.bind_some, andB, yesB d0, notB d1, if_true, Bool.false_eq_true, if_false]
          exact Ev.now _
      · refine ⟨false, up ?_, bad (nb (0 ≤ (rd_T41 p n).f0 ∧ (rd_T41 p n).f0 ≤ 1) (fun h => by rcases h with h | h <;> omega) d0)⟩
        simp only [impl_PoolOk.l0, if_pos h1, if_pos h0, if_neg c0, house_f, Option.bind_some, andB, notB d0, Bool.false_eq_true, if_false]
        exact Ev.now _
theorem poolP_iff (p : List S41) (hd : Int) (hlen : p.length = 8) (hh : 0 ≤ hd ∧ hd ≤ 7) : PoolP p hd ↔ Ahead p 8 ∧ cnt p 0 ≤ 5 ∧ cnt p 1 ≤ 5 :=
  ⟨fun h => ⟨fun j a b => ⟨h.fr j a b, fun hn i c d => h.once i j c d b hn⟩, h.c0, h.c1⟩,
   fun h => ⟨hlen, hh, fun j a b => (h.1 j a b).1, fun i j a b c hn => (h.1 j (by omega) c).2 hn i a b, h.2.1, h.2.2⟩⟩
theorem boolEq {b c : Bool} (h : b = true ↔ c = true) : b = c := by cases b <;> cases c <;> simp_all
theorem implOk (p : List S41) (hd : Int) : Ev (fun k => impl_PoolOk.f k p hd) (poolB p hd) := by
  unfold impl_PoolOk.f
  by_cases h1 : (p.length : Int) = 8
  · have hlen : p.length = 8 := by omega
    simp only [if_pos h1, within_f, Option.bind_some, andB]
    refine up ?_
    by_cases h2 : 0 ≤ hd ∧ hd ≤ 7
    · obtain ⟨b, e, hb⟩ := implOk_l0 p hd hlen 8 0 (by omega) (by omega) (fun j a b => by omega)
      rw [← poolP_iff p hd hlen h2, ← poolB_iff] at hb
      rw [← boolEq hb]
      simp only [yesB h2, Bool.not_true, impl_PoolOk.j0, Bool.false_eq_true, if_false]
      exact e
    · rw [poolB_no fun h => h2 h.hand]
      simp only [notB h2, Bool.not_false, impl_PoolOk.j0, if_true]
      exact Ev.now _
  · simp only [if_neg h1]
    refine up ?_
    rw [poolB_no fun h => h1 (by have := h.len; omega)]
    simp only [impl_PoolOk.j0, if_true]
    exact Ev.now _

theorem specFrOk (x : S41) : ∃ b, spec_l10Ok.f x.f0 x.f1 x.f2 x.f3 x.f4 = some b ∧ (b = true ↔ FrOk x) := by
  unfold spec_l10Ok.f
  simp only [l1In_f, Option.bind_some, andB]
  by_cases c0 : x.f1 = 0
  · simp only [if_pos c0]
    refine ⟨_, rfl, ?_⟩
    constructor
    · intro h
      left
      cases h4 : x.f4 <;> simp_all
    · rintro (h | h)
      · simp [h]
      · omega
  · simp only [if_neg c0]
    have ne : FrOk x ↔ ((0 ≤ x.f0 ∧ x.f0 ≤ 1) ∧ (1 ≤ x.f1 ∧ x.f1 ≤ 99999) ∧ (0 ≤ x.f2 ∧ x.f2 ≤ 23) ∧ (0 ≤ x.f3 ∧ x.f3 ≤ 99999)) := by
      constructor
      · rintro (h | h)
        · exact absurd h.1 c0
        · omega
      · intro h
        right
        omega
    by_cases d0 : 0 ≤ x.f0 ∧ x.f0 ≤ 1
    · by_cases d1 : 1 ≤ x.f1 ∧ x.f1 ≤ 99999
      · by_cases d2 : 0 ≤ x.f2 ∧ x.f2 ≤ 23
        · by_cases d3 : 0 ≤ x.f3 ∧ x.f3 ≤ 99999
          · simp only [yesB d0, yesB d1, yesB d2, yesB d3, if_true]
            exact ⟨true, rfl, fun _ => ne.2 ⟨d0, d1, d2, d3⟩, fun _ => rfl⟩
          · simp only [yesB d0, yesB d1, yesB d2, notB d3, if_true]
            exact ⟨false, rfl, (fun h => by cases h), fun h => absurd (ne.1 h).2.2.2 d3⟩
        · simp only [yesB d0, yesB d1, notB d2, if_true, Bool.false_eq_true, if_false]
          exact ⟨false, rfl, (fun h => by cases h), fun h => absurd (ne.1 h).2.2.1 d2⟩
      · simp only [yesB d0, notB d1, if_true, Bool.false_eq_true, if_false]
        exact ⟨false, rfl, (fun h => by cases h), fun h => absurd (ne.1 h).2.1 d1⟩
    · simp only [notB d0, Bool.false_eq_true, if_false]
      exact ⟨false, rfl, (fun h => by cases h), fun h => absurd (ne.1 h).1 d0⟩
theorem specOk_of (p : List S41) (hd : Int) (hlen : p.length = 8) : ∃ b, Ev (fun k => spec_PoolOk.l2 k 0 p hd) b ∧ (b = true ↔ cnt p 0 ≤ 5 ∧ cnt p 1 ≤ 5) := by
  have h00 : (0 : Int) < 2 := by omega
  have h01 : (1 : Int) < 2 := by omega
  have h02 : ¬ (2 : Int) < 2 := by omega
  have w0 : wrap64 (0 + 1) = 1 := by rw [wz (by omega)]; omega
  have w1 : wrap64 (1 + 1) = 2 := by rw [wz (by omega)]; omega
  by_cases a : cnt p 0 ≤ 5
  · have ga : ¬ (cnt p 0 : Int) > 5 := by omega
    by_cases b : cnt p 1 ≤ 5
    · have gb : ¬ (cnt p 1 : Int) > 5 := by omega
      refine ⟨true, up ?_, fun _ => ⟨a, b⟩, fun _ => rfl⟩
      simp only [spec_PoolOk.l2, if_pos h00]
      refine bd (specOf p hd 0 (by omega)) ?_
      simp only [if_neg ga, w0]
      refine up ?_
      simp only [spec_PoolOk.l2, if_pos h01]
      refine bd (specOf p hd 1 (by omega)) ?_
      simp only [if_neg gb, w1]
      refine up ?_
      simp only [spec_PoolOk.l2, if_neg h02]
      exact Ev.now _
    · have gb : (cnt p 1 : Int) > 5 := by omega
      refine ⟨false, up ?_, (fun h => by cases h), fun h => absurd h.2 b⟩
      simp only [spec_PoolOk.l2, if_pos h00]
      refine bd (specOf p hd 0 (by omega)) ?_
      simp only [if_neg ga, w0]
      refine up ?_
      simp only [spec_PoolOk.l2, if_pos h01]
      refine bd (specOf p hd 1 (by omega)) ?_
      simp only [if_pos gb]
      exact Ev.now _
  · have ga : (cnt p 0 : Int) > 5 := by omega
    refine ⟨false, up ?_, (fun h => by cases h), fun h => absurd h.1 a⟩
    simp only [spec_PoolOk.l2, if_pos h00]
    refine bd (specOf p hd 0 (by omega)) ?_
    simp only [if_pos ga]
    exact Ev.now _
theorem specOk_l0 (p : List S41) (hd : Int) (hlen : p.length = 8) : ∀ (d : Nat) (n : Int), 0 ≤ n → n + d = 8 → Ahead p n →
    ∃ b, Ev (fun k => spec_PoolOk.l0 k n p hd) b ∧ (b = true ↔ Ahead p 8 ∧ cnt p 0 ≤ 5 ∧ cnt p 1 ≤ 5) := by
  intro d
  induction d with
  | zero =>
    intro n h0 hd' hA
    have h1 : ¬ n < (p.length : Int) := by omega
    obtain ⟨b, e, hb⟩ := specOk_of p hd hlen
    refine ⟨b, up ?_, ?_⟩
    · simp only [spec_PoolOk.l0, if_neg h1]
      exact e
    · obtain rfl : n = 8 := by omega
      rw [hb]
      exact ⟨fun h => ⟨hA, h⟩, fun h => h.2⟩
  | succ d ih =>
    intro n h0 hd' hA
    have h1 : n < (p.length : Int) := by omega
    have hw : wrap64 (n + 1) = n + 1 := wz (by omega)
    have bad : ¬ (FrOk (rd_T41 p n) ∧ ((rd_T41 p n).f1 ≠ 0 → ∀ i : Int, 0 ≤ i → i < n → ¬ Mt p (rd_T41 p n).f1 (rd_T41 p n).f2 i)) → (false = true ↔ Ahead p 8 ∧ cnt p 0 ≤ 5 ∧ cnt p 1 ≤ 5) :=
      fun hn => ⟨(fun h => by cases h), fun h => absurd (h.1 n h0 (by omega)) hn⟩
    have good : (FrOk (rd_T41 p n) ∧ ((rd_T41 p n).f1 ≠ 0 → ∀ i : Int, 0 ≤ i → i < n → ¬ Mt p (rd_T41 p n).f1 (rd_T41 p n).f2 i)) → ∃ b, Ev (fun k => spec_PoolOk.l0 k (n + 1) p hd) b ∧ (b = true ↔ Ahead p 8 ∧ cnt p 0 ≤ 5 ∧ cnt p 1 ≤ 5) :=
      fun hg => ih (n + 1) (by omega) (by omega) (fun j a b => by
        by_cases ej : j = n
        · subst ej; exact hg
        · exact hA j a (by omega))
    obtain ⟨t, ht, htb⟩ := specFrOk (rd_T41 p n)
    cases t with
    | false =>
      refine ⟨false, up ?_, bad fun h => by have := htb.2 h.1; cases this⟩
      simp only [spec_PoolOk.l0, if_pos h1, if_pos h0, ht, Option.bind_some, Bool.false_eq_true, if_false]
      exact Ev.now _
    | true =>
      have fr := htb.1 rfl
      have inner : ∀ (e : Nat) (m : Int), 0 ≤ m → m + e = n → ((rd_T41 p n).f1 ≠ 0 → ∀ i : Int, 0 ≤ i → i < m → ¬ Mt p (rd_T41 p n).f1 (rd_T41 p n).f2 i) →
          ∃ b, Ev (fun k => spec_PoolOk.l1 k n m p hd) b ∧ (b = true ↔ Ahead p 8 ∧ cnt p 0 ≤ 5 ∧ cnt p 1 ≤ 5) := by
        intro e
        induction e with
        | zero =>
          intro m m0 me hm
          have g1 : ¬ m < n := by omega
          obtain rfl : m = n := by omega
          obtain ⟨b, eb, hb⟩ := good ⟨fr, hm⟩
          refine ⟨b, up ?_, hb⟩
          simp only [spec_PoolOk.l1, if_neg g1, hw]
          exact eb
        | succ e ihe =>
          intro m m0 me hm
          have g1 : m < n := by omega
          have g2 : m < (p.length : Int) := by omega
          have hwm : wrap64 (m + 1) = m + 1 := wz (by omega)
          have next : ((rd_T41 p n).f1 ≠ 0 → ¬ Mt p (rd_T41 p n).f1 (rd_T41 p n).f2 m) → ∃ b, Ev (fun k => spec_PoolOk.l1 k n (m + 1) p hd) b ∧ (b = true ↔ Ahead p 8 ∧ cnt p 0 ≤ 5 ∧ cnt p 1 ≤ 5) :=
            fun hx => ihe (m + 1) (by omega) (by omega) (fun hn i a b => by
              by_cases ei : i = m
              · subst ei; exact hx hn
              · exact hm hn i a (by omega))
          by_cases k1 : (rd_T41 p n).f1 > 0
          · by_cases k2 : (rd_T41 p n).f1 = (rd_T41 p m).f1
            · by_cases k3 : (rd_T41 p n).f2 = (rd_T41 p m).f2
              · refine ⟨false, up ?_, bad fun h => h.2 (by omega) m m0 g1 ⟨k2.symm, k3.symm⟩⟩
                simp only [spec_PoolOk.l1, if_pos g1, if_pos h0, if_pos h1, if_pos k1, if_pos m0, if_pos g2, if_pos k2, if_pos k3]
                exact Ev.now _
              · obtain ⟨b, eb, hb⟩ := next (fun _ h => k3 h.2.symm)
                refine ⟨b, up ?_, hb⟩
                simp only [spec_PoolOk.l1, if_pos g1, if_pos h0, if_pos h1, if_pos k1, if_pos m0, if_pos g2, if_pos k2, if_neg k3, hwm]
                exact eb
            · obtain ⟨b, eb, hb⟩ := next (fun _ h => k2 h.1.symm)
              refine ⟨b, up ?_, hb⟩
              simp only [spec_PoolOk.l1, if_pos g1, if_pos h0, if_pos h1, if_pos k1, if_pos m0, if_pos g2, if_neg k2, hwm]
              exact eb
          · obtain ⟨b, eb, hb⟩ := next (fun hn _ => by rcases fr with h | h <;> omega)
            refine ⟨b, up ?_, hb⟩
            simp only [spec_PoolOk.l1, if_pos g1, if_pos h0, if_pos h1, if_neg k1, hwm]
            exact eb
      obtain ⟨b, eb, hb⟩ := inner n.toNat 0 (by omega) (by omega) (fun _ i a b => by omega)
      refine ⟨b, up ?_, hb⟩
      simp only [spec_PoolOk.l0, if_pos h1, if_pos h0, ht, Option.bind_some, if_true]
      exact eb
theorem specOk (p : List S41) (hd : Int) : Ev (fun k => spec_PoolOk.f k p hd) (poolB p hd) := by
  unfold spec_PoolOk.f
  by_cases h1 : (p.length : Int) = 8
  · have hlen : p.length = 8 := by omega
    simp only [if_pos h1, l1In_f, Option.bind_some, andB]
    refine up ?_
    by_cases h2 : 0 ≤ hd ∧ hd ≤ 7
    · obtain ⟨b, e, hb⟩ := specOk_l0 p hd hlen 8 0 (by omega) (by omega) (fun j a b => by omega)
      rw [← poolP_iff p hd hlen h2, ← poolB_iff] at hb
      rw [← boolEq hb]
      simp only [yesB h2, Bool.not_true, spec_PoolOk.j0, Bool.false_eq_true, if_false]
      exact e
    · rw [poolB_no fun h => h2 h.hand]
      simp only [notB h2, Bool.not_false, spec_PoolOk.j0, if_true]
      exact Ev.now _
  · simp only [if_neg h1]
    refine up ?_
    rw [poolB_no fun h => h1 (by have := h.len; omega)]
    simp only [spec_PoolOk.j0, if_true]
    exact Ev.now _

theorem rd_at (p : List S41) (j : Int) (h0 : 0 ≤ j) (h1 : j < p.length) : rd_T41 p j = p[j.toNat]'(by omega) := by
  unfold rd_T41
  rw [List.getD_eq_getElem?_getD, List.getElem?_eq_getElem (by omega)]
  rfl
theorem rd_set (p : List S41) (i j : Int) (y : S41) (i0 : 0 ≤ i) (i1 : i < p.length) (j0 : 0 ≤ j) : rd_T41 (p.set i.toNat y) j = if i = j then y else rd_T41 p j := by
  unfold rd_T41
  rw [List.getD_eq_getElem?_getD, List.getD_eq_getElem?_getD, List.getElem?_set]
  by_cases e : i = j
  · subst e
    rw [if_pos rfl, if_pos rfl, if_pos (by omega)]
    rfl
  · rw [if_neg e, if_neg (by omega)]
theorem rd_set_eq (p : List S41) (i : Int) (y : S41) (i0 : 0 ≤ i) (i1 : i < p.length) : rd_T41 (p.set i.toNat y) i = y := by
  rw [rd_set p i i y i0 i1 i0, if_pos rfl]
theorem rd_set_ne (p : List S41) (i j : Int) (y : S41) (i0 : 0 ≤ i) (i1 : i < p.length) (j0 : 0 ≤ j) (h : i ≠ j) : rd_T41 (p.set i.toNat y) j = rd_T41 p j := by
  rw [rd_set p i j y i0 i1 j0, if_neg h]

theorem clone_f (p : List S41) (hd : Int) (hl : p.length ≤ 1000000) : impl_clonePool.f p hd = some (p, hd) := by
  unfold impl_clonePool.f
  have h : ([] : List S41).length + p.length < 3518437208883 := by simp; omega
  simp only [Option.bind_some, if_pos h, List.nil_append]
theorem copy_f (p : List S41) (hd : Int) (hl : p.length ≤ 1000000) : spec_l10Copy.f p hd = some (p, hd) := by
  unfold spec_l10Copy.f
  have h : ([] : List S41).length + p.length < 3518437208883 := by simp; omega
  simp only [Option.bind_some, if_pos h, List.nil_append]
theorem frame_f3 {x : S41} (h : FrOk x) : 0 ≤ x.f3 ∧ x.f3 ≤ 99999 := by rcases h with h | h <;> omega

/-- What PoolDrop gives. -/
def dropM (ok : Bool) (p : List S41) (hd e : Int) : List S41 × Int := if ok = true then (p.map (drF e), hd) else ([], 0)
theorem dr_z (e : Int) : drF e z41 = z41 := by unfold drF; split <;> rfl
theorem rd_map41 (f : S41 → S41) (hf : f z41 = z41) (p : List S41) (j : Int) : rd_T41 (p.map f) j = f (rd_T41 p j) := by
  unfold rd_T41
  rw [List.getD_eq_getElem?_getD, List.getD_eq_getElem?_getD, List.getElem?_map]
  cases p[j.toNat]? with
  | none => exact hf.symm
  | some x => rfl
theorem step_rd (f : S41 → S41) (p : List S41) (n : Nat) (h : n < p.length) : rd_T41 ((p.take n).map f ++ p.drop n) (n : Int) = rd_T41 p (n : Int) := by
  unfold rd_T41
  rw [List.getD_eq_getElem?_getD, List.getD_eq_getElem?_getD, Int.toNat_natCast, List.getElem?_append_right (by simp; omega), List.getElem?_drop]
  have : n + (n - ((p.take n).map f).length) = n := by simp; omega
  rw [this]
theorem step_next (f : S41 → S41) (p : List S41) (n : Nat) (h : n < p.length) : ((p.take n).map f ++ p.drop n).set n (f (rd_T41 p (n : Int))) = (p.take (n + 1)).map f ++ p.drop (n + 1) := by
  have hl : ((p.take n).map f).length = n := by simp; omega
  rw [List.set_append_right _ _ (by omega), hl, Nat.sub_self, List.drop_eq_getElem_cons h, List.set_cons_zero, List.take_succ_eq_append_getElem h, List.map_append, List.append_assoc]
  have : rd_T41 p (n : Int) = p[n] := by
    unfold rd_T41
    rw [List.getD_eq_getElem?_getD, Int.toNat_natCast, List.getElem?_eq_getElem h]; rfl
  rw [this]
  rfl
theorem step_same (f : S41 → S41) (p : List S41) (n : Nat) (h : n < p.length) (hf : f (rd_T41 p (n : Int)) = rd_T41 p (n : Int)) : (p.take n).map f ++ p.drop n = (p.take (n + 1)).map f ++ p.drop (n + 1) := by
  have : rd_T41 p (n : Int) = p[n] := by
    unfold rd_T41
    rw [List.getD_eq_getElem?_getD, Int.toNat_natCast, List.getElem?_eq_getElem h]; rfl
  rw [this] at hf
  rw [List.drop_eq_getElem_cons h, List.take_succ_eq_append_getElem h, List.map_append, List.append_assoc]
  congr 1
  simp only [List.map_cons, List.map_nil, List.singleton_append, hf]
theorem dr_cnt (p : List S41) (e h : Int) : ∀ n, cntTo (p.map (drF e)) h n ≤ cntTo p h n
  | 0 => Nat.le_refl _
  | n + 1 => by
    have ih := dr_cnt p e h n
    simp only [cntTo]
    rw [rd_map41 (drF e) (dr_z e)]
    have : (if (drF e (rd_T41 p (n : Int))).f1 > 0 ∧ (drF e (rd_T41 p (n : Int))).f0 = h then 1 else 0) ≤ (if (rd_T41 p (n : Int)).f1 > 0 ∧ (rd_T41 p (n : Int)).f0 = h then 1 else 0) := by
      unfold drF
      by_cases c : (rd_T41 p (n : Int)).f1 = e ∧ (rd_T41 p (n : Int)).f3 = 0
      · rw [if_pos c]
        split
        · next g => exact absurd g.1 (by show ¬ (0 : Int) > 0; omega)
        · omega
      · rw [if_neg c]; exact Nat.le_refl _
    omega
theorem drop_ok {p : List S41} {hd : Int} (e : Int) (hp : PoolP p hd) : PoolP (p.map (drF e)) hd := by
  have hr := rd_map41 (drF e) (dr_z e) p
  refine ⟨by simp [hp.len], hp.hand, fun j j0 j1 => ?_, fun i j i0 ij j1 hn => ?_, ?_, ?_⟩
  · rw [hr]
    unfold drF
    split
    · left; exact ⟨rfl, rfl, rfl, rfl, rfl⟩
    · exact hp.fr j j0 j1
  · rw [hr] at hn ⊢
    unfold Mt
    rw [hr]
    by_cases c : (rd_T41 p j).f1 = e ∧ (rd_T41 p j).f3 = 0
    · exact absurd (show (drF e (rd_T41 p j)).f1 = 0 by unfold drF; rw [if_pos c]) hn
    · have ej : drF e (rd_T41 p j) = rd_T41 p j := by unfold drF; rw [if_neg c]
      rw [ej] at hn ⊢
      by_cases d : (rd_T41 p i).f1 = e ∧ (rd_T41 p i).f3 = 0
      · intro g
        have ei : (drF e (rd_T41 p i)).f1 = 0 := by unfold drF; rw [if_pos d]
        rw [ei] at g
        exact hn g.1.symm
      · have ei : drF e (rd_T41 p i) = rd_T41 p i := by unfold drF; rw [if_neg d]
        rw [ei]
        exact hp.once i j i0 ij j1 hn
  · have := dr_cnt p e 0 (p.map (drF e)).length
    have h0 := hp.c0
    unfold cnt at h0 ⊢
    rw [List.length_map] at this ⊢
    omega
  · have := dr_cnt p e 1 (p.map (drF e)).length
    have h0 := hp.c1
    unfold cnt at h0 ⊢
    rw [List.length_map] at this ⊢
    omega

theorem specDropL (p : List S41) (hd e : Int) (hl : p.length ≤ 1000000) : Ev (fun k => spec_l10Drop.f k p hd e) (p.map (drF e), hd) := by
  have main : ∀ (d n : Nat), n + d = p.length → Ev (fun k => spec_l10Drop.l0 k e (n : Int) ((p.take n).map (drF e) ++ p.drop n) hd) (p.map (drF e), hd) := by
    intro d
    induction d with
    | zero =>
      intro n hn
      obtain rfl : n = p.length := by omega
      have el : (p.take p.length).map (drF e) ++ p.drop p.length = p.map (drF e) := by simp
      rw [el]
      have g : ¬ (p.length : Int) < ((p.map (drF e)).length : Int) := by rw [List.length_map]; omega
      refine up ?_
      simp only [spec_l10Drop.l0, if_neg g]
      exact Ev.now _
    | succ d ih =>
      intro n hn
      have hlt : n < p.length := by omega
      have hlen : ((p.take n).map (drF e) ++ p.drop n).length = p.length := by
        rw [List.length_append, List.length_map, List.length_take, List.length_drop]; omega
      have g : (n : Int) < ((((p.take n).map (drF e) ++ p.drop n).length : Nat) : Int) := by rw [hlen]; omega
      have g0 : 0 ≤ (n : Int) := by omega
      have hw : wrap64 ((n : Int) + 1) = ((n + 1 : Nat) : Int) := by rw [wz (by omega)]; omega
      have hr := step_rd (drF e) p n hlt
      have nx := ih (n + 1) (by omega)
      refine up ?_
      by_cases c1 : (rd_T41 p (n : Int)).f1 = e
      · by_cases c2 : (rd_T41 p (n : Int)).f3 = 0
        · have hf : drF e (rd_T41 p (n : Int)) = (⟨0, 0, 0, 0, false⟩ : S41) := by unfold drF; rw [if_pos ⟨c1, c2⟩]
          have hs := step_next (drF e) p n hlt
          rw [hf] at hs
          simp only [spec_l10Drop.l0, if_pos g, if_pos g0, hr, if_pos c1, if_pos c2, hw, Int.toNat_natCast, hs]
          exact nx
        · have hf : drF e (rd_T41 p (n : Int)) = rd_T41 p (n : Int) := by unfold drF; rw [if_neg (fun h => c2 h.2)]
          have hs := step_same (drF e) p n hlt hf
          simp only [spec_l10Drop.l0, if_pos g, if_pos g0, hr, if_pos c1, if_neg c2, hw]
          rw [hs]
          exact nx
      · have hf : drF e (rd_T41 p (n : Int)) = rd_T41 p (n : Int) := by unfold drF; rw [if_neg (fun h => c1 h.1)]
        have hs := step_same (drF e) p n hlt hf
        simp only [spec_l10Drop.l0, if_pos g, if_pos g0, hr, if_neg c1, hw]
        rw [hs]
        exact nx
  unfold spec_l10Drop.f
  simp only [copy_f p hd hl, Option.bind_some]
  have := main p.length 0 (by omega)
  simpa using this
theorem specDrop (p : List S41) (hd e : Int) : Ev (fun k => spec_PoolDrop.f k p hd e) (dropM (poolB p hd) p hd e) := by
  unfold spec_PoolDrop.f dropM
  refine bd (specOk p hd) ?_
  by_cases ok : poolB p hd = true
  · have hl := (poolB_iff.1 ok).len
    simp only [if_pos ok]
    refine bd (specDropL p hd e (by omega)) ?_
    exact Ev.now _
  · simp only [if_neg ok]; exact Ev.now _
theorem implDrop (p : List S41) (hd e : Int) : Ev (fun k => impl_PoolDrop.f k p hd e) (dropM (poolB p hd) p hd e) := by
  unfold impl_PoolDrop.f dropM
  refine bd (implOk p hd) ?_
  by_cases ok : poolB p hd = true
  · have hl := (poolB_iff.1 ok).len
    have g : p.length < 1048577 := by omega
    simp only [if_pos ok]
    unfold impl_Pool_drop.f
    simp only [if_pos g, Option.bind_some]
    exact Ev.now _
  · simp only [if_neg ok]; exact Ev.now _

theorem dropM_len (ok : Bool) (p : List S41) (hd e : Int) : (dropM ok p hd e).1.length ≤ p.length := by
  unfold dropM
  split
  · simp
  · simp

def toFr (x : S86) : S41 := ⟨x.f0, x.f1, x.f2, x.f3, x.f4⟩
theorem toFrames (l : List S86) (hl : l.length ≤ 1048576) : Ev (fun k => laws_toFrameS.f k l) (l.map toFr) := by
  have main : ∀ (d i : Nat), i + d = l.length → Ev (fun k => laws_toFrameS.l0 k l ((l.take i).map toFr ++ List.replicate (l.length - i) z41) (i : Int)) (l.map toFr) := by
    intro d
    induction d with
    | zero =>
      intro i hi
      have h1 : ¬ (i : Int) < (l.length : Int) := by omega
      obtain rfl : i = l.length := by omega
      refine up ?_
      simp only [laws_toFrameS.l0, if_neg h1, fill_end]
      exact Ev.now _
    | succ d ih =>
      intro i hi
      have h1 : (i : Int) < (l.length : Int) := by omega
      have h2 : 0 ≤ (i : Int) := by omega
      have h3 : (i : Int) < ((((l.take i).map toFr ++ List.replicate (l.length - i) z41).length : Nat) : Int) := by simp; omega
      have h4 : wrap64 ((i : Int) + 1) = ((i + 1 : Nat) : Int) := by rw [wz (by omega)]; omega
      refine up ?_
      simp only [laws_toFrameS.l0, if_pos h1, if_pos h2, if_pos h3, laws_toFrame.f, Option.bind_some, h4, Int.toNat_natCast]
      have this : ((l.take i).map toFr ++ List.replicate (l.length - i) z41).set i (⟨(l.getD i z86).f0, (l.getD i z86).f1, (l.getD i z86).f2, (l.getD i z86).f3, (l.getD i z86).f4⟩ : S41) = _ := fill_step toFr z41 z86 l i (by omega)
      simp only [rd_T86, Int.toNat_natCast, this]
      exact ih (i + 1) (by omega)
  unfold laws_toFrameS.f
  have h1 : 0 ≤ (l.length : Int) := by omega
  have h2 : l.length ≤ 7036874417766 := by omega
  simp only [if_pos h1, Int.toNat_natCast, if_pos h2]
  have := main l.length 0 (by omega)
  simpa using this
theorem eqFrames (l : List S41) (hl : l.length ≤ 1048576) : Ev (fun k => laws_eqFrameS.f k l l) true := by
  have main : ∀ (d i : Nat), i + d = l.length → Ev (fun k => laws_eqFrameS.l0 k l l (i : Int)) true := by
    intro d
    induction d with
    | zero =>
      intro i hi
      have h1 : ¬ (i : Int) < (l.length : Int) := by omega
      refine up ?_
      simp only [laws_eqFrameS.l0, if_neg h1]
      exact Ev.now _
    | succ d ih =>
      intro i hi
      have h1 : (i : Int) < (l.length : Int) := by omega
      have h2 : 0 ≤ (i : Int) := by omega
      have h4 : wrap64 ((i : Int) + 1) = ((i + 1 : Nat) : Int) := by rw [wz (by omega)]; omega
      refine up ?_
      simp only [laws_eqFrameS.l0, if_pos h1, if_pos h2, laws_eqFrame.f, if_true, Option.bind_some, h4, bne_self_eq_false, Bool.false_eq_true, if_false]
      exact ih (i + 1) (by omega)
  unfold laws_eqFrameS.f
  simp only [if_true]
  exact main l.length 0 (by omega)
theorem toPool (l : List S86) (hd : Int) (hl : l.length ≤ 1048576) : Ev (fun k => laws_toPool.f k l hd) (l.map toFr, hd) := by
  unfold laws_toPool.f
  exact bd (toFrames l hl) (Ev.now _)
theorem eqPool (l : List S41) (hd : Int) (hl : l.length ≤ 1048576) : Ev (fun k => laws_eqPool.f k l hd l hd) true := by
  unfold laws_eqPool.f
  refine bd (eqFrames l hl) ?_
  simp only [if_true]
  exact Ev.now _

/-- The frame that the marking writes from the number v on. -/
def mkFr (v : Int) : S41 := ⟨v, v + 1, v + 2, v + 3, (Int.tmod (v + 4) 3 == 0)⟩
structure Marked (q m : List S41) : Prop where
  len : m.length = q.length
  fr : ∀ j : Int, 0 ≤ j → j < q.length → rd_T41 m j = mkFr (1 + 5 * j)
theorem markFrames (q : List S41) (hl : q.length ≤ 1048576) : ∃ m, Marked q m ∧ Ev (fun k => laws_markFrameS.f k q 1) (1 + 5 * (q.length : Int), m) := by
  have main : ∀ (d : Nat) (i : Int) (x : List S41), 0 ≤ i → i + d = q.length → x.length = q.length → (∀ j : Int, 0 ≤ j → j < i → rd_T41 x j = mkFr (1 + 5 * j)) →
      ∃ m, Marked q m ∧ Ev (fun k => laws_markFrameS.l0 k x (1 + 5 * i) i) (1 + 5 * (q.length : Int), m) := by
    intro d
    induction d with
    | zero =>
      intro i x i0 hi hx hm
      have h1 : ¬ i < (x.length : Int) := by omega
      obtain rfl : i = q.length := by omega
      refine ⟨x, ⟨hx, hm⟩, up ?_⟩
      simp only [laws_markFrameS.l0, if_neg h1]
      exact Ev.now _
    | succ d ih =>
      intro i x i0 hi hx hm
      have h1 : i < (x.length : Int) := by omega
      have w1 : wrap64 (1 + 5 * i + 1) = 1 + 5 * i + 1 := wz (by omega)
      have w2 : wrap64 (1 + 5 * i + 1 + 1) = 1 + 5 * i + 2 := by rw [wz (by omega)]; omega
      have w3 : wrap64 (1 + 5 * i + 2 + 1) = 1 + 5 * i + 3 := by rw [wz (by omega)]; omega
      have w4 : wrap64 (1 + 5 * i + 3 + 1) = 1 + 5 * i + 4 := by rw [wz (by omega)]; omega
      have w5 : wrap64 (1 + 5 * i + 4 + 1) = 1 + 5 * (i + 1) := by rw [wz (by omega)]; omega
      have w6 : wrap64 (i + 1) = i + 1 := wz (by omega)
      have e : ∀ y, rd_T41 (x.set i.toNat y) i = y := fun y => rd_set_eq x i y i0 h1
      obtain ⟨m, hM, he⟩ := ih (i + 1) (x.set i.toNat (mkFr (1 + 5 * i))) (by omega) (by omega) (by simp only [List.length_set]; omega) (fun j j0 j1 => by
        by_cases c : i = j
        · subst c; exact e _
        · rw [rd_set_ne x i j _ i0 h1 j0 c]; exact hm j j0 (by omega))
      refine ⟨m, hM, up ?_⟩
      simp only [laws_markFrameS.l0, if_pos h1, if_pos i0, Option.bind_some, e, List.set_set, w1, w2, w3, w4, w5, w6]
      exact he
  unfold laws_markFrameS.f
  exact main q.length 0 q (by omega) (by omega) rfl (fun j a b => by omega)
theorem heldFrames (q m : List S41) (hl : q.length ≤ 1048576) (hM : Marked q m) : Ev (fun k => laws_heldFrameS.f k m 1) (1 + 5 * (q.length : Int)) := by
  have main : ∀ (d : Nat) (i : Int), 0 ≤ i → i + d = q.length → Ev (fun k => laws_heldFrameS.l0 k m (1 + 5 * i) i) (1 + 5 * (q.length : Int)) := by
    have hml := hM.len
    intro d
    induction d with
    | zero =>
      intro i i0 hi
      have h1 : ¬ i < (m.length : Int) := by omega
      obtain rfl : i = q.length := by omega
      refine up ?_
      simp only [laws_heldFrameS.l0, if_neg h1]
      exact Ev.now _
    | succ d ih =>
      intro i i0 hi
      have h1 : i < (m.length : Int) := by omega
      have w1 : wrap64 (1 + 5 * i + 1) = 1 + 5 * i + 1 := wz (by omega)
      have w2 : wrap64 (1 + 5 * i + 1 + 1) = 1 + 5 * i + 2 := by rw [wz (by omega)]; omega
      have w3 : wrap64 (1 + 5 * i + 2 + 1) = 1 + 5 * i + 3 := by rw [wz (by omega)]; omega
      have w4 : wrap64 (1 + 5 * i + 3 + 1) = 1 + 5 * i + 4 := by rw [wz (by omega)]; omega
      have w5 : wrap64 (1 + 5 * i + 4 + 1) = 1 + 5 * (i + 1) := by rw [wz (by omega)]; omega
      have w6 : wrap64 (i + 1) = i + 1 := wz (by omega)
      refine up ?_
      simp only [laws_heldFrameS.l0, if_pos h1, if_pos i0, hM.fr i i0 (by omega), mkFr, w1, w2, w3, w4, w5, w6, if_true, bne_self_eq_false, Bool.false_eq_true, if_false]
      exact ih (i + 1) (by omega) (by omega)
  unfold laws_heldFrameS.f
  exact main q.length 0 (by omega) (by omega)
theorem markPool (q : List S41) (hd : Int) (hl : q.length ≤ 1048576) : ∃ m, Marked q m ∧ Ev (fun k => laws_markPool.f k q hd 1) (1 + 5 * (q.length : Int), m) := by
  obtain ⟨m, hM, e⟩ := markFrames q hl
  refine ⟨m, hM, ?_⟩
  unfold laws_markPool.f
  exact bd e (Ev.now _)
theorem heldPool (q m : List S41) (hd : Int) (hl : q.length ≤ 1048576) (hM : Marked q m) : Ev (fun k => laws_heldPool.f k m hd 1) (1 + 5 * (q.length : Int)) := by
  unfold laws_heldPool.f
  refine bd (heldFrames q m hl hM) ?_
  simp only [if_neg (show ¬ 1 + 5 * (q.length : Int) < 0 by omega)]
  exact Ev.now _

theorem FnExactPoolDrop (l0_0 : List (S86)) (a0_1 : Int) (a1 : Int) (h0 : (l0_0.length ≤ 9223372036854775807 ∧ ∀ x ∈ l0_0, ((Lit.int .i64 x.f0).wf = true) ∧ (((Lit.int .i64 x.f1).wf = true) ∧ (((Lit.int .i64 x.f2).wf = true) ∧ (((Lit.int .i64 x.f3).wf = true) ∧ ((True)))))) ∧ ((Lit.int .i64 a0_1).wf = true)) (h1 : (Lit.int .i64 a1).wf = true) :
    ∃ k, laws_FnExactPoolDrop.f k l0_0 a0_1 a1 = some true := by
  refine ex ?_
  unfold laws_FnExactPoolDrop.f laws_szPool.f laws_szFrameS.f
  have hl := h0.1.1
  have hw : wrap64 (1048576 - (l0_0.length : Int)) = 1048576 - (l0_0.length : Int) := wz (by omega)
  simp only [hw]
  by_cases hs : 1048576 - (l0_0.length : Int) < 0
  · simp only [if_pos hs, Option.bind_some, if_pos (show (-1 : Int) < 0 by omega)]
    exact Ev.now _
  · simp only [if_neg hs, Option.bind_some]
    have hl' : l0_0.length ≤ 1048576 := by omega
    have hL := toPool l0_0 a0_1 hl'
    have hm : (l0_0.map toFr).length ≤ 1048576 := by simp; omega
    generalize hp : l0_0.map toFr = p at hL hm
    refine bd hL ?_
    refine bd (specDrop _ _ _) ?_
    refine bd hL ?_
    refine bd (implDrop _ _ _) ?_
    have hq := dropM_len (poolB p a0_1) p a0_1 a1
    have hI := implDrop p a0_1 a1
    generalize dropM (poolB p a0_1) p a0_1 a1 = q at hq hI
    obtain ⟨q, qh⟩ := q
    simp only at hq ⊢
    have hq' : q.length ≤ 1048576 := by omega
    refine bd (eqPool _ _ hq') ?_
    simp only [if_true]
    refine bd hL ?_
    refine bd (eqPool _ _ hm) ?_
    simp only [if_true]
    obtain ⟨m, hM, eM⟩ := markPool p a0_1 hm
    refine bd eM ?_
    simp only [if_neg (show ¬ 1 + 5 * (p.length : Int) < 0 by omega)]
    refine bd (eqPool _ _ hq') ?_
    refine up ?_
    simp only [laws_FnExactPoolDrop.j0, Bool.not_true, Bool.false_eq_true, if_false]
    obtain ⟨m', hM', eM'⟩ := markPool q qh (by omega)
    refine bd eM' ?_
    refine bd (heldPool q m' qh (by omega) hM') ?_
    simp only [if_neg (show ¬ 1 + 5 * (q.length : Int) < 0 by omega), if_true]
    refine bd hL ?_
    refine bd hI ?_
    refine bd (eqPool _ _ hq') ?_
    simp only [if_true]
    refine bd (heldPool q m' qh (by omega) hM') ?_
    simp only [if_neg (show ¬ 1 + 5 * (q.length : Int) < 0 by omega), if_true]
    exact Ev.now _

end Go.Proofs.Ytlfnjkcgefcidaa.Pure
