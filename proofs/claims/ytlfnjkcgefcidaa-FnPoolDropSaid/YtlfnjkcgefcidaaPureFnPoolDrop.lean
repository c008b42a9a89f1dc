/-
Dropping frees what is not held: for every code the law FnPoolDrop returns true: PoolDrop is the reference's; of a good pool each frame of the edition that is not held is free, all others stay, the pool stays good, and dropping again changes nothing.
Conditions: none beyond the form's own reach.
-/
import Derived.Test.YtlfnjkcgefcidaaPFnPoolDropx0
import Derived.Test.YtlfnjkcgefcidaaPFnPoolDropx1
import Derived.Test.YtlfnjkcgefcidaaPFnPoolDropx2
import Derived.Test.YtlfnjkcgefcidaaPFnPoolDropx3
import Derived.Test.YtlfnjkcgefcidaaPFnPoolDropx4
import Derived.Test.YtlfnjkcgefcidaaPFnPoolDropx5
import Derived.Test.YtlfnjkcgefcidaaPFnPoolDropx6
import Derived.Test.YtlfnjkcgefcidaaPFnPoolDropx7
import Derived.Test.YtlfnjkcgefcidaaPFnPoolDropx8
import Derived.Test.YtlfnjkcgefcidaaPFnPoolDropx9
import Derived.Test.YtlfnjkcgefcidaaPFnPoolDropx10
import Derived.Test.YtlfnjkcgefcidaaPFnPoolDropx11
import Derived.Test.YtlfnjkcgefcidaaPFnPoolDropx12
import Derived.Test.YtlfnjkcgefcidaaPFnPoolDropx13
import Derived.Test.YtlfnjkcgefcidaaPFnPoolDropx14
import Derived.Test.YtlfnjkcgefcidaaPFnPoolDropx15
import Derived.Test.YtlfnjkcgefcidaaPFnPoolDropx16
import Derived.Test.YtlfnjkcgefcidaaPFnPoolDropx17
import Derived.Test.YtlfnjkcgefcidaaPFnPoolDropx18
import Derived.Test.YtlfnjkcgefcidaaPFnPoolDropx19
import Derived.Test.YtlfnjkcgefcidaaPFnPoolDropx20
import Derived.Test.YtlfnjkcgefcidaaPFnPoolDropx21
import Derived.Test.YtlfnjkcgefcidaaPFnPoolDropx22
import Derived.Test.YtlfnjkcgefcidaaPFnPoolDropx23
import Derived.Test.YtlfnjkcgefcidaaVPureC
namespace Go.Proofs.Ytlfnjkcgefcidaa.Pure
open Go.RowKit Go.Proofs.Ytlfnjkcgefcidaa.PFnPoolDrop Go.Proofs.Ytlfnjkcgefcidaa.C Go.Proofs.YtlfnjkcgefcidaaW.PrintWords Go.Proofs.YtlfnjkcgefcidaaW.PrintLast
set_option linter.unusedVariables false
set_option linter.unusedSimpArgs false

theorem l1In_f (a b c : Int) : spec_l1In.f a b c = some (decide (b ≤ a) && decide (a ≤ c)) := by
  unfold spec_l1In.f
  by_cases h : b ≤ a <;> simp [h]
theorem within_f (a b c : Int) : impl_within.f a b c = some (decide (b ≤ a) && decide (a ≤ c)) := by
  unfold impl_within.f
  by_cases h : b ≤ a <;> simp [h]

/-- Frame j has this edition and block. -/
def Mt (p : List S41) (e b j : Int) : Prop := (rd_T41 p j).f1 = e ∧ (rd_T41 p j).f2 = b
/-- The first frame of a block, -1 if there is none. -/
def FindP (p : List S41) (e b r : Int) : Prop :=
  (r = -1 ∧ ∀ j : Int, 0 ≤ j → j < p.length → ¬ Mt p e b j) ∨ (0 ≤ r ∧ r < p.length ∧ Mt p e b r ∧ ∀ j : Int, 0 ≤ j → j < r → ¬ Mt p e b j)
theorem FindP.uniq {p : List S41} {e b r s : Int} (h : FindP p e b r) (k : FindP p e b s) : r = s := by
  rcases h with ⟨rfl, h⟩ | ⟨h0, h1, h2, h3⟩ <;> rcases k with ⟨rfl, k⟩ | ⟨k0, k1, k2, k3⟩
  · rfl
  · exact absurd k2 (h _ k0 k1)
  · exact absurd h2 (k _ h0 h1)
  · rcases Int.lt_trichotomy r s with g | g | g
    · exact absurd h2 (k3 _ h0 g)
    · exact g
    · exact absurd k2 (h3 _ k0 g)
theorem find_ex (p : List S41) (e b : Int) (hl : p.length ≤ 10000000) : ∃ r, FindP p e b r := by
  have main : ∀ n : Nat, n ≤ p.length → (∀ j : Int, 0 ≤ j → j < n → ¬ Mt p e b j) ∨ ∃ r : Int, 0 ≤ r ∧ r < n ∧ Mt p e b r ∧ ∀ j : Int, 0 ≤ j → j < r → ¬ Mt p e b j := by
    intro n
    induction n with
    | zero => intro _; exact .inl fun j h0 h1 => by omega
    | succ n ih =>
      intro hn
      rcases ih (by omega) with h | ⟨r, h0, h1, h2⟩
      · by_cases hm : Mt p e b n
        · exact .inr ⟨n, by omega, by omega, hm, h⟩
        · refine .inl fun j h0 h1 => ?_
          by_cases ej : j = n
          · subst ej; exact hm
          · exact h j h0 (by omega)
      · exact .inr ⟨r, h0, by omega, h2⟩
  rcases main p.length (Nat.le_refl _) with h | ⟨r, h0, h1, h2, h3⟩
  · exact ⟨-1, .inl ⟨rfl, h⟩⟩
  · exact ⟨r, .inr ⟨h0, h1, h2, h3⟩⟩
theorem implFind (p : List S41) (h e b r : Int) (hl : p.length ≤ 1000000) (hr : FindP p e b r) : Ev (fun k => impl_Pool_find.f k p h e b) r := by
  have main : ∀ (d : Nat) (i : Int), 0 ≤ i → i + d = p.length → (∀ j : Int, 0 ≤ j → j < i → ¬ Mt p e b j) → Ev (fun k => impl_Pool_find.l0 k e b p (p.length : Int) i) r := by
    intro d
    induction d with
    | zero =>
      intro i h0 hd hn
      have h1 : ¬ i < (p.length : Int) := by omega
      refine up ?_
      simp only [impl_Pool_find.l0, if_neg h1]
      rw [hr.uniq (.inl ⟨rfl, fun j a b => hn j a (by omega)⟩)]
      exact Ev.now _
    | succ d ih =>
      intro i h0 hd hn
      have h1 : i < (p.length : Int) := by omega
      have hw : wrap64 (i + 1) = i + 1 := wz (by omega)
      have next : ¬ Mt p e b i → Ev (fun k => impl_Pool_find.l0 k e b p (p.length : Int) (i + 1)) r := fun hm => ih (i + 1) (by omega) (by omega) (fun j a b => by
        by_cases ej : j = i
        · subst ej; exact hm
        · exact hn j a (by omega))
      refine up ?_
      by_cases c1 : (rd_T41 p i).f1 = e
      · by_cases c2 : (rd_T41 p i).f2 = b
        · simp only [impl_Pool_find.l0, if_pos h1, if_pos h0, if_pos c1, if_pos c2]
          rw [hr.uniq (.inr ⟨h0, h1, ⟨c1, c2⟩, hn⟩)]
          exact Ev.now _
        · simp only [impl_Pool_find.l0, if_pos h1, if_pos h0, if_pos c1, if_neg c2, hw]
          exact next (fun hm => c2 hm.2)
      · simp only [impl_Pool_find.l0, if_pos h1, if_pos h0, if_neg c1, hw]
        exact next (fun hm => c1 hm.1)
  exact main p.length 0 (by omega) (by omega) (fun j a b => by omega)
/-- How many of the first n frames a house has. -/
def cntTo (p : List S41) (h : Int) : Nat → Nat
  | 0 => 0
  | n + 1 => cntTo p h n + if (rd_T41 p n).f1 > 0 ∧ (rd_T41 p n).f0 = h then 1 else 0
def cnt (p : List S41) (h : Int) : Nat := cntTo p h p.length
theorem cntTo_le (p : List S41) (h : Int) : ∀ n, cntTo p h n ≤ n
  | 0 => Nat.le_refl _
  | n + 1 => by
    have := cntTo_le p h n
    simp only [cntTo]
    split <;> omega
theorem implOf (p : List S41) (hd h : Int) (hl : p.length ≤ 1000000) : Ev (fun k => impl_Pool_of.f k p hd h) (cnt p h : Int) := by
  have main : ∀ (d n : Nat), n + d = p.length → Ev (fun k => impl_Pool_of.l0 k h (cntTo p h n : Int) p (p.length : Int) (n : Int)) (cnt p h : Int) := by
    intro d
    induction d with
    | zero =>
      intro n hn
      have h1 : ¬ (n : Int) < (p.length : Int) := by omega
      obtain rfl : n = p.length := by omega
      refine up ?_
      simp only [impl_Pool_of.l0, if_neg h1]
      exact Ev.now _
    | succ d ih =>
      intro n hn
      have h0 : 0 ≤ (n : Int) := by omega
      have h1 : (n : Int) < (p.length : Int) := by omega
      have hc := cntTo_le p h n
      have hw : wrap64 ((n : Int) + 1) = ((n + 1 : Nat) : Int) := by rw [wz (by omega)]; omega
      have hw2 : wrap64 ((cntTo p h n : Int) + 1) = ((cntTo p h n + 1 : Nat) : Int) := by rw [wz (by omega)]; omega
      have := ih (n + 1) (by omega)
      refine up ?_
      by_cases c1 : (rd_T41 p n).f1 > 0
      · by_cases c2 : (rd_T41 p n).f0 = h
        · simp only [impl_Pool_of.l0, if_pos h1, if_pos h0, if_pos c1, if_pos c2, hw, hw2]
          simp only [cntTo, if_pos (And.intro c1 c2)] at this
          exact this
        · simp only [impl_Pool_of.l0, if_pos h1, if_pos h0, if_pos c1, if_neg c2, hw]
          simp only [cntTo, if_neg (fun x : (rd_T41 p n).f1 > 0 ∧ (rd_T41 p n).f0 = h => c2 x.2), Nat.add_zero] at this
          exact this
      · simp only [impl_Pool_of.l0, if_pos h1, if_pos h0, if_neg c1, hw]
        simp only [cntTo, if_neg (fun x : (rd_T41 p n).f1 > 0 ∧ (rd_T41 p n).f0 = h => c1 x.1), Nat.add_zero] at this
        exact this
  exact main p.length 0 (by omega)
theorem specOf (p : List S41) (hd h : Int) (hl : p.length ≤ 1000000) : Ev (fun k => spec_l10Of.f k p hd h) (cnt p h : Int) := by
  have main : ∀ (d n : Nat), n + d = p.length → Ev (fun k => spec_l10Of.l0 k h (cntTo p h n : Int) (n : Int) p hd) (cnt p h : Int) := by
    intro d
    induction d with
    | zero =>
      intro n hn
      have h1 : ¬ (n : Int) < (p.length : Int) := by omega
      obtain rfl : n = p.length := by omega
      refine up ?_
      simp only [spec_l10Of.l0, if_neg h1]
      exact Ev.now _
    | succ d ih =>
      intro n hn
      have h0 : 0 ≤ (n : Int) := by omega
      have h1 : (n : Int) < (p.length : Int) := by omega
      have hc := cntTo_le p h n
      have hw : wrap64 ((n : Int) + 1) = ((n + 1 : Nat) : Int) := by rw [wz (by omega)]; omega
      have hw2 : wrap64 ((cntTo p h n : Int) + 1) = ((cntTo p h n + 1 : Nat) : Int) := by rw [wz (by omega)]; omega
      have := ih (n + 1) (by omega)
      refine up ?_
      by_cases c1 : (rd_T41 p n).f1 > 0
      · by_cases c2 : (rd_T41 p n).f0 = h
        · simp only [spec_l10Of.l0, if_pos h1, if_pos h0, if_pos c1, if_pos c2, hw, hw2]
          simp only [cntTo, if_pos (And.intro c1 c2)] at this
          exact this
        · simp only [spec_l10Of.l0, if_pos h1, if_pos h0, if_pos c1, if_neg c2, hw]
          simp only [cntTo, if_neg (fun x : (rd_T41 p n).f1 > 0 ∧ (rd_T41 p n).f0 = h => c2 x.2), Nat.add_zero] at this
          exact this
      · simp only [spec_l10Of.l0, if_pos h1, if_pos h0, if_neg c1, hw]
        simp only [cntTo, if_neg (fun x : (rd_T41 p n).f1 > 0 ∧ (rd_T41 p n).f0 = h => c1 x.1), Nat.add_zero] at this
        exact this
  exact main p.length 0 (by omega)
/-- A frame is free, with all else nought, or within limits. -/
def FrOk (x : S41) : Prop := (x.f1 = 0 ∧ x.f0 = 0 ∧ x.f2 = 0 ∧ x.f3 = 0 ∧ x.f4 = false) ∨ (0 ≤ x.f0 ∧ x.f0 ≤ 1 ∧ 1 ≤ x.f1 ∧ x.f1 ≤ 99999 ∧ 0 ≤ x.f2 ∧ x.f2 ≤ 23 ∧ 0 ≤ x.f3 ∧ x.f3 ≤ 99999)
structure PoolP (p : List S41) (hd : Int) : Prop where
  len : p.length = 8
  hand : 0 ≤ hd ∧ hd ≤ 7
  fr : ∀ j : Int, 0 ≤ j → j < 8 → FrOk (rd_T41 p j)
  once : ∀ i j : Int, 0 ≤ i → i < j → j < 8 → (rd_T41 p j).f1 ≠ 0 → ¬ Mt p (rd_T41 p j).f1 (rd_T41 p j).f2 i
  c0 : cnt p 0 ≤ 5
  c1 : cnt p 1 ≤ 5
noncomputable def poolB (p : List S41) (hd : Int) : Bool := @decide (PoolP p hd) (Classical.propDecidable _)
theorem poolB_yes {p : List S41} {hd : Int} (h : PoolP p hd) : poolB p hd = true := by unfold poolB; exact @decide_eq_true _ (Classical.propDecidable _) h
theorem poolB_no {p : List S41} {hd : Int} (h : ¬ PoolP p hd) : poolB p hd = false := by unfold poolB; exact @decide_eq_false _ (Classical.propDecidable _) h
theorem poolB_iff {p : List S41} {hd : Int} : poolB p hd = true ↔ PoolP p hd :=
  ⟨(fun h => Classical.byContradiction fun n => by rw [poolB_no n] at h; cases h), poolB_yes⟩

theorem house_f (a : Int) : impl_house.f a = some (decide (0 ≤ a) && decide (a ≤ 1)) := by
  unfold impl_house.f
  rw [within_f]
  rfl
theorem zeroTest (x : S41) : (!(x.f0 == 0) || (!(x.f1 == 0) || (!(x.f2 == 0) || (!(x.f3 == 0) || x.f4)))) = true ↔ ¬ (x.f1 = 0 ∧ x.f0 = 0 ∧ x.f2 = 0 ∧ x.f3 = 0 ∧ x.f4 = false) := by
  cases x.f4 <;> simp <;> omega
theorem implOk_of (p : List S41) (hd : Int) (hlen : p.length = 8) (n : Nat) (hn : n ≤ 2) (hc : ∀ h : Int, 0 ≤ h → h < n → cnt p h ≤ 5) :
    ∃ b, Ev (fun k => impl_PoolOk.l1 k (n : Int) p hd) b ∧ (b = true ↔ cnt p 0 ≤ 5 ∧ cnt p 1 ≤ 5) := by
  have step : ∀ m : Nat, m < 2 → (cnt p m ≤ 5 → ∃ b, Ev (fun k => impl_PoolOk.l1 k ((m + 1 : Nat) : Int) p hd) b ∧ (b = true ↔ cnt p 0 ≤ 5 ∧ cnt p 1 ≤ 5)) → ∃ b, Ev (fun k => impl_PoolOk.l1 k (m : Int) p hd) b ∧ (b = true ↔ cnt p 0 ≤ 5 ∧ cnt p 1 ≤ 5) := by
    intro m hm next
    have h1 : (m : Int) < 2 := by omega
    have hw : wrap64 ((m : Int) + 1) = ((m + 1 : Nat) : Int) := by rw [wz (by omega)]; omega
    by_cases c : cnt p m ≤ 5
    · obtain ⟨b, e, hb⟩ := next c
      have g : ¬ (cnt p m : Int) > 5 := by omega
      refine ⟨b, up ?_, hb⟩
      simp only [impl_PoolOk.l1, if_pos h1]
      refine bd (implOf p hd m (by omega)) ?_
      simp only [if_neg g, hw]
      exact e
    · have g : (cnt p m : Int) > 5 := by omega
      refine ⟨false, up ?_, ?_⟩
      · simp only [impl_PoolOk.l1, if_pos h1]
        refine bd (implOf p hd m (by omega)) ?_
        simp only [if_pos g]
        exact Ev.now _
      · rcases (show m = 0 ∨ m = 1 by omega) with rfl | rfl
        · exact ⟨(fun h => by cases h), fun h => absurd h.1 c⟩
        · exact ⟨(fun h => by cases h), fun h => absurd h.2 c⟩
  have two : ∀ (_ : cnt p 0 ≤ 5) (_ : cnt p 1 ≤ 5), ∃ b, Ev (fun k => impl_PoolOk.l1 k ((2 : Nat) : Int) p hd) b ∧ (b = true ↔ cnt p 0 ≤ 5 ∧ cnt p 1 ≤ 5) := by
    intro a b
    have h1 : ¬ ((2 : Nat) : Int) < 2 := by omega
    refine ⟨true, up ?_, ⟨fun _ => ⟨a, b⟩, fun _ => rfl⟩⟩
    simp only [impl_PoolOk.l1, if_neg h1]
    exact Ev.now _
  rcases (show n = 0 ∨ n = 1 ∨ n = 2 by omega) with rfl | rfl | rfl
  · exact step 0 (by omega) fun a => step 1 (by omega) fun b => two a b
  · exact step 1 (by omega) fun b => two (hc 0 (by omega) (by omega)) b
  · exact two (hc 0 (by omega) (by omega)) (hc 1 (by omega) (by omega))
/-- What the first loop asks of the frames ahead of n. -/
def Ahead (p : List S41) (n : Int) : Prop := ∀ j : Int, 0 ≤ j → j < n → FrOk (rd_T41 p j) ∧ ((rd_T41 p j).f1 ≠ 0 → ∀ i : Int, 0 ≤ i → i < j → ¬ Mt p (rd_T41 p j).f1 (rd_T41 p j).f2 i)
theorem implOk_l0 (p : List S41) (hd : Int) (hlen : p.length = 8) : ∀ (d : Nat) (n : Int), 0 ≤ n → n + d = 8 → Ahead p n →
    ∃ b, Ev (fun k => impl_PoolOk.l0 k p (p.length : Int) n p hd) b ∧ (b = true ↔ Ahead p 8 ∧ cnt p 0 ≤ 5 ∧ cnt p 1 ≤ 5) := by
  intro d
  induction d with
  | zero =>
    intro n h0 hd' hA
    have h1 : ¬ n < (p.length : Int) := by omega
    obtain ⟨b, e, hb⟩ := implOk_of p hd hlen 0 (by omega) (fun h a b => by omega)
    refine ⟨b, up ?_, ?_⟩
    · simp only [impl_PoolOk.l0, if_neg h1]
      exact e
    · obtain rfl : n = 8 := by omega
      rw [hb]
      exact ⟨fun h => ⟨hA, h⟩, fun h => h.2⟩
  | succ d ih =>
    intro n h0 hd' hA
    have h1 : n < (p.length : Int) := by omega
    have hw : wrap64 (n + 1) = n + 1 := wz (by omega)
    have bad : ¬ (FrOk (rd_T41 p n) ∧ ((rd_T41 p n).f1 ≠ 0 → ∀ i : Int, 0 ≤ i → i < n → ¬ Mt p (rd_T41 p n).f1 (rd_T41 p n).f2 i)) → (false = true ↔ Ahead p 8 ∧ cnt p 0 ≤ 5 ∧ cnt p 1 ≤ 5) :=
      fun hn => ⟨(fun h => by cases h), fun h => absurd (h.1 n h0 (by omega)) hn⟩
    have good : (FrOk (rd_T41 p n) ∧ ((rd_T41 p n).f1 ≠ 0 → ∀ i : Int, 0 ≤ i → i < n → ¬ Mt p (rd_T41 p n).f1 (rd_T41 p n).f2 i)) → ∃ b, Ev (fun k => impl_PoolOk.l0 k p (p.length : Int) (n + 1) p hd) b ∧ (b = true ↔ Ahead p 8 ∧ cnt p 0 ≤ 5 ∧ cnt p 1 ≤ 5) :=
      fun hg => ih (n + 1) (by omega) (by omega) (fun j a b => by
        by_cases ej : j = n
        · subst ej; exact hg
        · exact hA j a (by omega))
    by_cases c0 : (rd_T41 p n).f1 = 0
    · by_cases c1 : (!((rd_T41 p n).f0 == 0) || (!((rd_T41 p n).f1 == 0) || (!((rd_T41 p n).f2 == 0) || (!((rd_T41 p n).f3 == 0) || (rd_T41 p n).f4)))) = true
      · refine ⟨false, up ?_, bad fun h => ?_⟩
        · simp only [impl_PoolOk.l0, if_pos h1, if_pos h0, if_pos c0, if_pos c1]
          exact Ev.now _
        · rcases h.1 with g | g
          · exact (zeroTest _).1 c1 g
          · omega
      · have z := Classical.not_not.1 (mt (zeroTest _).2 c1)
        obtain ⟨b, e, hb⟩ := good ⟨.inl z, fun h => absurd c0 h⟩
        refine ⟨b, up ?_, hb⟩
        simp only [impl_PoolOk.l0, if_pos h1, if_pos h0, if_pos c0, if_neg c1, hw]
        exact e
    · have nb : ∀ P : Prop, (FrOk (rd_T41 p n) → P) → ¬ P → ¬ (FrOk (rd_T41 p n) ∧ ((rd_T41 p n).f1 ≠ 0 → ∀ i : Int, 0 ≤ i → i < n → ¬ Mt p (rd_T41 p n).f1 (rd_T41 p n).f2 i)) := fun P hP hn h => hn (hP h.1)
      by_cases d0 : 0 ≤ (rd_T41 p n).f0 ∧ (rd_T41 p n).f0 ≤ 1
      · by_cases d1 : 1 ≤ (rd_T41 p n).f1 ∧ (rd_T41 p n).f1 ≤ 99999
        · by_cases d2 : 0 ≤ (rd_T41 p n).f2 ∧ (rd_T41 p n).f2 ≤ 23
          · by_cases d3 : 0 ≤ (rd_T41 p n).f3 ∧ (rd_T41 p n).f3 ≤ 99999
            · have fr : FrOk (rd_T41 p n) := .inr ⟨d0.1, d0.2, d1.1, d1.2, d2.1, d2.2, d3.1, d3.2⟩
              obtain ⟨r, hr⟩ := find_ex p (rd_T41 p n).f1 (rd_T41 p n).f2 (by omega)
              have hf := implFind p hd _ _ r (by omega) hr
              by_cases er : r = n
              · have hfirst : ∀ i : Int, 0 ≤ i → i < n → ¬ Mt p (rd_T41 p n).f1 (rd_T41 p n).f2 i := by
                  rcases hr with ⟨g, _⟩ | ⟨_, _, _, g⟩
                  · omega
                  · rw [er] at g; exact g
                obtain ⟨b, e, hb⟩ := good ⟨fr, fun _ => hfirst⟩
                refine ⟨b, up ?_, hb⟩
                simp only [impl_PoolOk.l0, if_pos h1, if_pos h0, if_neg c0, house_f, within_f, Option.bind_some, andB, yesB d0, yesB d1, yesB d2, yesB d3, if_true]
                refine bd hf ?_
                simp only [if_pos er, hw]
                exact e
              · refine ⟨false, up ?_, bad fun h => ?_⟩
                · simp only [impl_PoolOk.l0, if_pos h1, if_pos h0, if_neg c0, house_f, within_f, Option.bind_some, andB, yesB d0, yesB d1, yesB d2, yesB d3, if_true]
                  refine bd hf ?_
                  simp only [if_neg er]
                  exact Ev.now _
                · exact er (hr.uniq (.inr ⟨h0, h1, ⟨rfl, rfl⟩, h.2 c0⟩))
            · refine ⟨false, up ?_, bad (nb (0 ≤ (rd_T41 p n).f3 ∧ (rd_T41 p n).f3 ≤ 99999) (fun h => by rcases h with h | h <;> omega) d3)⟩
              simp only [impl_PoolOk.l0, if_pos h1, if_pos h0, if_neg c0, house_f, within_f, Option.bind_some, andB, yesB d0, yesB d1, yesB d2, notB d3, if_true, Bool.false_eq_true, if_false]
              exact Ev.now _
          · refine ⟨false, up ?_, bad (nb (0 ≤ (rd_T41 p n).f2 ∧ (rd_T41 p n).f2 ≤ 23) (fun h => by rcases h with h | h <;> omega) d2)⟩
            simp only [impl_PoolOk.l0, if_pos h1, if_pos h0, if_neg c0, house_f, within_f, Option.bind_some, andB, yesB d0, yesB d1, notB d2, if_true, Bool.false_eq_true, if_false]
            exact Ev.now _
        · refine ⟨false, up ?_, bad (nb (1 ≤ (rd_T41 p n).f1 ∧ (rd_T41 p n).f1 ≤ 99999) (fun h => by rcases h with h | h <;> omega) d1)⟩
          simp only [impl_PoolOk.l0, if_pos h1, if_pos h0, if_neg c0, house_f, within_f, Option.bind_some, andB, yesB d0, notB d1, if_true, Bool.false_eq_true, if_false]
          exact Ev.now _
      · refine ⟨false, up ?_, bad (nb (0 ≤ (rd_T41 p n).f0 ∧ (rd_T41 p n).f0 ≤ 1) (fun h => by rcases h with h | h <;> omega) d0)⟩
        simp only [impl_PoolOk.l0, if_pos h1, if_pos h0, if_neg c0, house_f, Option.bind_some, andB, notB d0, Bool.false_eq_true, if_false]
        exact Ev.now _
theorem poolP_iff (p : List S41) (hd : Int) (hlen : p.length = 8) (hh : 0 ≤ hd ∧ hd ≤ 7) : PoolP p hd ↔ Ahead p 8 ∧ cnt p 0 ≤ 5 ∧ cnt p 1 ≤ 5 :=
  ⟨fun h => ⟨fun j a b => ⟨h.fr j a b, fun hn i c d => h.once i j c d b hn⟩, h.c0, h.c1⟩,
   fun h => ⟨hlen, hh, fun j a b => (h.1 j a b).1, fun i j a b c hn => (h.1 j (by omega) c).2 hn i a b, h.2.1, h.2.2⟩⟩
theorem boolEq {b c : Bool} (h : b = true ↔ c = true) : b = c := by cases b <;> cases c <;> simp_all
theorem implOk (p : List S41) (hd : Int) : Ev (fun k => impl_PoolOk.f k p hd) (poolB p hd) := by
  unfold impl_PoolOk.f
  by_cases h1 : (p.length : Int) = 8
  · have hlen : p.length = 8 := by omega
    simp only [if_pos h1, within_f, Option.bind_some, andB]
    refine up ?_
    by_cases h2 : 0 ≤ hd ∧ hd ≤ 7
    · obtain ⟨b, e, hb⟩ := implOk_l0 p hd hlen 8 0 (by omega) (by omega) (fun j a b => by omega)
      rw [← poolP_iff p hd hlen h2, ← poolB_iff] at hb
      rw [← boolEq hb]
      simp only [yesB h2, Bool.not_true, impl_PoolOk.j0, Bool.false_eq_true, if_false]
      exact e
    · rw [poolB_no fun h => h2 h.hand]
      simp only [notB h2, Bool.not_false, impl_PoolOk.j0, if_true]
      exact Ev.now _
  · simp only [if_neg h1]
    refine up ?_
    rw [poolB_no fun h => h1 (by have := h.len; omega)]
    simp only [impl_PoolOk.j0, if_true]
    exact Ev.now _

theorem specFrOk (x : S41) : ∃ b, spec_l10Ok.f x.f0 x.f1 x.f2 x.f3 x.f4 = some b ∧ (b = true ↔ FrOk x) := by
  unfold spec_l10Ok.f
  simp only [l1In_f, Option.bind_some, andB]
  by_cases c0 : x.f1 = 0
  · simp only [if_pos c0]
    refine ⟨_, rfl, ?_⟩
    constructor
    · intro h
      left
      cases h4 : x.f4 <;> simp_all
    · rintro (h | h)
      · simp [h]
      · omega
  · simp only [if_neg c0]
    have ne : FrOk x ↔ ((0 ≤ x.f0 ∧ x.f0 ≤ 1) ∧ (1 ≤ x.f1 ∧ x.f1 ≤ 99999) ∧ (0 ≤ x.f2 ∧ x.f2 ≤ 23) ∧ (0 ≤ x.f3 ∧ x.f3 ≤ 99999)) := by
      constructor
      · rintro (h | h)
        · exact absurd h.1 c0
        · omega
      · intro h
        right
        omega
    by_cases d0 : 0 ≤ x.f0 ∧ x.f0 ≤ 1
    · by_cases d1 : 1 ≤ x.f1 ∧ x.f1 ≤ 99999
      · by_cases d2 : 0 ≤ x.f2 ∧ x.f2 ≤ 23
        · by_cases d3 : 0 ≤ x.f3 ∧ x.f3 ≤ 99999
          · simp only [yesB d0, yesB d1, yesB d2, yesB d3, if_true]
            exact ⟨true, rfl, fun _ => ne.2 ⟨d0, d1, d2, d3⟩, fun _ => rfl⟩
          · simp only [yesB d0, yesB d1, yesB d2, notB d3, if_true]
            exact ⟨false, rfl, (fun h => by cases h), fun h => absurd (ne.1 h).2.2.2 d3⟩
        · simp only [yesB d0, yesB d1, notB d2, if_true, Bool.false_eq_true, if_false]
          exact ⟨false, rfl, (fun h => by cases h), fun h => absurd (ne.1 h).2.2.1 d2⟩
      · simp only [yesB d0, notB d1, if_true, Bool.false_eq_true, if_false]
        exact ⟨false, rfl, (fun h => by cases h), fun h => absurd (ne.1 h).2.1 d1⟩
    · simp only [notB d0, Bool.false_eq_true, if_false]
      exact ⟨false, rfl, (fun h => by cases h), fun h => absurd (ne.1 h).1 d0⟩
theorem specOk_of (p : List S41) (hd : Int) (hlen : p.length = 8) : ∃ b, Ev (fun k => spec_PoolOk.l2 k 0 p hd) b ∧ (b = true ↔ cnt p 0 ≤ 5 ∧ cnt p 1 ≤ 5) := by
  have h00 : (0 : Int) < 2 := by omega
  have h01 : (1 : Int) < 2 := by omega
  have h02 : ¬ (2 : Int) < 2 := by omega
  have w0 : wrap64 (0 + 1) = 1 := by rw [wz (by omega)]; omega
  have w1 : wrap64 (1 + 1) = 2 := by rw [wz (by omega)]; omega
  by_cases a : cnt p 0 ≤ 5
  · have ga : ¬ (cnt p 0 : Int) > 5 := by omega
    by_cases b : cnt p 1 ≤ 5
    · have gb : ¬ (cnt p 1 : Int) > 5 := by omega
      refine ⟨true, up ?_, fun _ => ⟨a, b⟩, fun _ => rfl⟩
      simp only [spec_PoolOk.l2, if_pos h00]
      refine bd (specOf p hd 0 (by omega)) ?_
      simp only [if_neg ga, w0]
      refine up ?_
      simp only [spec_PoolOk.l2, if_pos h01]
      refine bd (specOf p hd 1 (by omega)) ?_
      simp only [if_neg gb, w1]
      refine up ?_
      simp only [spec_PoolOk.l2, if_neg h02]
      exact Ev.now _
    · have gb : (cnt p 1 : Int) > 5 := by omega
      refine ⟨false, up ?_, (fun h => by cases h), fun h => absurd h.2 b⟩
      simp only [spec_PoolOk.l2, if_pos h00]
      refine bd (specOf p hd 0 (by omega)) ?_
      simp only [if_neg ga, w0]
      refine up ?_
      simp only [spec_PoolOk.l2, if_pos h01]
      refine bd (specOf p hd 1 (by omega)) ?_
      simp only [if_pos gb]
      exact Ev.now _
  · have ga : (cnt p 0 : Int) > 5 := by omega
    refine ⟨false, up ?_, (fun h => by cases h), fun h => absurd h.1 a⟩
    simp only [spec_PoolOk.l2, if_pos h00]
    refine bd (specOf p hd 0 (by omega)) ?_
    simp only [if_pos ga]
    exact Ev.now _
theorem specOk_l0 (p : List S41) (hd : Int) (hlen : p.length = 8) : ∀ (d : Nat) (n : Int), 0 ≤ n → n + d = 8 → Ahead p n →
    ∃ b, Ev (fun k => spec_PoolOk.l0 k n p hd) b ∧ (b = true ↔ Ahead p 8 ∧ cnt p 0 ≤ 5 ∧ cnt p 1 ≤ 5) := by
  intro d
  induction d with
  | zero =>
    intro n h0 hd' hA
    have h1 : ¬ n < (p.length : Int) := by omega
    obtain ⟨b, e, hb⟩ := specOk_of p hd hlen
    refine ⟨b, up ?_, ?_⟩
    · simp only [spec_PoolOk.l0, if_neg h1]
      exact e
    · obtain rfl : n = 8 := by omega
      rw [hb]
      exact ⟨fun h => ⟨hA, h⟩, fun h => h.2⟩
  | succ d ih =>
    intro n h0 hd' hA
    have h1 : n < (p.length : Int) := by omega
    have hw : wrap64 (n + 1) = n + 1 := wz (by omega)
    have bad : ¬ (FrOk (rd_T41 p n) ∧ ((rd_T41 p n).f1 ≠ 0 → ∀ i : Int, 0 ≤ i → i < n → ¬ Mt p (rd_T41 p n).f1 (rd_T41 p n).f2 i)) → (false = true ↔ Ahead p 8 ∧ cnt p 0 ≤ 5 ∧ cnt p 1 ≤ 5) :=
      fun hn => ⟨(fun h => by cases h), fun h => absurd (h.1 n h0 (by omega)) hn⟩
    have good : (FrOk (rd_T41 p n) ∧ ((rd_T41 p n).f1 ≠ 0 → ∀ i : Int, 0 ≤ i → i < n → ¬ Mt p (rd_T41 p n).f1 (rd_T41 p n).f2 i)) → ∃ b, Ev (fun k => spec_PoolOk.l0 k (n + 1) p hd) b ∧ (b = true ↔ Ahead p 8 ∧ cnt p 0 ≤ 5 ∧ cnt p 1 ≤ 5) :=
      fun hg => ih (n + 1) (by omega) (by omega) (fun j a b => by
        by_cases ej : j = n
        · subst ej; exact hg
        · exact hA j a (by omega))
    obtain ⟨t, ht, htb⟩ := specFrOk (rd_T41 p n)
    cases t with
    | false =>
      refine ⟨false, up ?_, bad fun h => by have := htb.2 h.1; cases this⟩
      simp only [spec_PoolOk.l0, if_pos h1, if_pos h0, ht, Option.bind_some, Bool.false_eq_true, if_false]
      exact Ev.now _
    | true =>
      have fr := htb.1 rfl
      have inner : ∀ (e : Nat) (m : Int), 0 ≤ m → m + e = n → ((rd_T41 p n).f1 ≠ 0 → ∀ i : Int, 0 ≤ i → i < m → ¬ Mt p (rd_T41 p n).f1 (rd_T41 p n).f2 i) →
          ∃ b, Ev (fun k => spec_PoolOk.l1 k n m p hd) b ∧ (b = true ↔ Ahead p 8 ∧ cnt p 0 ≤ 5 ∧ cnt p 1 ≤ 5) := by
        intro e
        induction e with
        | zero =>
          intro m m0 me hm
          have g1 : ¬ m < n := by omega
          obtain rfl : m = n := by omega
          obtain ⟨b, eb, hb⟩ := good ⟨fr, hm⟩
          refine ⟨b, up ?_, hb⟩
          simp only [spec_PoolOk.l1, if_neg g1, hw]
          exact eb
        | succ e ihe =>
          intro m m0 me hm
          have g1 : m < n := by omega
          have g2 : m < (p.length : Int) := by omega
          have hwm : wrap64 (m + 1) = m + 1 := wz (by omega)
          have next : ((rd_T41 p n).f1 ≠ 0 → ¬ Mt p (rd_T41 p n).f1 (rd_T41 p n).f2 m) → ∃ b, Ev (fun k => spec_PoolOk.l1 k n (m + 1) p hd) b ∧ (b = true ↔ Ahead p 8 ∧ cnt p 0 ≤ 5 ∧ cnt p 1 ≤ 5) :=
            fun hx => ihe (m + 1) (by omega) (by omega) (fun hn i a b => by
              by_cases ei : i = m
              · subst ei; exact hx hn
              · exact hm hn i a (by omega))
          by_cases k1 : (rd_T41 p n).f1 > 0
          · by_cases k2 : (rd_T41 p n).f1 = (rd_T41 p m).f1
            · by_cases k3 : (rd_T41 p n).f2 = (rd_T41 p m).f2
              · refine ⟨false, up ?_, bad fun h => h.2 (by omega) m m0 g1 ⟨k2.symm, k3.symm⟩⟩
                simp only [spec_PoolOk.l1, if_pos g1, if_pos h0, if_pos h1, if_pos k1, if_pos m0, if_pos g2, if_pos k2, if_pos k3]
                exact Ev.now _
              · obtain ⟨b, eb, hb⟩ := next (fun _ h => k3 h.2.symm)
                refine ⟨b, up ?_, hb⟩
                simp only [spec_PoolOk.l1, if_pos g1, if_pos h0, if_pos h1, if_pos k1, if_pos m0, if_pos g2, if_pos k2, if_neg k3, hwm]
                exact eb
            · obtain ⟨b, eb, hb⟩ := next (fun _ h => k2 h.1.symm)
              refine ⟨b, up ?_, hb⟩
              simp only [spec_PoolOk.l1, if_pos g1, if_pos h0, if_pos h1, if_pos k1, if_pos m0, if_pos g2, if_neg k2, hwm]
              exact eb
          · obtain ⟨b, eb, hb⟩ := next (fun hn _ => by rcases fr with h | h <;> omega)
            refine ⟨b, up ?_, hb⟩
            simp only [spec_PoolOk.l1, if_pos g1, if_pos h0, if_pos h1, if_neg k1, hwm]
            exact eb
      obtain ⟨b, eb, hb⟩ := inner n.toNat 0 (by omega) (by omega) (fun _ i a b => by omega)
      refine ⟨b, up ?_, hb⟩
      simp only [spec_PoolOk.l0, if_pos h1, if_pos h0, ht, Option.bind_some, if_true]
      exact eb
theorem specOk (p : List S41) (hd : Int) : Ev (fun k => spec_PoolOk.f k p hd) (poolB p hd) := by
  unfold spec_PoolOk.f
  by_cases h1 : (p.length : Int) = 8
  · have hlen : p.length = 8 := by omega
    simp only [if_pos h1, l1In_f, Option.bind_some, andB]
    refine up ?_
    by_cases h2 : 0 ≤ hd ∧ hd ≤ 7
    · obtain ⟨b, e, hb⟩ := specOk_l0 p hd hlen 8 0 (by omega) (by omega) (fun j a b => by omega)
      rw [← poolP_iff p hd hlen h2, ← poolB_iff] at hb
      rw [← boolEq hb]
      simp only [yesB h2, Bool.not_true, spec_PoolOk.j0, Bool.false_eq_true, if_false]
      exact e
    · rw [poolB_no fun h => h2 h.hand]
      simp only [notB h2, Bool.not_false, spec_PoolOk.j0, if_true]
      exact Ev.now _
  · simp only [if_neg h1]
    refine up ?_
    rw [poolB_no fun h => h1 (by have := h.len; omega)]
    simp only [spec_PoolOk.j0, if_true]
    exact Ev.now _

theorem rd_at (p : List S41) (j : Int) (h0 : 0 ≤ j) (h1 : j < p.length) : rd_T41 p j = p[j.toNat]'(by omega) := by
  unfold rd_T41
  rw [List.getD_eq_getElem?_getD, List.getElem?_eq_getElem (by omega)]
  rfl
theorem rd_set (p : List S41) (i j : Int) (y : S41) (i0 : 0 ≤ i) (i1 : i < p.length) (j0 : 0 ≤ j) : rd_T41 (p.set i.toNat y) j = if i = j then y else rd_T41 p j := by
  unfold rd_T41
  rw [List.getD_eq_getElem?_getD, List.getD_eq_getElem?_getD, List.getElem?_set]
  by_cases e : i = j
  · subst e
    rw [if_pos rfl, if_pos rfl, if_pos (by omega)]
    rfl
  · rw [if_neg e, if_neg (by omega)]
theorem rd_set_eq (p : List S41) (i : Int) (y : S41) (i0 : 0 ≤ i) (i1 : i < p.length) : rd_T41 (p.set i.toNat y) i = y := by
  rw [rd_set p i i y i0 i1 i0, if_pos rfl]
theorem rd_set_ne (p : List S41) (i j : Int) (y : S41) (i0 : 0 ≤ i) (i1 : i < p.length) (j0 : 0 ≤ j) (h : i ≠ j) : rd_T41 (p.set i.toNat y) j = rd_T41 p j := by
  rw [rd_set p i j y i0 i1 j0, if_neg h]

theorem clone_f (p : List S41) (hd : Int) (hl : p.length ≤ 1000000) : impl_clonePool.f p hd = some (p, hd) := by
  unfold impl_clonePool.f
  have h : ([] : List S41).length + p.length < 3518437208883 := by simp; omega
  simp only [Option.bind_some, if_pos h, List.nil_append]
theorem copy_f (p : List S41) (hd : Int) (hl : p.length ≤ 1000000) : spec_l10Copy.f p hd = some (p, hd) := by
  unfold spec_l10Copy.f
  have h : ([] : List S41).length + p.length < 3518437208883 := by simp; omega
  simp only [Option.bind_some, if_pos h, List.nil_append]
theorem frame_f3 {x : S41} (h : FrOk x) : 0 ≤ x.f3 ∧ x.f3 ≤ 99999 := by rcases h with h | h <;> omega

/-- Does a frame count for a house. -/
def one (x : S41) (h : Int) : Nat := if x.f1 > 0 ∧ x.f0 = h then 1 else 0
theorem cntTo_set (p : List S41) (h i : Int) (y : S41) (i0 : 0 ≤ i) (i1 : i < p.length) : ∀ n : Nat, n ≤ p.length →
    cntTo (p.set i.toNat y) h n + (if i < n then one (rd_T41 p i) h else 0) = cntTo p h n + (if i < n then one y h else 0)
  | 0, _ => by rw [if_neg (by omega), if_neg (by omega)]; rfl
  | n + 1, hn => by
    have ih := cntTo_set p h i y i0 i1 n (by omega)
    have e := rd_set p i n y i0 i1 (by omega)
    have h1 : ∀ q : List S41, cntTo q h (n + 1) = cntTo q h n + one (rd_T41 q n) h := fun q => rfl
    rw [h1, h1, e]
    by_cases c : i = (n : Int)
    · subst c
      rw [if_neg (by omega), if_neg (by omega)] at ih
      rw [if_pos rfl, if_pos (by omega), if_pos (by omega)]
      omega
    · rw [if_neg c]
      by_cases d : i < (n : Int)
      · rw [if_pos d, if_pos d] at ih
        rw [if_pos (by omega), if_pos (by omega)]
        omega
      · rw [if_neg d, if_neg d] at ih
        rw [if_neg (by omega), if_neg (by omega)]
        omega
theorem cnt_set (p : List S41) (h i : Int) (y : S41) (i0 : 0 ≤ i) (i1 : i < p.length) : cnt (p.set i.toNat y) h + one (rd_T41 p i) h = cnt p h + one y h := by
  have := cntTo_set p h i y i0 i1 p.length (Nat.le_refl _)
  rw [if_pos i1, if_pos i1] at this
  unfold cnt
  rw [List.length_set]
  exact this
theorem one_le (x : S41) (h : Int) : one x h ≤ 1 := by unfold one; split <;> omega
/-- Is a frame passed over by a full house. -/
def skip (own : Bool) (h : Int) (x : S41) : Bool := own && (decide (x.f1 = 0) || decide (x.f0 ≠ h))
/-- The hand goes round: at most so many frames. -/
def vict (own : Bool) (h : Int) : Nat → List S41 → Int → List S41 × Int × Int
  | 0, p, a => (p, a, -1)
  | d + 1, p, a =>
    if skip own h (rd_T41 p a) = true then vict own h d p ((a + 1) % 8)
    else if (rd_T41 p a).f3 > 0 then vict own h d p ((a + 1) % 8)
    else if (rd_T41 p a).f4 = true then vict own h d (p.set a.toNat ⟨(rd_T41 p a).f0, (rd_T41 p a).f1, (rd_T41 p a).f2, (rd_T41 p a).f3, false⟩) ((a + 1) % 8)
    else (p, (a + 1) % 8, a)
theorem tmod8 {a : Int} (h : 0 ≤ a) : Int.tmod a 8 = a % 8 := Int.tmod_eq_emod_of_nonneg h
theorem specVict (h : Int) (own : Bool) : ∀ (d : Nat) (n : Int) (p : List S41) (a : Int), 0 ≤ n → n + d = 17 → p.length = 8 → 0 ≤ a → a ≤ 7 →
    Ev (fun k => spec_l10Victim.l0 k h own n p a) (vict own h d p a) := by
  intro d
  induction d with
  | zero =>
    intro n p a n0 hd hl a0 a1
    have h1 : ¬ n < 17 := by omega
    refine up ?_
    simp only [spec_l10Victim.l0, if_neg h1, vict]
    exact Ev.now _
  | succ d ih =>
    intro n p a n0 hd hl a0 a1
    have h1 : n < 17 := by omega
    have h2 : a < (p.length : Int) := by omega
    have hw : wrap64 (n + 1) = n + 1 := wz (by omega)
    have ha : Int.tmod (wrap64 (a + 1)) 8 = (a + 1) % 8 := by rw [wz (by omega), tmod8 (by omega)]
    have next : ∀ q : List S41, q.length = 8 → Ev (fun k => spec_l10Victim.l0 k h own (n + 1) q ((a + 1) % 8)) (vict own h d q ((a + 1) % 8)) :=
      fun q hq => ih (n + 1) q ((a + 1) % 8) (by omega) (by omega) hq (by omega) (by omega)
    have tail : ∀ s : Bool, s = skip own h (rd_T41 p a) → Ev (fun k => spec_l10Victim.j1 k h own n a s p ((a + 1) % 8) (rd_T41 p a).f0 (rd_T41 p a).f1 (rd_T41 p a).f2 (rd_T41 p a).f3 (rd_T41 p a).f4) (vict own h (d + 1) p a) := by
      intro s hs
      refine up ?_
      simp only [vict, ← hs, spec_l10Victim.j1, hw]
      cases s with
      | true => simp only [if_true]; exact next p hl
      | false =>
        simp only [Bool.false_eq_true, if_false]
        by_cases c3 : (rd_T41 p a).f3 > 0
        · simp only [if_pos c3]; exact next p hl
        · simp only [if_neg c3]
          cases c4 : (rd_T41 p a).f4 with
          | true =>
            simp only [if_true, if_pos a0, if_pos h2]
            exact next _ (by rw [List.length_set]; exact hl)
          | false =>
            simp only [Bool.false_eq_true, if_false]
            exact Ev.now _
    refine up ?_
    simp only [spec_l10Victim.l0, if_pos h1, if_pos a0, if_pos h2, ha]
    cases own with
    | false => simp only [Bool.false_eq_true, if_false]; exact tail false rfl
    | true =>
      simp only [if_true]
      by_cases c1 : (rd_T41 p a).f1 = 0
      · simp only [if_pos c1]; exact tail true (by simp [skip, c1])
      · simp only [if_neg c1]; exact tail _ (by by_cases c0 : (rd_T41 p a).f0 = h <;> simp [skip, c1, c0])
/-- What the loop of the program's take gives out of the hand's round. -/
def afterV (p0 : List S41) (hd0 h e b : Int) (q : List S41 × Int × Int) : List S41 × Int × Int × Int :=
  if q.2.2 < 0 then (p0, hd0, 0, 2) else (q.1.set q.2.2.toNat ⟨h, e, b, 1, true⟩, q.2.1, q.2.2, 1)
/-- What take gives: r is the frame that was found. -/
def takeM (p : List S41) (hd h e b r : Int) : List S41 × Int × Int × Int :=
  if r ≥ 0 then (if (rd_T41 p r).f3 ≥ 99999 ∨ (rd_T41 p r).f0 ≠ h then (p, hd, 0, 3) else (p.set r.toNat ⟨(rd_T41 p r).f0, (rd_T41 p r).f1, (rd_T41 p r).f2, (rd_T41 p r).f3 + 1, true⟩, hd, r, 0))
  else afterV p hd h e b (vict (decide ((cnt p h : Int) ≥ 5)) h 17 p hd)
theorem hit_twice (p : List S41) (r : Int) (r0 : 0 ≤ r) (r1 : r < p.length) (w : Int) :
    (p.set r.toNat (⟨(rd_T41 p r).f0, (rd_T41 p r).f1, (rd_T41 p r).f2, w, (rd_T41 p r).f4⟩ : S41)).set r.toNat
      (⟨(rd_T41 (p.set r.toNat (⟨(rd_T41 p r).f0, (rd_T41 p r).f1, (rd_T41 p r).f2, w, (rd_T41 p r).f4⟩ : S41)) r).f0, (rd_T41 (p.set r.toNat (⟨(rd_T41 p r).f0, (rd_T41 p r).f1, (rd_T41 p r).f2, w, (rd_T41 p r).f4⟩ : S41)) r).f1, (rd_T41 (p.set r.toNat (⟨(rd_T41 p r).f0, (rd_T41 p r).f1, (rd_T41 p r).f2, w, (rd_T41 p r).f4⟩ : S41)) r).f2, (rd_T41 (p.set r.toNat (⟨(rd_T41 p r).f0, (rd_T41 p r).f1, (rd_T41 p r).f2, w, (rd_T41 p r).f4⟩ : S41)) r).f3, true⟩ : S41)
    = p.set r.toNat ⟨(rd_T41 p r).f0, (rd_T41 p r).f1, (rd_T41 p r).f2, w, true⟩ := by
  rw [rd_set_eq p r _ r0 r1, List.set_set]
theorem specFind (p : List S41) (h e b r : Int) (hl : p.length ≤ 1000000) (hr : FindP p e b r) : Ev (fun k => spec_l10Find.f k p h e b) r := by
  have main : ∀ (d : Nat) (i : Int), 0 ≤ i → i + d = p.length → (∀ j : Int, 0 ≤ j → j < i → ¬ Mt p e b j) → Ev (fun k => spec_l10Find.l0 k e b i p h) r := by
    intro d
    induction d with
    | zero =>
      intro i h0 hd hn
      have h1 : ¬ i < (p.length : Int) := by omega
      refine up ?_
      simp only [spec_l10Find.l0, if_neg h1]
      rw [hr.uniq (.inl ⟨rfl, fun j a b => hn j a (by omega)⟩)]
      exact Ev.now _
    | succ d ih =>
      intro i h0 hd hn
      have h1 : i < (p.length : Int) := by omega
      have hw : wrap64 (i + 1) = i + 1 := wz (by omega)
      have next : ¬ Mt p e b i → Ev (fun k => spec_l10Find.l0 k e b (i + 1) p h) r := fun hm => ih (i + 1) (by omega) (by omega) (fun j a b => by
        by_cases ej : j = i
        · subst ej; exact hm
        · exact hn j a (by omega))
      refine up ?_
      by_cases c1 : (rd_T41 p i).f1 = e
      · by_cases c2 : (rd_T41 p i).f2 = b
        · simp only [spec_l10Find.l0, if_pos h1, if_pos h0, if_pos c1, if_pos c2]
          rw [hr.uniq (.inr ⟨h0, h1, ⟨c1, c2⟩, hn⟩)]
          exact Ev.now _
        · simp only [spec_l10Find.l0, if_pos h1, if_pos h0, if_pos c1, if_neg c2, hw]
          exact next (fun hm => c2 hm.2)
      · simp only [spec_l10Find.l0, if_pos h1, if_pos h0, if_neg c1, hw]
        exact next (fun hm => c1 hm.1)
  exact main p.length 0 (by omega) (by omega) (fun j a b => by omega)
theorem FindP.range {p : List S41} {e b r : Int} (h : FindP p e b r) (g : r ≥ 0) : r < p.length ∧ Mt p e b r := by
  rcases h with ⟨h, _⟩ | ⟨_, h1, h2, _⟩
  · omega
  · exact ⟨h1, h2⟩
/-- What the hand's round leaves as it was. -/
structure VInv (own : Bool) (h : Int) (p : List S41) (q : List S41 × Int × Int) : Prop where
  len : q.1.length = 8
  hand : 0 ≤ q.2.1 ∧ q.2.1 ≤ 7
  v : q.2.2 = -1 ∨ (0 ≤ q.2.2 ∧ q.2.2 ≤ 7)
  same : ∀ j : Int, 0 ≤ j → (rd_T41 q.1 j).f0 = (rd_T41 p j).f0 ∧ (rd_T41 q.1 j).f1 = (rd_T41 p j).f1 ∧ (rd_T41 q.1 j).f2 = (rd_T41 p j).f2 ∧ (rd_T41 q.1 j).f3 = (rd_T41 p j).f3 ∧ ((rd_T41 p j).f4 = false → (rd_T41 q.1 j).f4 = false)
  got : 0 ≤ q.2.2 → skip own h (rd_T41 p q.2.2) = false ∧ ¬ (rd_T41 p q.2.2).f3 > 0
theorem skip_same {own : Bool} {h : Int} {x y : S41} (h0 : x.f0 = y.f0) (h1 : x.f1 = y.f1) : skip own h x = skip own h y := by unfold skip; rw [h0, h1]
theorem vict_inv (own : Bool) (h : Int) : ∀ (d : Nat) (p : List S41) (a : Int), p.length = 8 → 0 ≤ a → a ≤ 7 → VInv own h p (vict own h d p a) := by
  intro d
  induction d with
  | zero =>
    intro p a hl a0 a1
    exact ⟨hl, ⟨a0, a1⟩, .inl rfl, fun j _ => ⟨rfl, rfl, rfl, rfl, fun h => h⟩, fun h => absurd h (by simp [vict])⟩
  | succ d ih =>
    intro p a hl a0 a1
    simp only [vict]
    by_cases c : skip own h (rd_T41 p a) = true
    · rw [if_pos c]; exact ih p _ hl (by omega) (by omega)
    · rw [if_neg c]
      by_cases c3 : (rd_T41 p a).f3 > 0
      · rw [if_pos c3]; exact ih p _ hl (by omega) (by omega)
      · rw [if_neg c3]
        by_cases c4 : (rd_T41 p a).f4 = true
        · rw [if_pos c4]
          have k := ih (p.set a.toNat ⟨(rd_T41 p a).f0, (rd_T41 p a).f1, (rd_T41 p a).f2, (rd_T41 p a).f3, false⟩) ((a + 1) % 8) (by rw [List.length_set]; exact hl) (by omega) (by omega)
          have e : ∀ j : Int, 0 ≤ j → (rd_T41 (p.set a.toNat ⟨(rd_T41 p a).f0, (rd_T41 p a).f1, (rd_T41 p a).f2, (rd_T41 p a).f3, false⟩) j).f0 = (rd_T41 p j).f0 ∧ (rd_T41 (p.set a.toNat ⟨(rd_T41 p a).f0, (rd_T41 p a).f1, (rd_T41 p a).f2, (rd_T41 p a).f3, false⟩) j).f1 = (rd_T41 p j).f1 ∧ (rd_T41 (p.set a.toNat ⟨(rd_T41 p a).f0, (rd_T41 p a).f1, (rd_T41 p a).f2, (rd_T41 p a).f3, false⟩) j).f2 = (rd_T41 p j).f2 ∧ (rd_T41 (p.set a.toNat ⟨(rd_T41 p a).f0, (rd_T41 p a).f1, (rd_T41 p a).f2, (rd_T41 p a).f3, false⟩) j).f3 = (rd_T41 p j).f3 ∧ ((rd_T41 p j).f4 = false → (rd_T41 (p.set a.toNat ⟨(rd_T41 p a).f0, (rd_T41 p a).f1, (rd_T41 p a).f2, (rd_T41 p a).f3, false⟩) j).f4 = false) := by
            intro j j0
            rw [rd_set p a j _ a0 (by omega) j0]
            by_cases ej : a = j
            · subst ej
              rw [if_pos rfl]
              exact ⟨rfl, rfl, rfl, rfl, fun _ => rfl⟩
            · rw [if_neg ej]
              exact ⟨rfl, rfl, rfl, rfl, fun h => h⟩
          refine ⟨k.len, k.hand, k.v, fun j j0 => ?_, fun hv => ?_⟩
          · obtain ⟨s0, s1, s2, s3, s4⟩ := k.same j j0
            obtain ⟨t0, t1, t2, t3, t4⟩ := e j j0
            exact ⟨s0.trans t0, s1.trans t1, s2.trans t2, s3.trans t3, fun h => s4 (t4 h)⟩
          · obtain ⟨g1, g2⟩ := k.got hv
            obtain ⟨t0, t1, t2, t3, _⟩ := e _ hv
            exact ⟨(skip_same t0 t1).symm.trans g1, by rw [← t3]; exact g2⟩
        · rw [if_neg c4]
          exact ⟨hl, ⟨by show 0 ≤ (a + 1) % 8; omega, by show (a + 1) % 8 ≤ 7; omega⟩, .inr ⟨a0, a1⟩, fun j _ => ⟨rfl, rfl, rfl, rfl, fun h => h⟩, fun _ => ⟨by simpa using c, c3⟩⟩
theorem specTakeM (p : List S41) (hd h e b r : Int) (hp : PoolP p hd) (hr : FindP p e b r) : Ev (fun k => spec_l10Take.f k p hd h e b) (takeM p hd h e b r) := by
  have hl := hp.len
  unfold spec_l10Take.f takeM
  simp only [copy_f p hd (by omega), Option.bind_some]
  refine bd (specFind p hd e b r (by omega) hr) ?_
  by_cases g : r ≥ 0
  · have g1 := (hr.range g).1
    have f3 := frame_f3 (hp.fr r g (by omega))
    have g0 : 0 ≤ r := g
    simp only [if_pos g, if_pos g0, if_pos g1]
    by_cases c3 : (rd_T41 p r).f3 ≥ 99999
    · simp only [if_pos c3, c3, true_or, if_true]; exact Ev.now _
    · by_cases c0 : (rd_T41 p r).f0 = h
      · have c0' : ¬ ((rd_T41 p r).f3 ≥ 99999 ∨ (rd_T41 p r).f0 ≠ h) := fun x => x.elim c3 (fun y => y c0)
        have hw : wrap64 ((rd_T41 p r).f3 + 1) = (rd_T41 p r).f3 + 1 := wz (by omega)
        simp only [if_neg c3, if_pos c0, if_neg c0', hw, hit_twice p r g0 g1]
        exact Ev.now _
      · have c0' : (rd_T41 p r).f3 ≥ 99999 ∨ (rd_T41 p r).f0 ≠ h := .inr c0
        simp only [if_neg c3, if_neg c0, if_pos c0']; exact Ev.now _
  · simp only [if_neg g]
    have hv : Ev (fun k => spec_l10Victim.f k p hd h) (vict (decide ((cnt p h : Int) ≥ 5)) h 17 p hd) := by
      unfold spec_l10Victim.f
      refine bd (specOf p hd h (by omega)) ?_
      exact specVict h _ 17 0 p hd (by omega) (by omega) hl hp.hand.1 hp.hand.2
    refine bd hv ?_
    unfold afterV
    generalize hq : vict (decide ((cnt p h : Int) ≥ 5)) h 17 p hd = q
    by_cases c : q.2.2 < 0
    · simp only [if_pos c]; exact Ev.now _
    · have k := vict_inv (decide ((cnt p h : Int) ≥ 5)) h 17 p hd hl hp.hand.1 hp.hand.2
      rw [hq] at k
      have k1 : 0 ≤ q.2.2 := by omega
      have k2 : q.2.2 < (q.1.length : Int) := by have := k.v; have := k.len; omega
      simp only [if_neg c, if_pos k1, if_pos k2]; exact Ev.now _
/-- What PoolTake gives. -/
def takeAll (ok : Bool) (p : List S41) (hd h e b r : Int) : List S41 × Int × Int × Int :=
  if ok = true then (if (0 ≤ h ∧ h ≤ 1) ∧ (1 ≤ e ∧ e ≤ 99999) ∧ (0 ≤ b ∧ b ≤ 23) then takeM p hd h e b r else (p, hd, 0, 3)) else ([], 0, 0, 3)

theorem cntTo_same {p q : List S41} (h : Int) (hs : ∀ j : Int, 0 ≤ j → (rd_T41 q j).f0 = (rd_T41 p j).f0 ∧ (rd_T41 q j).f1 = (rd_T41 p j).f1) : ∀ n, cntTo q h n = cntTo p h n
  | 0 => rfl
  | n + 1 => by
    simp only [cntTo]
    rw [cntTo_same h hs n, (hs n (by omega)).1, (hs n (by omega)).2]
theorem cnt_same {p q : List S41} (h : Int) (hl : q.length = p.length) (hs : ∀ j : Int, 0 ≤ j → (rd_T41 q j).f0 = (rd_T41 p j).f0 ∧ (rd_T41 q j).f1 = (rd_T41 p j).f1) : cnt q h = cnt p h := by
  unfold cnt
  rw [hl]
  exact cntTo_same h hs _
theorem PoolP.same {p q : List S41} {hd hd' : Int} (hp : PoolP p hd) (hl : q.length = 8) (hh : 0 ≤ hd' ∧ hd' ≤ 7)
    (hs : ∀ j : Int, 0 ≤ j → (rd_T41 q j).f0 = (rd_T41 p j).f0 ∧ (rd_T41 q j).f1 = (rd_T41 p j).f1 ∧ (rd_T41 q j).f2 = (rd_T41 p j).f2) (hf : ∀ j : Int, 0 ≤ j → j < 8 → FrOk (rd_T41 q j)) : PoolP q hd' := by
  have s2 : ∀ j : Int, 0 ≤ j → (rd_T41 q j).f0 = (rd_T41 p j).f0 ∧ (rd_T41 q j).f1 = (rd_T41 p j).f1 := fun j a => ⟨(hs j a).1, (hs j a).2.1⟩
  have hpl := hp.len
  refine ⟨hl, hh, hf, fun i j i0 ij j8 hn => ?_, ?_, ?_⟩
  · have a := hs i i0
    have b := hs j (by omega)
    rintro ⟨m1, m2⟩
    refine hp.once i j i0 ij j8 (by rw [← b.2.1]; exact hn) ⟨?_, ?_⟩
    · rw [← a.2.1, ← b.2.1]; exact m1
    · rw [← a.2.2, ← b.2.2]; exact m2
  · rw [cnt_same 0 (by omega) s2]; exact hp.c0
  · rw [cnt_same 1 (by omega) s2]; exact hp.c1
/-- The four ways of take. -/
theorem takeM_ways (p : List S41) (hd h e b r : Int) :
    (r ≥ 0 ∧ ((rd_T41 p r).f3 ≥ 99999 ∨ (rd_T41 p r).f0 ≠ h) ∧ takeM p hd h e b r = (p, hd, 0, 3)) ∨
    (r ≥ 0 ∧ (rd_T41 p r).f3 < 99999 ∧ (rd_T41 p r).f0 = h ∧ takeM p hd h e b r = (p.set r.toNat ⟨(rd_T41 p r).f0, (rd_T41 p r).f1, (rd_T41 p r).f2, (rd_T41 p r).f3 + 1, true⟩, hd, r, 0)) ∨
    (r < 0 ∧ (vict (decide ((cnt p h : Int) ≥ 5)) h 17 p hd).2.2 < 0 ∧ takeM p hd h e b r = (p, hd, 0, 2)) ∨
    (r < 0 ∧ 0 ≤ (vict (decide ((cnt p h : Int) ≥ 5)) h 17 p hd).2.2 ∧ takeM p hd h e b r = ((vict (decide ((cnt p h : Int) ≥ 5)) h 17 p hd).1.set (vict (decide ((cnt p h : Int) ≥ 5)) h 17 p hd).2.2.toNat ⟨h, e, b, 1, true⟩, (vict (decide ((cnt p h : Int) ≥ 5)) h 17 p hd).2.1, (vict (decide ((cnt p h : Int) ≥ 5)) h 17 p hd).2.2, 1)) := by
  unfold takeM afterV
  by_cases g : r ≥ 0
  · by_cases c : (rd_T41 p r).f3 ≥ 99999 ∨ (rd_T41 p r).f0 ≠ h
    · exact .inl ⟨g, c, by rw [if_pos g, if_pos c]⟩
    · refine .inr (.inl ⟨g, ?_, ?_, by rw [if_pos g, if_neg c]⟩)
      · exact Int.not_le.1 fun x => c (.inl x)
      · exact Classical.not_not.1 fun x => c (.inr x)
  · by_cases c : (vict (decide ((cnt p h : Int) ≥ 5)) h 17 p hd).2.2 < 0
    · exact .inr (.inr (.inl ⟨by omega, c, by rw [if_neg g, if_pos c]⟩))
    · exact .inr (.inr (.inr ⟨by omega, by omega, by rw [if_neg g, if_neg c]⟩))
theorem hit_ok {p : List S41} {hd e b r : Int} (hp : PoolP p hd) (hr : FindP p e b r) (he : 1 ≤ e ∧ e ≤ 99999) (g : r ≥ 0) (c : (rd_T41 p r).f3 < 99999) :
    PoolP (p.set r.toNat ⟨(rd_T41 p r).f0, (rd_T41 p r).f1, (rd_T41 p r).f2, (rd_T41 p r).f3 + 1, true⟩) hd := by
  have hl := hp.len
  obtain ⟨g1, m1, m2⟩ := hr.range g
  have fr := hp.fr r g (by omega)
  refine hp.same (by rw [List.length_set]; exact hl) hp.hand (fun j j0 => ?_) (fun j j0 j8 => ?_)
  · rw [rd_set p r j _ g g1 j0]
    by_cases ej : r = j
    · subst ej; rw [if_pos rfl]; exact ⟨rfl, rfl, rfl⟩
    · rw [if_neg ej]; exact ⟨rfl, rfl, rfl⟩
  · rw [rd_set p r j _ g g1 j0]
    by_cases ej : r = j
    · subst ej
      rw [if_pos rfl]
      rcases fr with fr | fr
      · omega
      · right; simp only; omega
    · rw [if_neg ej]; exact hp.fr j j0 j8
theorem let_ok {p : List S41} {hd r : Int} (hp : PoolP p hd) (g : 0 ≤ r) (g1 : r ≤ 7) (c : (rd_T41 p r).f3 ≠ 0) :
    PoolP (p.set r.toNat ⟨(rd_T41 p r).f0, (rd_T41 p r).f1, (rd_T41 p r).f2, (rd_T41 p r).f3 - 1, (rd_T41 p r).f4⟩) hd := by
  have hl := hp.len
  have fr := hp.fr r g (by omega)
  refine hp.same (by rw [List.length_set]; exact hl) hp.hand (fun j j0 => ?_) (fun j j0 j8 => ?_)
  · rw [rd_set p r j _ g (by omega) j0]
    by_cases ej : r = j
    · subst ej; rw [if_pos rfl]; exact ⟨rfl, rfl, rfl⟩
    · rw [if_neg ej]; exact ⟨rfl, rfl, rfl⟩
  · rw [rd_set p r j _ g (by omega) j0]
    by_cases ej : r = j
    · subst ej
      rw [if_pos rfl]
      rcases fr with fr | fr
      · omega
      · right; simp only; omega
    · rw [if_neg ej]; exact hp.fr j j0 j8
theorem miss_ok {p : List S41} {hd h e b : Int} {q : List S41 × Int × Int} (hp : PoolP p hd) (hn : ∀ j : Int, 0 ≤ j → j < p.length → ¬ Mt p e b j) (hh : 0 ≤ h ∧ h ≤ 1) (he : 1 ≤ e ∧ e ≤ 99999) (hb : 0 ≤ b ∧ b ≤ 23)
    (hq : VInv (decide ((cnt p h : Int) ≥ 5)) h p q) (g : 0 ≤ q.2.2) : PoolP (q.1.set q.2.2.toNat ⟨h, e, b, 1, true⟩) q.2.1 := by
  have hl := hp.len
  have ql := hq.len
  have qv : q.2.2 ≤ 7 := by have := hq.v; omega
  have v1 : q.2.2 < (q.1.length : Int) := by omega
  have hq' : PoolP q.1 q.2.1 := hp.same ql hq.hand (fun j j0 => ⟨(hq.same j j0).1, (hq.same j j0).2.1, (hq.same j j0).2.2.1⟩) (fun j j0 j8 => by
    obtain ⟨s0, s1, s2, s3, s4⟩ := hq.same j j0
    rcases hp.fr j j0 j8 with f | f
    · left
      exact ⟨s1.trans f.1, s0.trans f.2.1, s2.trans f.2.2.1, s3.trans f.2.2.2.1, s4 f.2.2.2.2⟩
    · right; rw [s0, s1, s2, s3]; exact f)
  have hn' : ∀ j : Int, 0 ≤ j → j < 8 → ¬ Mt q.1 e b j := fun j j0 j8 m => hn j j0 (by omega) ⟨by rw [← (hq.same j j0).2.1]; exact m.1, by rw [← (hq.same j j0).2.2.1]; exact m.2⟩
  have cle : ∀ h' : Int, (h' = 0 ∨ h' = 1) → cnt (q.1.set q.2.2.toNat ⟨h, e, b, 1, true⟩) h' ≤ 5 := by
    intro h' h01
    have cs := cnt_set q.1 h' q.2.2 ⟨h, e, b, 1, true⟩ g v1
    have ceq : cnt q.1 h' = cnt p h' := cnt_same h' (by omega) (fun j j0 => ⟨(hq.same j j0).1, (hq.same j j0).2.1⟩)
    have c5 : cnt p h' ≤ 5 := by rcases h01 with rfl | rfl; exact hp.c0; exact hp.c1
    have oy : one (⟨h, e, b, 1, true⟩ : S41) h' = if h = h' then 1 else 0 := by
      unfold one
      by_cases x : h = h'
      · rw [if_pos x, if_pos ⟨by show e > 0; omega, x⟩]
      · rw [if_neg x, if_neg fun y => x y.2]
    by_cases x : h = h'
    · subst x
      rw [if_pos rfl] at oy
      by_cases own : (cnt p h : Int) ≥ 5
      · have gk := (hq.got g).1
        rw [yesB own] at gk
        have s := hq.same q.2.2 g
        have f0 : (rd_T41 p q.2.2).f0 = h := by
          by_cases z : (rd_T41 p q.2.2).f0 = h
          · exact z
          · simp [skip, z] at gk
        have f1 : (rd_T41 p q.2.2).f1 ≠ 0 := fun z => by simp [skip, z] at gk
        have fr := hp.fr q.2.2 g (by omega)
        have o1 : one (rd_T41 q.1 q.2.2) h = 1 := by
          unfold one
          rw [s.1, s.2.1, if_pos ⟨by rcases fr with f | f <;> omega, f0⟩]
        omega
      · omega
    · rw [if_neg x] at oy
      omega
  refine ⟨by rw [List.length_set]; exact ql, hq.hand, fun j j0 j8 => ?_, fun i j i0 ij j8 => ?_, cle 0 (.inl rfl), cle 1 (.inr rfl)⟩
  · rw [rd_set q.1 q.2.2 j _ g v1 j0]
    by_cases ej : q.2.2 = j
    · rw [if_pos ej]; right; exact ⟨hh.1, hh.2, he.1, he.2, hb.1, hb.2, by show (0 : Int) ≤ 1; omega, by show (1 : Int) ≤ 99999; omega⟩
    · rw [if_neg ej]; exact hq'.fr j j0 j8
  · unfold Mt
    rw [rd_set q.1 q.2.2 j _ g v1 (by omega), rd_set q.1 q.2.2 i _ g v1 i0]
    by_cases ej : q.2.2 = j
    · rw [if_pos ej, if_neg (by omega)]
      intro _ m
      exact hn' i i0 (by omega) m
    · by_cases ei : q.2.2 = i
      · rw [if_neg ej, if_pos ei]
        intro _ m
        exact hn' j (by omega) j8 ⟨m.1.symm, m.2.symm⟩
      · rw [if_neg ej, if_neg ei]
        exact fun hne m => hq'.once i j i0 ij j8 hne m
/-- Whatever take gives is a pool. -/
theorem takeM_pool {p : List S41} {hd h e b r : Int} (hp : PoolP p hd) (hr : FindP p e b r) (hh : 0 ≤ h ∧ h ≤ 1) (he : 1 ≤ e ∧ e ≤ 99999) (hb : 0 ≤ b ∧ b ≤ 23) : PoolP (takeM p hd h e b r).1 (takeM p hd h e b r).2.1 := by
  rcases takeM_ways p hd h e b r with ⟨_, _, w⟩ | ⟨g, c, _, w⟩ | ⟨_, _, w⟩ | ⟨g, v, w⟩
  · rw [w]; exact hp
  · rw [w]; exact hit_ok hp hr he g c
  · rw [w]; exact hp
  · rw [w]
    refine miss_ok hp ?_ hh he hb (vict_inv _ h 17 p hd hp.len hp.hand.1 hp.hand.2) v
    rcases hr with ⟨_, hn⟩ | ⟨h0, _⟩
    · exact hn
    · omega

theorem open_f (l : List Int) : spec_l1Open.f l = some (l.take 2000, 0) := by
  unfold spec_l1Open.f
  by_cases h : (l.length : Int) > 2000
  · have h2 : 2000 ≤ (l.length : Int) := by omega
    rw [if_pos h, if_pos h2]
  · rw [if_neg h, List.take_of_length_le (by omega)]
/-- The bytes of a code that is read. -/
structure Code (b : List Int) : Prop where
  byte : ∀ x ∈ b, 0 ≤ x ∧ x ≤ 255
  len : b.length ≤ 2000
theorem Code.of {l : List Int} (h : ∀ x ∈ l, (Lit.int .u8 x).wf = true) : Code (l.take 2000) :=
  ⟨fun x hx => wf_u8 (h x (List.mem_of_mem_take hx)), by rw [List.length_take]; omega⟩
theorem tmod_range {a n : Int} (ha : 0 ≤ a) (hn : 1 ≤ n) : 0 ≤ Int.tmod a n ∧ Int.tmod a n < n := ⟨Int.tmod_nonneg n ha, Int.tmod_lt_of_pos a (by omega)⟩
theorem pick_main (b : List Int) (hb : Code b) (p n : Int) (hp : 0 ≤ p ∧ p ≤ 1000000000000) (hn : 1 ≤ n) (hl : 1 ≤ (b.length : Int)) :
    ∃ v, Ev (fun k => spec_l1Rd_pick.j0 k n false b (p + 1)) (v, p + 1) ∧ 0 ≤ v ∧ v < n := by
  have hl2 : (b.length : Int) ≤ 2000 := by have := hb.len; omega
  have e1 : wrap64 (p + 1 - 1) = p := by rw [wz (by omega)]; omega
  have n0 : ¬ n = 0 := by omega
  by_cases h1 : p < (b.length : Int)
  · have hr := rd_mem (P := fun x => 0 ≤ x ∧ x ≤ 255) hb.byte p hp.1 h1
    have t := tmod_range hr.1 hn
    refine ⟨Int.tmod (rd b p) n, up ?_, t.1, t.2⟩
    have e2 : wrap64 (rd b p) = rd b p := wz (by omega)
    simp only [spec_l1Rd_pick.j0, Bool.false_eq_true, if_false, e1, if_pos h1, if_pos hp.1, if_neg n0, e2]
    exact Ev.now _
  · have l0 : ¬ (b.length : Int) = 0 := by omega
    have t1 := tmod_range hp.1 hl
    have e7 : wrap64 (wrap64 (p * 7) + 3) = p * 7 + 3 := by rw [wz (n := p * 7) (by omega), wz (by omega)]
    have t2 := tmod_range (a := p * 7 + 3) (by omega) hl
    have r1 := rd_mem (P := fun x => 0 ≤ x ∧ x ≤ 255) hb.byte (Int.tmod p b.length) t1.1 t1.2
    have r2 := rd_mem (P := fun x => 0 ≤ x ∧ x ≤ 255) hb.byte (Int.tmod (p * 7 + 3) b.length) t2.1 t2.2
    have d0 : 0 ≤ Int.tdiv p b.length ∧ Int.tdiv p b.length ≤ p := by
      rw [Int.tdiv_eq_ediv_of_nonneg hp.1]
      exact ⟨Int.ediv_nonneg hp.1 (by omega), Int.ediv_le_self _ hp.1⟩
    generalize hx1 : rd b (Int.tmod p b.length) = x1 at *
    generalize hx2 : rd b (Int.tmod (p * 7 + 3) b.length) = x2 at *
    generalize hq : Int.tdiv p b.length = q at *
    have w1 : wrap64 x1 = x1 := wz (by omega)
    have w2 : wrap64 x2 = x2 := wz (by omega)
    have w3 : wrap64 (x1 * 131) = x1 * 131 := wz (by omega)
    have w4 : wrap64 (x2 * 1117) = x2 * 1117 := wz (by omega)
    have w5 : wrap64 (x1 * 131 + x2 * 1117) = x1 * 131 + x2 * 1117 := wz (by omega)
    have w6 : wrap64 (p * 29) = p * 29 := wz (by omega)
    have w7 : wrap64 (x1 * 131 + x2 * 1117 + p * 29) = x1 * 131 + x2 * 1117 + p * 29 := wz (by omega)
    have w8 : wrap64 q = q := wz (by omega)
    have w9 : wrap64 (q * 53) = q * 53 := wz (by omega)
    have wA : wrap64 (x1 * 131 + x2 * 1117 + p * 29 + q * 53) = x1 * 131 + x2 * 1117 + p * 29 + q * 53 := wz (by omega)
    generalize hz : x1 * 131 + x2 * 1117 + p * 29 + q * 53 = z at *
    have z0 : 0 ≤ z ∧ z < 9223372036854775808 := by omega
    have d1 : 0 ≤ Int.tdiv z 64 ∧ Int.tdiv z 64 ≤ z := by
      rw [Int.tdiv_eq_ediv_of_nonneg z0.1]
      omega
    have wB : wrap64 (Int.tdiv z 64) = Int.tdiv z 64 := wz (by omega)
    have hX := xor_nonneg z (Int.tdiv z 64) z0.1 d1.1 z0.2 (by omega)
    have t := tmod_range hX hn
    refine ⟨_, up ?_, t.1, t.2⟩
    simp only [spec_l1Rd_pick.j0, Bool.false_eq_true, if_false, e1, if_neg h1, if_neg l0, if_pos t1.1, if_pos t1.2, e7, if_pos t2.1, if_pos t2.2, if_neg n0, hx1, hx2, hq, w1, w2, w3, w4, w5, w6, w7, w8, w9, hz, wA, wB]
    exact Ev.now _
/-- One number is read: below n; nought where there is none. -/
theorem pick (b : List Int) (hb : Code b) (p n : Int) (hp : 0 ≤ p ∧ p ≤ 1000000000000) :
    ∃ v, Ev (fun k => spec_l1Rd_pick.f k b p n) (v, p + 1) ∧ 0 ≤ v ∧ (1 ≤ n → v < n) := by
  have e0 : wrap64 (p + 1) = p + 1 := wz (by omega)
  unfold spec_l1Rd_pick.f
  by_cases hn : n < 1
  · refine ⟨0, ?_, by omega, by omega⟩
    simp only [if_pos hn, e0]
    refine up ?_
    simp only [spec_l1Rd_pick.j0, if_true]
    exact Ev.now _
  · simp only [if_neg hn, e0]
    by_cases hl : (b.length : Int) = 0
    · refine ⟨0, ?_, by omega, by omega⟩
      have e : ((b.length : Int) == 0) = true := by simpa using hl
      simp only [e]
      refine up ?_
      simp only [spec_l1Rd_pick.j0, if_true]
      exact Ev.now _
    · have e : ((b.length : Int) == 0) = false := by simpa using hl
      simp only [e]
      obtain ⟨v, h1, h2, h3⟩ := pick_main b hb p n hp (by omega) (by omega)
      exact ⟨v, h1, h2, fun _ => h3⟩

/-- What PoolLet gives. -/
def letM (ok : Bool) (p : List S41) (hd r : Int) : List S41 × Int × Bool :=
  if ok = true then (if (0 ≤ r ∧ r ≤ 7) ∧ (rd_T41 p r).f3 ≠ 0 then (p.set r.toNat ⟨(rd_T41 p r).f0, (rd_T41 p r).f1, (rd_T41 p r).f2, (rd_T41 p r).f3 - 1, (rd_T41 p r).f4⟩, hd, true) else (p, hd, false)) else ([], 0, false)
theorem specLet (p : List S41) (hd r : Int) : Ev (fun k => spec_PoolLet.f k p hd r) (letM (poolB p hd) p hd r) := by
  unfold spec_PoolLet.f letM
  refine bd (specOk p hd) ?_
  by_cases ok : poolB p hd = true
  · have hp := poolB_iff.1 ok
    have hl := hp.len
    simp only [if_pos ok, copy_f p hd (by omega), Option.bind_some, l1In_f, andB]
    by_cases g : 0 ≤ r ∧ r ≤ 7
    · have g0 := g.1
      have g1 : r < (p.length : Int) := by omega
      have f3 := frame_f3 (hp.fr r g0 (by omega))
      by_cases c : (rd_T41 p r).f3 = 0
      · have n : ¬ ((0 ≤ r ∧ r ≤ 7) ∧ (rd_T41 p r).f3 ≠ 0) := fun x => x.2 c
        simp only [yesB g, if_true, if_pos g0, if_pos g1, if_pos c, if_neg n]; exact Ev.now _
      · have n : (0 ≤ r ∧ r ≤ 7) ∧ (rd_T41 p r).f3 ≠ 0 := ⟨g, c⟩
        have hw : wrap64 ((rd_T41 p r).f3 - 1) = (rd_T41 p r).f3 - 1 := wz (by omega)
        simp only [yesB g, if_true, if_pos g0, if_pos g1, if_neg c, hw, if_pos n]; exact Ev.now _
    · have n : ¬ ((0 ≤ r ∧ r ≤ 7) ∧ (rd_T41 p r).f3 ≠ 0) := fun x => g x.1
      simp only [notB g, Bool.false_eq_true, if_false, if_neg n]; exact Ev.now _
  · simp only [if_neg ok]; exact Ev.now _

theorem letM_pool {p : List S41} {hd r : Int} (hp : PoolP p hd) : PoolP (letM true p hd r).1 (letM true p hd r).2.1 := by
  unfold letM
  rw [if_pos rfl]
  by_cases c : (0 ≤ r ∧ r ≤ 7) ∧ (rd_T41 p r).f3 ≠ 0
  · rw [if_pos c]; exact let_ok hp c.1.1 c.1.2 c.2
  · rw [if_neg c]; exact hp

theorem cntTo_zero (h : Int) : ∀ n, cntTo (List.replicate 8 z41) h n = 0
  | 0 => rfl
  | n + 1 => by
    simp only [cntTo, cntTo_zero h n]
    have e : rd_T41 (List.replicate 8 z41) (n : Int) = z41 := by
      unfold rd_T41
      rw [List.getD_eq_getElem?_getD, List.getElem?_replicate]
      split <;> rfl
    rw [e, if_neg]
    simp [z41]
theorem new_pool : PoolP (List.replicate 8 z41) 0 := by
  have e : ∀ j : Int, rd_T41 (List.replicate 8 z41) j = z41 := by
    intro j
    unfold rd_T41
    rw [List.getD_eq_getElem?_getD, List.getElem?_replicate]
    split <;> rfl
  refine ⟨by simp, by omega, fun j _ _ => ?_, fun i j _ _ _ hn => ?_, ?_, ?_⟩
  · rw [e]; left; simp [z41]
  · rw [e] at hn; exact absurd rfl hn
  · unfold cnt; rw [cntTo_zero]; omega
  · unfold cnt; rw [cntTo_zero]; omega
theorem drawPool (b : List Int) (hb : Code b) (s : Int) (hs : 0 ≤ s ∧ s ≤ 1000000) : ∃ p hd q, Ev (fun k => spec_l15Pool.f k b s) (p, hd, q) ∧ PoolP p hd ∧ 0 ≤ q ∧ q ≤ s + 100 := by
  have loop : ∀ (d : Nat) (n : Int) (p : List S41) (hd q : Int), n = d → n ≤ 20 → PoolP p hd → 0 ≤ q → q + 4 * n ≤ s + 100 →
      ∃ p' hd' q', Ev (fun k => spec_l15Pool.l0 k n b q p hd) (p', hd', q') ∧ PoolP p' hd' ∧ 0 ≤ q' ∧ q' ≤ s + 100 := by
    intro d
    induction d with
    | zero =>
      intro n p hd q hn h20 hp q0 q1
      have n0 : ¬ n > 0 := by omega
      refine ⟨p, hd, q, up ?_, hp, q0, by omega⟩
      simp only [spec_l15Pool.l0, if_neg n0]
      exact Ev.now _
    | succ d ih =>
      intro n p hd q hn h20 hp q0 q1
      have n0 : n > 0 := by omega
      have hw : wrap64 (n - 1) = n - 1 := wz (by omega)
      obtain ⟨h, h1, a1, b1⟩ := pick b hb q 2 (by omega)
      obtain ⟨e, h2, a2, b2⟩ := pick b hb (q + 1) 2 (by omega)
      obtain ⟨c, h3, a3, b3⟩ := pick b hb (q + 1 + 1) 6 (by omega)
      obtain ⟨v, h4, a4, b4⟩ := pick b hb (q + 1 + 1 + 1) 5 (by omega)
      have c1 := b1 (by omega)
      have c2 := b2 (by omega)
      have c3 := b3 (by omega)
      have we : wrap64 (wrap64 (1 + wrap64 (2 * e)) + h) = 1 + 2 * e + h := by rw [wz (n := 2 * e) (by omega), wz (n := 1 + 2 * e) (by omega), wz (by omega)]
      obtain ⟨r, hr⟩ := find_ex p (1 + 2 * e + h) c (by have := hp.len; omega)
      have hT := specTakeM p hd h (1 + 2 * e + h) c r hp hr
      have hP := takeM_pool (h := h) hp hr (by omega) (by omega) (by omega)
      generalize hX : takeM p hd h (1 + 2 * e + h) c r = x at *
      have tail : ∀ m : Bool, ∃ p' hd' q', Ev (fun k => spec_l15Pool.j1 k n x.2.2.1 m b (q + 1 + 1 + 1) p hd x.1 x.2.1) (p', hd', q') ∧ PoolP p' hd' ∧ 0 ≤ q' ∧ q' ≤ s + 100 := by
        intro m
        cases m with
        | false =>
          obtain ⟨p', hd', q', e1, e2⟩ := ih (n - 1) p hd (q + 1 + 1 + 1) (by omega) (by omega) hp (by omega) (by omega)
          refine ⟨p', hd', q', up ?_, e2⟩
          simp only [spec_l15Pool.j1, Bool.false_eq_true, if_false, hw]
          exact e1
        | true =>
          by_cases cv : v > 0
          · have hL := specLet x.1 x.2.1 x.2.2.1
            rw [poolB_yes hP] at hL
            obtain ⟨p', hd', q', e1, e2⟩ := ih (n - 1) _ _ (q + 1 + 1 + 1 + 1) (by omega) (by omega) (letM_pool (r := x.2.2.1) hP) (by omega) (by omega)
            refine ⟨p', hd', q', up ?_, e2⟩
            simp only [spec_l15Pool.j1, if_true]
            refine bd h4 ?_
            simp only [if_pos cv, hw]
            refine bd hL ?_
            exact e1
          · obtain ⟨p', hd', q', e1, e2⟩ := ih (n - 1) _ _ (q + 1 + 1 + 1 + 1) (by omega) (by omega) hP (by omega) (by omega)
            refine ⟨p', hd', q', up ?_, e2⟩
            simp only [spec_l15Pool.j1, if_true]
            refine bd h4 ?_
            simp only [if_neg cv, hw]
            exact e1
      by_cases c0 : x.2.2.2 = 0
      · obtain ⟨p', hd', q', e1, e2⟩ := tail true
        refine ⟨p', hd', q', up ?_, e2⟩
        simp only [spec_l15Pool.l0, if_pos n0]
        refine bd h1 ?_
        refine bd h2 ?_
        refine bd h3 ?_
        simp only [we]
        refine bd hT ?_
        simp only [if_pos c0]
        exact e1
      · obtain ⟨p', hd', q', e1, e2⟩ := tail (x.2.2.2 == 1)
        refine ⟨p', hd', q', up ?_, e2⟩
        simp only [spec_l15Pool.l0, if_pos n0]
        refine bd h1 ?_
        refine bd h2 ?_
        refine bd h3 ?_
        simp only [we]
        refine bd hT ?_
        simp only [if_neg c0]
        exact e1
  obtain ⟨n, h1, a1, b1⟩ := pick b hb s 20 (by omega)
  have c1 := b1 (by omega)
  obtain ⟨p', hd', q', e1, e2⟩ := loop n.toNat n (List.replicate 8 z41) 0 (s + 1) (by omega) (by omega) new_pool (by omega) (by omega)
  refine ⟨p', hd', q', ?_, e2⟩
  unfold spec_l15Pool.f spec_l10New.f
  have g : (8 : Nat) ≤ 7036874417766 := by omega
  simp only [if_pos g, Option.bind_some]
  refine bd h1 ?_
  exact e1
theorem drawAnyPool (b : List Int) (hb : Code b) (s : Int) (hs : 0 ≤ s ∧ s ≤ 100000) : ∃ p hd q, Ev (fun k => spec_l15AnyPool.f k b s) (p, hd, q) ∧ p.length ≤ 8 ∧ 0 ≤ q ∧ q ≤ s + 200 := by
  obtain ⟨p, hd, q, e0, hp, q0, q1⟩ := drawPool b hb s (by omega)
  have hl := hp.len
  obtain ⟨v1, h1, a1, b1⟩ := pick b hb q 14 (by omega)
  by_cases cv : v1 > 0
  · refine ⟨p, hd, q + 1, ?_, by omega, by omega, by omega⟩
    unfold spec_l15AnyPool.f
    refine bd e0 ?_
    refine bd h1 ?_
    simp only [if_pos cv]
    exact Ev.now _
  · obtain ⟨i, h2, a2, b2⟩ := pick b hb (q + 1) (p.length : Int) (by omega)
    obtain ⟨c, h3, a3, b3⟩ := pick b hb (q + 1 + 1) 6 (by omega)
    obtain ⟨v4, h4, a4, b4⟩ := pick b hb (q + 1 + 1 + 1) 2 (by omega)
    have c2 := b2 (by omega)
    have c4 := b4 (by omega)
    have go : ∀ (p' : List S41) (hd' q' : Int), Ev (fun k => if c = 0 then ((some (([(-1), 8] : List Int) : List Int)).bind fun y295 => ((spec_l1Rd_pick.f k b (q + 1 + 1 + 1) 2).bind fun bt298 => (if 0 ≤ bt298.1 then (if bt298.1 < (y295.length : Int) then (some (p, rd y295 bt298.1, bt298.2)) else (none)) else (none)))) else (if c = 1 then (if 0 ≤ i then (if i < (p.length : Int) then (some ((p.set (i : Int).toNat (⟨(rd_T41 p i).f0, 0, (rd_T41 p i).f2, (rd_T41 p i).f3, (rd_T41 p i).f4⟩ : S41)), hd, q + 1 + 1 + 1)) else (none)) else (none)) else (if c = 2 then (if 0 ≤ i then (if i < (p.length : Int) then (some ((p.set (i : Int).toNat (⟨(rd_T41 p i).f0, (rd_T41 p i).f1, (rd_T41 p i).f2, (-1), (rd_T41 p i).f4⟩ : S41)), hd, q + 1 + 1 + 1)) else (none)) else (none)) else (if c = 3 then (if (p.length : Int) = 0 then (none) else (if 0 ≤ (Int.tmod (wrap64 (i + 1)) (p.length : Int)) then (if (Int.tmod (wrap64 (i + 1)) (p.length : Int)) < (p.length : Int) then (if 0 ≤ i then (if i < (p.length : Int) then (some ((p.set (i : Int).toNat (⟨(rd_T41 p (Int.tmod (wrap64 (i + 1)) (p.length : Int))).f0, (rd_T41 p (Int.tmod (wrap64 (i + 1)) (p.length : Int))).f1, (rd_T41 p (Int.tmod (wrap64 (i + 1)) (p.length : Int))).f2, (rd_T41 p (Int.tmod (wrap64 (i + 1)) (p.length : Int))).f3, (rd_T41 p (Int.tmod (wrap64 (i + 1)) (p.length : Int))).f4⟩ : S41)), hd, q + 1 + 1 + 1)) else (none)) else (none)) else (none)) else (none))) else (if c = 4 then (if 1 ≤ (p.length : Int) then (some ((p.drop (1 : Int).toNat), hd, q + 1 + 1 + 1)) else (none)) else (spec_l15AnyPool.l0 k 0 b (q + 1 + 1 + 1) p hd)))))) (p', hd', q') → Ev (fun k => spec_l15AnyPool.f k b s) (p', hd', q') := by
      intro p' hd' q' h
      unfold spec_l15AnyPool.f
      refine bd e0 ?_
      refine bd h1 ?_
      simp only [if_neg cv, copy_f p hd (by omega), Option.bind_some]
      refine bd h2 ?_
      refine bd h3 ?_
      simp only [Option.bind_some] at h
      exact h
    have i1 : i < (p.length : Int) := c2
    by_cases k0 : c = 0
    · refine ⟨p, rd [(-1), 8] v4, q + 1 + 1 + 1 + 1, go _ _ _ ?_, by omega, by omega, by omega⟩
      have g : v4 < ((([(-1), 8] : List Int).length : Nat) : Int) := by simp; omega
      simp only [if_pos k0, Option.bind_some]
      refine bd h4 ?_
      simp only [if_pos a4, if_pos g]
      exact Ev.now _
    · by_cases k1 : c = 1
      · refine ⟨_, _, _, go _ _ _ (by simp only [if_neg k0, if_pos k1, if_pos a2, if_pos i1]; exact Ev.now _), by rw [List.length_set]; omega, by omega, by omega⟩
      · by_cases k2 : c = 2
        · refine ⟨_, _, _, go _ _ _ (by simp only [if_neg k0, if_neg k1, if_pos k2, if_pos a2, if_pos i1]; exact Ev.now _), by rw [List.length_set]; omega, by omega, by omega⟩
        · by_cases k3 : c = 3
          · have z : ¬ (p.length : Int) = 0 := by omega
            have e1 : wrap64 (i + 1) = i + 1 := wz (by omega)
            have tm := tmod_range (a := i + 1) (n := (p.length : Int)) (by omega) (by omega)
            refine ⟨_, _, _, go _ _ _ (by simp only [if_neg k0, if_neg k1, if_neg k2, if_pos k3, if_neg z, e1, if_pos tm.1, if_pos tm.2, if_pos a2, if_pos i1]; exact Ev.now _), by rw [List.length_set]; omega, by omega, by omega⟩
          · by_cases k4 : c = 4
            · have o : 1 ≤ (p.length : Int) := by omega
              refine ⟨_, _, _, go _ _ _ (by simp only [if_neg k0, if_neg k1, if_neg k2, if_neg k3, if_pos k4, if_pos o]; exact Ev.now _), by rw [List.length_drop]; omega, by omega, by omega⟩
            · have loop : ∀ (d : Nat) (n : Int) (x : List S41), 0 ≤ n → n + d = x.length → x.length = 8 → ∃ p', Ev (fun k => spec_l15AnyPool.l0 k n b (q + 1 + 1 + 1) x hd) (p', hd, q + 1 + 1 + 1) ∧ p'.length ≤ 8 := by
                intro d
                induction d with
                | zero =>
                  intro n x n0 hn hx
                  have g : ¬ n < (x.length : Int) := by omega
                  refine ⟨x, up ?_, by omega⟩
                  simp only [spec_l15AnyPool.l0, if_neg g]
                  exact Ev.now _
                | succ d ih =>
                  intro n x n0 hn hx
                  have g : n < (x.length : Int) := by omega
                  have hw : wrap64 (n + 1) = n + 1 := wz (by omega)
                  obtain ⟨p', e1, e2⟩ := ih (n + 1) (x.set n.toNat (⟨0, 1, n, 0, false⟩ : S41)) (by omega) (by rw [List.length_set]; omega) (by rw [List.length_set]; exact hx)
                  refine ⟨p', up ?_, e2⟩
                  simp only [spec_l15AnyPool.l0, if_pos g, if_pos n0, hw]
                  exact e1
              obtain ⟨p', e1, e2⟩ := loop 8 0 p (by omega) (by omega) hl
              refine ⟨p', _, _, go _ _ _ (by simp only [if_neg k0, if_neg k1, if_neg k2, if_neg k3, if_neg k4]; exact e1), e2, by omega, by omega⟩

/-- What PoolDrop gives. -/
def dropM (ok : Bool) (p : List S41) (hd e : Int) : List S41 × Int := if ok = true then (p.map (drF e), hd) else ([], 0)
theorem dr_z (e : Int) : drF e z41 = z41 := by unfold drF; split <;> rfl
theorem rd_map41 (f : S41 → S41) (hf : f z41 = z41) (p : List S41) (j : Int) : rd_T41 (p.map f) j = f (rd_T41 p j) := by
  unfold rd_T41
  rw [List.getD_eq_getElem?_getD, List.getD_eq_getElem?_getD, List.getElem?_map]
  cases p[j.toNat]? with
  | none => exact hf.symm
  | some x => rfl
theorem step_rd (f : S41 → S41) (p : List S41) (n : Nat) (h : n < p.length) : rd_T41 ((p.take n).map f ++ p.drop n) (n : Int) = rd_T41 p (n : Int) := by
  unfold rd_T41
  rw [List.getD_eq_getElem?_getD, List.getD_eq_getElem?_getD, Int.toNat_natCast, List.getElem?_append_right (by simp; omega), List.getElem?_drop]
  have : n + (n - ((p.take n).map f).length) = n := by simp; omega
  rw [this]
theorem step_next (f : S41 → S41) (p : List S41) (n : Nat) (h : n < p.length) : ((p.take n).map f ++ p.drop n).set n (f (rd_T41 p (n : Int))) = (p.take (n + 1)).map f ++ p.drop (n + 1) := by
  have hl : ((p.take n).map f).length = n := by simp; omega
  rw [List.set_append_right _ _ (by omega), hl, Nat.sub_self, List.drop_eq_getElem_cons h, List.set_cons_zero, List.take_succ_eq_append_getElem h, List.map_append, List.append_assoc]
  have : rd_T41 p (n : Int) = p[n] := by
    unfold rd_T41
    rw [List.getD_eq_getElem?_getD, Int.toNat_natCast, List.getElem?_eq_getElem h]; rfl
  rw [this]
  rfl
theorem step_same (f : S41 → S41) (p : List S41) (n : Nat) (h : n < p.length) (hf : f (rd_T41 p (n : Int)) = rd_T41 p (n : Int)) : (p.take n).map f ++ p.drop n = (p.take (n + 1)).map f ++ p.drop (n + 1) := by
  have : rd_T41 p (n : Int) = p[n] := by
    unfold rd_T41
    rw [List.getD_eq_getElem?_getD, Int.toNat_natCast, List.getElem?_eq_getElem h]; rfl
  rw [this] at hf
  rw [List.drop_eq_getElem_cons h, List.take_succ_eq_append_getElem h, List.map_append, List.append_assoc]
  congr 1
  simp only [List.map_cons, List.map_nil, List.singleton_append, hf]
theorem dr_cnt (p : List S41) (e h : Int) : ∀ n, cntTo (p.map (drF e)) h n ≤ cntTo p h n
  | 0 => Nat.le_refl _
  | n + 1 => by
    have ih := dr_cnt p e h n
    simp only [cntTo]
    rw [rd_map41 (drF e) (dr_z e)]
    have : (if (drF e (rd_T41 p (n : Int))).f1 > 0 ∧ (drF e (rd_T41 p (n : Int))).f0 = h then 1 else 0) ≤ (if (rd_T41 p (n : Int)).f1 > 0 ∧ (rd_T41 p (n : Int)).f0 = h then 1 else 0) := by
      unfold drF
      by_cases c : (rd_T41 p (n : Int)).f1 = e ∧ (rd_T41 p (n : Int)).f3 = 0
      · rw [if_pos c]
        split
        · next g => exact absurd g.1 (by show ¬ (0 : Int) > 0; omega)
        · omega
      · rw [if_neg c]; exact Nat.le_refl _
    omega
theorem drop_ok {p : List S41} {hd : Int} (e : Int) (hp : PoolP p hd) : PoolP (p.map (drF e)) hd := by
  have hr := rd_map41 (drF e) (dr_z e) p
  refine ⟨by simp [hp.len], hp.hand, fun j j0 j1 => ?_, fun i j i0 ij j1 hn => ?_, ?_, ?_⟩
  · rw [hr]
    unfold drF
    split
    · left; exact ⟨rfl, rfl, rfl, rfl, rfl⟩
    · exact hp.fr j j0 j1
  · rw [hr] at hn ⊢
    unfold Mt
    rw [hr]
    by_cases c : (rd_T41 p j).f1 = e ∧ (rd_T41 p j).f3 = 0
    · exact absurd (show (drF e (rd_T41 p j)).f1 = 0 by unfold drF; rw [if_pos c]) hn
    · have ej : drF e (rd_T41 p j) = rd_T41 p j := by unfold drF; rw [if_neg c]
      rw [ej] at hn ⊢
      by_cases d : (rd_T41 p i).f1 = e ∧ (rd_T41 p i).f3 = 0
      · intro g
        have ei : (drF e (rd_T41 p i)).f1 = 0 := by unfold drF; rw [if_pos d]
        rw [ei] at g
        exact hn g.1.symm
      · have ei : drF e (rd_T41 p i) = rd_T41 p i := by unfold drF; rw [if_neg d]
        rw [ei]
        exact hp.once i j i0 ij j1 hn
  · have := dr_cnt p e 0 (p.map (drF e)).length
    have h0 := hp.c0
    unfold cnt at h0 ⊢
    rw [List.length_map] at this ⊢
    omega
  · have := dr_cnt p e 1 (p.map (drF e)).length
    have h0 := hp.c1
    unfold cnt at h0 ⊢
    rw [List.length_map] at this ⊢
    omega

theorem specDropL (p : List S41) (hd e : Int) (hl : p.length ≤ 1000000) : Ev (fun k => spec_l10Drop.f k p hd e) (p.map (drF e), hd) := by
  have main : ∀ (d n : Nat), n + d = p.length → Ev (fun k => spec_l10Drop.l0 k e (n : Int) ((p.take n).map (drF e) ++ p.drop n) hd) (p.map (drF e), hd) := by
    intro d
    induction d with
    | zero =>
      intro n hn
      obtain rfl : n = p.length := by omega
      have el : (p.take p.length).map (drF e) ++ p.drop p.length = p.map (drF e) := by simp
      rw [el]
      have g : ¬ (p.length : Int) < ((p.map (drF e)).length : Int) := by rw [List.length_map]; omega
      refine up ?_
      simp only [spec_l10Drop.l0, if_neg g]
      exact Ev.now _
    | succ d ih =>
      intro n hn
      have hlt : n < p.length := by omega
      have hlen : ((p.take n).map (drF e) ++ p.drop n).length = p.length := by
        rw [List.length_append, List.length_map, List.length_take, List.length_drop]; omega
      have g : (n : Int) < ((((p.take n).map (drF e) ++ p.drop n).length : Nat) : Int) := by rw [hlen]; omega
      have g0 : 0 ≤ (n : Int) := by omega
      have hw : wrap64 ((n : Int) + 1) = ((n + 1 : Nat) : Int) := by rw [wz (by omega)]; omega
      have hr := step_rd (drF e) p n hlt
      have nx := ih (n + 1) (by omega)
      refine up ?_
      by_cases c1 : (rd_T41 p (n : Int)).f1 = e
      · by_cases c2 : (rd_T41 p (n : Int)).f3 = 0
        · have hf : drF e (rd_T41 p (n : Int)) = (⟨0, 0, 0, 0, false⟩ : S41) := by unfold drF; rw [if_pos ⟨c1, c2⟩]
          have hs := step_next (drF e) p n hlt
          rw [hf] at hs
          simp only [spec_l10Drop.l0, if_pos g, if_pos g0, hr, if_pos c1, if_pos c2, hw, Int.toNat_natCast, hs]
          exact nx
        · have hf : drF e (rd_T41 p (n : Int)) = rd_T41 p (n : Int) := by unfold drF; rw [if_neg (fun h => c2 h.2)]
          have hs := step_same (drF e) p n hlt hf
          simp only [spec_l10Drop.l0, if_pos g, if_pos g0, hr, if_pos c1, if_neg c2, hw]
          rw [hs]
          exact nx
      · have hf : drF e (rd_T41 p (n : Int)) = rd_T41 p (n : Int) := by unfold drF; rw [if_neg (fun h => c1 h.1)]
        have hs := step_same (drF e) p n hlt hf
        simp only [spec_l10Drop.l0, if_pos g, if_pos g0, hr, if_neg c1, hw]
        rw [hs]
        exact nx
  unfold spec_l10Drop.f
  simp only [copy_f p hd hl, Option.bind_some]
  have := main p.length 0 (by omega)
  simpa using this
theorem specDrop (p : List S41) (hd e : Int) : Ev (fun k => spec_PoolDrop.f k p hd e) (dropM (poolB p hd) p hd e) := by
  unfold spec_PoolDrop.f dropM
  refine bd (specOk p hd) ?_
  by_cases ok : poolB p hd = true
  · have hl := (poolB_iff.1 ok).len
    simp only [if_pos ok]
    refine bd (specDropL p hd e (by omega)) ?_
    exact Ev.now _
  · simp only [if_neg ok]; exact Ev.now _
theorem implDrop (p : List S41) (hd e : Int) : Ev (fun k => impl_PoolDrop.f k p hd e) (dropM (poolB p hd) p hd e) := by
  unfold impl_PoolDrop.f dropM
  refine bd (implOk p hd) ?_
  by_cases ok : poolB p hd = true
  · have hl := (poolB_iff.1 ok).len
    have g : p.length < 1048577 := by omega
    simp only [if_pos ok]
    unfold impl_Pool_drop.f
    simp only [if_pos g, Option.bind_some]
    exact Ev.now _
  · simp only [if_neg ok]; exact Ev.now _

theorem dropM_len (ok : Bool) (p : List S41) (hd e : Int) : (dropM ok p hd e).1.length ≤ p.length := by
  unfold dropM
  split
  · simp
  · simp

theorem sameTest (x : S41) : (!(x.f0 == x.f0) || (!(x.f1 == x.f1) || (!(x.f2 == x.f2) || (!(x.f3 == x.f3) || (!(x.f4 == x.f4)))))) = false := by simp
theorem whPool (p : List S41) (hd : Int) (hl : p.length ≤ 1000000) : Ev (fun k => laws_whPool.f k p hd p hd) true := by
  have loop : ∀ (d : Nat) (n : Int), 0 ≤ n → n + d = p.length → Ev (fun k => laws_whPool.l0 k n p hd p hd) true := by
    intro d
    induction d with
    | zero =>
      intro n n0 hn
      have g : ¬ n < (p.length : Int) := by omega
      refine up ?_
      simp only [laws_whPool.l0, if_neg g]
      exact Ev.now _
    | succ d ih =>
      intro n n0 hn
      have g : n < (p.length : Int) := by omega
      have hw : wrap64 (n + 1) = n + 1 := wz (by omega)
      refine up ?_
      simp only [laws_whPool.l0, if_pos g, if_pos n0, sameTest, Bool.false_eq_true, if_false, hw]
      exact ih (n + 1) (by omega) (by omega)
  unfold laws_whPool.f
  simp only [if_true, bne_self_eq_false]
  refine up ?_
  simp only [laws_whPool.j0, Bool.false_eq_true, if_false]
  exact loop p.length 0 (by omega) (by omega)

theorem dr_twice (e : Int) (x : S41) : drF e (drF e x) = drF e x := by
  unfold drF
  by_cases c : x.f1 = e ∧ x.f3 = 0
  · rw [if_pos c]
    split <;> rfl
  · rw [if_neg c, if_neg c]
theorem drop_twice (e : Int) (p : List S41) : (p.map (drF e)).map (drF e) = p.map (drF e) := by
  rw [List.map_map]
  exact List.map_congr_left fun x _ => dr_twice e x
theorem FnPoolDrop (l0 : List (Int)) (h0 : l0.length ≤ 9223372036854775807 ∧ ∀ x ∈ l0, (Lit.int .u8 x).wf = true) :
    ∃ k, laws_FnPoolDrop.f k l0 = some true := by
  have hw := h0.2
  refine ex ?_
  unfold laws_FnPoolDrop.f
  by_cases hl : (l0.length : Int) > 1048576
  · simp only [if_pos hl]; exact Ev.now _
  · simp only [if_neg hl]
    obtain ⟨p, hd, e, hD, hlen⟩ : ∃ p hd e, Ev (fun k => spec_DrawPoolDrop.f k l0) (p, hd, e) ∧ p.length ≤ 8 := by
      have hb := Code.of hw
      generalize hB : l0.take 2000 = b at hb
      obtain ⟨p, hd, q, e0, hl, q0, q1⟩ := drawAnyPool b hb 0 (by omega)
      obtain ⟨h, h1, a1, b1⟩ := pick b hb q 6 (by omega)
      refine ⟨p, hd, h, ?_, hl⟩
      unfold spec_DrawPoolDrop.f
      simp only [open_f, Option.bind_some, hB]
      refine bd e0 ?_
      refine bd h1 ?_
      exact Ev.now _
    have hq := dropM_len (poolB p hd) p hd e
    refine bd hD ?_
    refine bd (implDrop p hd e) ?_
    refine bd (specDrop p hd e) ?_
    refine bd (whPool _ _ (by omega)) ?_
    simp only [if_true]
    refine bd (specOk p hd) ?_
    refine up ?_
    cases ok : poolB p hd with
    | false =>
      rw [ok] at hq
      simp only [laws_FnPoolDrop.j0, Bool.not_false, if_true]
      have hS := specDrop p hd e
      rw [ok] at hS
      refine bd hS ?_
      refine bd (whPool _ _ (by omega)) ?_
      exact Ev.now _
    | true =>
      have hp := poolB_iff.1 ok
      have hpl := hp.len
      have hP := drop_ok e hp
      have hr := rd_map41 (drF e) (dr_z e) p
      have hml : (p.map (drF e)).length = p.length := by simp
      simp only [laws_FnPoolDrop.j0, Bool.not_true, Bool.false_eq_true, if_false]
      have eM : dropM true p hd e = (p.map (drF e), hd) := by unfold dropM; rw [if_pos rfl]
      rw [eM]
      have loop : ∀ (d : Nat) (n : Int), 0 ≤ n → n + d = p.length → Ev (fun k => laws_FnPoolDrop.l0 k e n p hd (p.map (drF e)) hd) true := by
        intro d
        induction d with
        | zero =>
          intro n n0 hn
          have g : ¬ n < (p.length : Int) := by omega
          refine up ?_
          simp only [laws_FnPoolDrop.l0, if_neg g]
          refine bd (implOk _ _) ?_
          rw [poolB_yes hP]
          simp only [if_true]
          refine bd (implDrop _ _ _) ?_
          rw [poolB_yes hP]
          have e2 : dropM true (p.map (drF e)) hd e = (p.map (drF e), hd) := by unfold dropM; rw [if_pos rfl, drop_twice]
          rw [e2]
          refine bd (whPool _ _ (by rw [hml]; omega)) ?_
          exact Ev.now _
        | succ d ih =>
          intro n n0 hn
          have g : n < (p.length : Int) := by omega
          have g2 : n < (((p.map (drF e)).length : Nat) : Int) := by rw [hml]; omega
          have hw1 : wrap64 (n + 1) = n + 1 := wz (by omega)
          have nx := ih (n + 1) (by omega) (by omega)
          refine up ?_
          by_cases c1 : (rd_T41 p n).f1 = e
          · by_cases c3 : (rd_T41 p n).f3 = 0
            · have hf : (rd_T41 (p.map (drF e)) n).f1 = 0 := by rw [hr]; unfold drF; rw [if_pos ⟨c1, c3⟩]
              simp only [laws_FnPoolDrop.l0, if_pos g, if_pos n0, if_pos c1, if_pos c3, if_pos g2, if_pos hf, hw1]
              exact nx
            · have hf : rd_T41 (p.map (drF e)) n = rd_T41 p n := by rw [hr]; unfold drF; rw [if_neg (fun h => c3 h.2)]
              simp only [laws_FnPoolDrop.l0, if_pos g, if_pos n0, if_pos c1, if_neg c3, if_pos g2, hf, sameTest, Bool.false_eq_true, if_false, hw1]
              exact nx
          · have hf : rd_T41 (p.map (drF e)) n = rd_T41 p n := by rw [hr]; unfold drF; rw [if_neg (fun h => c1 h.1)]
            simp only [laws_FnPoolDrop.l0, if_pos g, if_pos n0, if_neg c1, if_pos g2, hf, sameTest, Bool.false_eq_true, if_false, hw1]
            exact nx
      exact loop p.length 0 (by omega) (by omega)

end Go.Proofs.Ytlfnjkcgefcidaa.Pure
