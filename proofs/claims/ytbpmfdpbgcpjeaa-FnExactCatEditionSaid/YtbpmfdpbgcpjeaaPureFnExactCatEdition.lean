/-
For every catalogue and edition, the program's CatEdition and the reference's CatEdition tell the same (of a good catalogue the first item of that edition, else nothing) and the catalogue stays as it was, so FnExactCatEdition returns true.
Conditions: none beyond the form's own reach.
-/
import Derived.Test.YtbpmfdpbgcpjeaaPFnExactCatEditionx0
import Derived.Test.YtbpmfdpbgcpjeaaPFnExactCatEditionx1
import Derived.Test.YtbpmfdpbgcpjeaaPFnExactCatEditionx2
import Derived.Test.YtbpmfdpbgcpjeaaPFnExactCatEditionx3
import Derived.Test.YtbpmfdpbgcpjeaaPFnExactCatEditionx4
import Derived.Test.YtbpmfdpbgcpjeaaPFnExactCatEditionx5
import Derived.Test.YtbpmfdpbgcpjeaaPFnExactCatEditionx6
import Derived.Test.YtbpmfdpbgcpjeaaPFnExactCatEditionx7
import Derived.Test.YtbpmfdpbgcpjeaaPFnExactCatEditionx8
import Derived.Test.YtbpmfdpbgcpjeaaPFnExactCatEditionx9
import Derived.Test.YtbpmfdpbgcpjeaaPFnExactCatEditionx10
import Derived.Test.YtbpmfdpbgcpjeaaPFnExactCatEditionx11
import Derived.Test.YtbpmfdpbgcpjeaaPFnExactCatEditionx12
import Derived.Test.YtbpmfdpbgcpjeaaPFnExactCatEditionx13
import Derived.Test.YtbpmfdpbgcpjeaaPFnExactCatEditionx14
import Derived.Test.YtbpmfdpbgcpjeaaPureC
namespace Go.Proofs.Ytbpmfdpbgcpjeaa.Pure
open Go.RowKit Go.Proofs.Ytbpmfdpbgcpjeaa.PFnExactCatEdition Go.Proofs.Ytbpmfdpbgcpjeaa.C Go.Proofs.YtbpmfdpbgcpjeaaW.PrintWords Go.Proofs.YtbpmfdpbgcpjeaaW.PrintLast
set_option linter.unusedVariables false
set_option linter.unusedSimpArgs false

/-- A name: letters, one to six of them. -/
def nameF (s : ByteArray) : Nat → Bool
  | 0 => decide (1 ≤ s.size) && decide (s.size ≤ 6)
  | d + 1 => if bt s ((s.size : Int) - (d + 1)) < 97 then false else if bt s ((s.size : Int) - (d + 1)) > 122 then false else nameF s d
def nameB (s : ByteArray) : Bool := nameF s s.size

theorem l1In_f (a b c : Int) : spec_l1In.f a b c = some (decide (b ≤ a) && decide (a ≤ c)) := by
  unfold spec_l1In.f
  by_cases h : b ≤ a <;> simp [h]
theorem within_f (a b c : Int) : impl_within.f a b c = some (decide (b ≤ a) && decide (a ≤ c)) := by
  unfold impl_within.f
  by_cases h : b ≤ a <;> simp [h]

theorem specName_l0 (s : ByteArray) (hs : s.size ≤ 140737488351232) : ∀ (d : Nat), d ≤ s.size → Ev (fun k => spec_NameOk.l0 k s ((s.size : Int) - d)) (nameF s d) := by
  intro d
  induction d with
  | zero =>
    intro _
    refine up ?_
    have h : ¬ ((s.size : Int) - ((0 : Nat) : Int) < s.size) := by omega
    simp only [spec_NameOk.l0, if_neg h, l1In_f, Option.bind_some, nameF]
    rw [show decide (1 ≤ (s.size : Int)) = decide (1 ≤ s.size) from decide_eq_decide.2 (by omega), show decide ((s.size : Int) ≤ 6) = decide (s.size ≤ 6) from decide_eq_decide.2 (by omega)]
    exact Ev.now _
  | succ d ih =>
    intro hd
    refine up ?_
    have h1 : (s.size : Int) - ((d + 1 : Nat) : Int) < s.size := by omega
    have h2 : 0 ≤ (s.size : Int) - ((d + 1 : Nat) : Int) := by omega
    have h3 : wrap64 ((s.size : Int) - ((d + 1 : Nat) : Int) + 1) = (s.size : Int) - (d : Int) := by rw [wz (by omega)]; omega
    have e : ((d + 1 : Nat) : Int) = (d : Int) + 1 := by omega
    simp only [spec_NameOk.l0, if_pos h1, if_pos h2, h3, nameF]
    rw [e]
    by_cases h4 : bt s ((s.size : Int) - ((d : Int) + 1)) < 97
    · simp only [if_pos h4]; exact Ev.now _
    · simp only [if_neg h4]
      by_cases h5 : bt s ((s.size : Int) - ((d : Int) + 1)) > 122
      · simp only [if_pos h5]; exact Ev.now _
      · simp only [if_neg h5]; exact ih (by omega)
theorem specName (s : ByteArray) (hs : s.size ≤ 140737488351232) : Ev (fun k => spec_NameOk.f k s) (nameB s) := by
  have h := specName_l0 s hs s.size (Nat.le_refl _)
  have e : (s.size : Int) - (s.size : Int) = 0 := by omega
  rw [e] at h
  exact h

theorem implName_l0 (s : ByteArray) (hs : s.size ≤ 140737488351232) : ∀ (d : Nat), d ≤ s.size → Ev (fun k => impl_NameOk.l0 k s (s.size : Int) ((s.size : Int) - d)) (nameF s d) := by
  intro d
  induction d with
  | zero =>
    intro _
    refine up ?_
    have h : ¬ ((s.size : Int) - ((0 : Nat) : Int) < s.size) := by omega
    simp only [impl_NameOk.l0, if_neg h, within_f, Option.bind_some, nameF]
    rw [show decide (1 ≤ (s.size : Int)) = decide (1 ≤ s.size) from decide_eq_decide.2 (by omega), show decide ((s.size : Int) ≤ 6) = decide (s.size ≤ 6) from decide_eq_decide.2 (by omega)]
    exact Ev.now _
  | succ d ih =>
    intro hd
    refine up ?_
    have h1 : (s.size : Int) - ((d + 1 : Nat) : Int) < s.size := by omega
    have h2 : 0 ≤ (s.size : Int) - ((d + 1 : Nat) : Int) := by omega
    have h3 : wrap64 ((s.size : Int) - ((d + 1 : Nat) : Int) + 1) = (s.size : Int) - (d : Int) := by rw [wz (by omega)]; omega
    have e : ((d + 1 : Nat) : Int) = (d : Int) + 1 := by omega
    simp only [impl_NameOk.l0, if_pos h1, if_pos h2, h3, nameF]
    rw [e]
    by_cases h4 : bt s ((s.size : Int) - ((d : Int) + 1)) < 97
    · simp only [if_pos h4]; exact Ev.now _
    · simp only [if_neg h4]
      by_cases h5 : bt s ((s.size : Int) - ((d : Int) + 1)) > 122
      · simp only [if_pos h5]; exact Ev.now _
      · simp only [if_neg h5]; exact ih (by omega)
theorem implName (s : ByteArray) (hs : s.size ≤ 140737488351232) : Ev (fun k => impl_NameOk.f k s) (nameB s) := by
  have h := implName_l0 s hs s.size (Nat.le_refl _)
  have e : (s.size : Int) - (s.size : Int) = 0 := by omega
  rw [e] at h
  exact h

def Fits (x : S78) : Prop := x.f1.size ≤ 1048576 ∧ x.f3.size ≤ 1048576
theorem rdz_mem (l : List S78) (i : Int) (h0 : 0 ≤ i) (h1 : i < l.length) : rd_T78 l i ∈ l := by
  unfold rd_T78
  rw [List.getD_eq_getElem?_getD, List.getElem?_eq_getElem (by omega)]
  exact List.getElem_mem _
theorem szItem (x : S78) (a : Int) (h1 : x.f1.size ≤ 9223372036854775807) (h3 : x.f3.size ≤ 9223372036854775807) (a0 : 0 ≤ a) (a1 : a ≤ 1048576) :
    ∃ r, laws_szItem.f x.f0 x.f1 x.f2 x.f3 a = some r ∧ r ≤ a ∧ (0 ≤ r → Fits x) := by
  unfold laws_szItem.f
  rw [wz (n := a - (x.f1.size : Int)) (by omega)]
  by_cases c : a - (x.f1.size : Int) < 0
  · rw [if_pos c]; exact ⟨-1, rfl, by omega, fun h => by omega⟩
  · rw [if_neg c, wz (n := a - (x.f1.size : Int) - (x.f3.size : Int)) (by omega)]
    by_cases c2 : a - (x.f1.size : Int) - (x.f3.size : Int) < 0
    · rw [if_pos c2]; exact ⟨-1, rfl, by omega, fun h => by omega⟩
    · rw [if_neg c2]; exact ⟨_, rfl, by omega, fun _ => ⟨by omega, by omega⟩⟩
theorem szItems (l : List S78) (hl : l.length ≤ 9223372036854775807) (hs : ∀ x ∈ l, x.f1.size ≤ 9223372036854775807 ∧ x.f3.size ≤ 9223372036854775807) :
    ∃ r, Ev (fun k => laws_szItemS.f k l 1048576) r ∧ (0 ≤ r → l.length ≤ 1048576 ∧ ∀ j : Int, 0 ≤ j → j < l.length → Fits (rd_T78 l j)) := by
  unfold laws_szItemS.f
  rw [wz (n := 1048576 - (l.length : Int)) (by omega)]
  by_cases c : 1048576 - (l.length : Int) < 0
  · simp only [if_pos c]; exact ⟨-1, Ev.now _, fun h => by omega⟩
  · simp only [if_neg c]
    have main : ∀ (d : Nat) (i a : Int), 0 ≤ i → i + d = l.length → 0 ≤ a → a ≤ 1048576 → ∃ r, Ev (fun k => laws_szItemS.l0 k l a i) r ∧ (0 ≤ r → ∀ j : Int, i ≤ j → j < l.length → Fits (rd_T78 l j)) := by
      intro d
      induction d with
      | zero =>
        intro i a i0 hi a0 a1
        have g : ¬ i < (l.length : Int) := by omega
        refine ⟨a, up ?_, fun _ j j0 j1 => by omega⟩
        simp only [laws_szItemS.l0, if_neg g]
        exact Ev.now _
      | succ d ih =>
        intro i a i0 hi a0 a1
        have g : i < (l.length : Int) := by omega
        have hx := hs _ (rdz_mem l i i0 g)
        obtain ⟨r, e, ra, rf⟩ := szItem (rd_T78 l i) a hx.1 hx.2 a0 a1
        have hw : wrap64 (i + 1) = i + 1 := wz (by omega)
        by_cases cr : r < 0
        · refine ⟨-1, up ?_, fun h => by omega⟩
          simp only [laws_szItemS.l0, if_pos g, if_pos i0, e, Option.bind_some, if_pos cr]
          exact Ev.now _
        · obtain ⟨s, es, hs'⟩ := ih (i + 1) r (by omega) (by omega) (by omega) (by omega)
          refine ⟨s, up ?_, fun h j j0 j1 => ?_⟩
          · simp only [laws_szItemS.l0, if_pos g, if_pos i0, e, Option.bind_some, if_neg cr, hw]
            exact es
          · by_cases ej : j = i
            · subst ej; exact rf (by omega)
            · exact hs' h j (by omega) j1
    obtain ⟨r, e, h⟩ := main l.length 0 (1048576 - (l.length : Int)) (by omega) (by omega) (by omega) (by omega)
    exact ⟨r, e, fun h0 => ⟨by omega, fun j j0 j1 => h h0 j j0 j1⟩⟩
theorem szCat (n : Int) (l : List S78) (hl : l.length ≤ 9223372036854775807) (hs : ∀ x ∈ l, x.f1.size ≤ 9223372036854775807 ∧ x.f3.size ≤ 9223372036854775807) :
    ∃ r, Ev (fun k => laws_szCat.f k n l 1048576) r ∧ (0 ≤ r → l.length ≤ 1048576 ∧ ∀ j : Int, 0 ≤ j → j < l.length → Fits (rd_T78 l j)) := by
  obtain ⟨r, e, h⟩ := szItems l hl hs
  unfold laws_szCat.f
  by_cases c : r < 0
  · refine ⟨-1, bd e ?_, fun h => by omega⟩
    simp only [if_pos c]; exact Ev.now _
  · refine ⟨r, bd e ?_, h⟩
    simp only [if_neg c]; exact Ev.now _
/-- The item as the program's package has it. -/
def toIt (x : S78) : S36 := ⟨x.f0, x.f1, x.f2, x.f3⟩
theorem toItems (l : List S78) (hl : l.length ≤ 1048576) : Ev (fun k => laws_toItemS.f k l) (l.map toIt) := by
  have main : ∀ (d i : Nat), i + d = l.length → Ev (fun k => laws_toItemS.l0 k l ((l.take i).map toIt ++ List.replicate (l.length - i) z36) (i : Int)) (l.map toIt) := by
    intro d
    induction d with
    | zero =>
      intro i hi
      have h1 : ¬ (i : Int) < (l.length : Int) := by omega
      obtain rfl : i = l.length := by omega
      refine up ?_
      simp only [laws_toItemS.l0, if_neg h1, fill_end]
      exact Ev.now _
    | succ d ih =>
      intro i hi
      have h1 : (i : Int) < (l.length : Int) := by omega
      have h2 : 0 ≤ (i : Int) := by omega
      have h3 : (i : Int) < ((((l.take i).map toIt ++ List.replicate (l.length - i) z36).length : Nat) : Int) := by simp; omega
      have h4 : wrap64 ((i : Int) + 1) = ((i + 1 : Nat) : Int) := by rw [wz (by omega)]; omega
      refine up ?_
      simp only [laws_toItemS.l0, if_pos h1, if_pos h2, if_pos h3, laws_toItem.f, Option.bind_some, h4, Int.toNat_natCast]
      have this : ((l.take i).map toIt ++ List.replicate (l.length - i) z36).set i (⟨(l.getD i z78).f0, (l.getD i z78).f1, (l.getD i z78).f2, (l.getD i z78).f3⟩ : S36) = _ := fill_step toIt z36 z78 l i (by omega)
      simp only [rd_T78, Int.toNat_natCast, this]
      exact ih (i + 1) (by omega)
  unfold laws_toItemS.f
  have h1 : 0 ≤ (l.length : Int) := by omega
  have h2 : l.length ≤ 5864062014805 := by omega
  simp only [if_pos h1, Int.toNat_natCast, if_pos h2]
  have := main l.length 0 (by omega)
  simpa using this
theorem toCat (n : Int) (l : List S78) (hl : l.length ≤ 1048576) : Ev (fun k => laws_toCat.f k n l) (n, l.map toIt) := by
  unfold laws_toCat.f
  exact bd (toItems l hl) (Ev.now _)
theorem eqItems (l : List S36) (hl : l.length ≤ 2000000) : Ev (fun k => laws_eqItemS.f k l l) true := by
  have main : ∀ (d i : Nat), i + d = l.length → Ev (fun k => laws_eqItemS.l0 k l l (i : Int)) true := by
    intro d
    induction d with
    | zero =>
      intro i hi
      have h1 : ¬ (i : Int) < (l.length : Int) := by omega
      refine up ?_
      simp only [laws_eqItemS.l0, if_neg h1]
      exact Ev.now _
    | succ d ih =>
      intro i hi
      have h1 : (i : Int) < (l.length : Int) := by omega
      have h2 : 0 ≤ (i : Int) := by omega
      have h4 : wrap64 ((i : Int) + 1) = ((i + 1 : Nat) : Int) := by rw [wz (by omega)]; omega
      refine up ?_
      simp only [laws_eqItemS.l0, if_pos h1, if_pos h2, laws_eqItem.f, if_true, Option.bind_some, h4]
      exact ih (i + 1) (by omega)
  unfold laws_eqItemS.f
  simp only [if_true]
  exact main l.length 0 (by omega)
theorem eqCat (n : Int) (l : List S36) (hl : l.length ≤ 2000000) : Ev (fun k => laws_eqCat.f k n l n l) true := by
  unfold laws_eqCat.f
  simp only [if_true]
  refine bd (eqItems l hl) ?_
  simp only [if_true]
  exact Ev.now _
/-- No name and no text of the list is greater than the law allows. -/
def Small (l : List S36) : Prop := ∀ j : Int, 0 ≤ j → j < l.length → (rd_T36 l j).f1.size ≤ 1048576 ∧ (rd_T36 l j).f3.size ≤ 1048576
theorem small_map (l : List S78) (h : ∀ j : Int, 0 ≤ j → j < l.length → Fits (rd_T78 l j)) : Small (l.map toIt) := by
  intro j j0 j1
  rw [List.length_map] at j1
  have e : rd_T36 (l.map toIt) j = toIt (rd_T78 l j) := by
    unfold rd_T36 rd_T78
    rw [List.getD_eq_getElem?_getD, List.getD_eq_getElem?_getD, List.getElem?_eq_getElem (by rw [List.length_map]; omega), List.getElem?_eq_getElem (by omega)]
    simp
  rw [e]
  exact h j j0 j1

/-- How the catalogue is ordered: by house, then by name. -/
def less (x : S36) (h : Int) (n : ByteArray) : Prop := x.f0 < h ∨ (x.f0 = h ∧ Op.bytesLess x.f1.toList n.toList = true)
theorem specLess (x : S36) (h : Int) (n : ByteArray) : ∃ b, spec_l9Less.f x.f0 x.f1 x.f2 x.f3 h n = some b ∧ (b = true ↔ less x h n) := by
  unfold spec_l9Less.f less
  by_cases c : x.f0 < h
  · rw [if_pos c]; exact ⟨true, rfl, fun _ => .inl c, fun _ => rfl⟩
  · rw [if_neg c]
    by_cases d : x.f0 = h
    · rw [if_pos d]; exact ⟨_, rfl, fun g => .inr ⟨d, g⟩, fun g => by rcases g with g | g; exact absurd g c; exact g.2⟩
    · rw [if_neg d]; exact ⟨false, rfl, (fun g => by cases g), fun g => by rcases g with g | g; exact absurd g c; exact absurd g.1 d⟩
theorem compareInt (a b : Int) : cmp_Compare_int.f a b = some (if a < b then -1 else if a > b then 1 else 0) := by
  unfold cmp_Compare_int.f cmp_isNaN_int.f
  simp only [bne_self_eq_false, Option.bind_some, Bool.false_eq_true, if_false]
  split
  · rfl
  · split <;> rfl
theorem compareStr (a b : ByteArray) : cmp_Compare_string.f a b = some (if Op.bytesLess a.toList b.toList = true then -1 else if Op.bytesLess b.toList a.toList = true then 1 else 0) := by
  unfold cmp_Compare_string.f cmp_isNaN_string.f
  simp only [bne_self_eq_false, Option.bind_some, Bool.false_eq_true, if_false]
  split
  · rfl
  · split <;> rfl
theorem orInt (a b : Int) : Ev (fun k => cmp_Or_int.f k [a, b]) (if a = 0 then b else a) := by
  unfold cmp_Or_int.f
  have l0 : (0 : Int) < (([a, b] : List Int).length : Int) := by simp
  have l1 : (1 : Int) < (([a, b] : List Int).length : Int) := by simp
  have l2 : ¬ (2 : Int) < (([a, b] : List Int).length : Int) := by simp
  have w0 : wrap64 (0 + 1) = 1 := by rw [wz (by omega)]; omega
  have w1 : wrap64 (1 + 1) = 2 := by rw [wz (by omega)]; omega
  have r0 : rd [a, b] 0 = a := rfl
  have r1 : rd [a, b] 1 = b := rfl
  have z : (0 : Int) ≤ 0 := by omega
  have z1 : (0 : Int) ≤ 1 := by omega
  by_cases ca : a = 0
  · refine up ?_
    simp only [cmp_Or_int.l0, if_pos l0, if_pos z, r0, if_pos ca, w0]
    refine up ?_
    by_cases cb : b = 0
    · simp only [cmp_Or_int.l0, if_pos l1, if_pos z1, r1, if_pos cb, w1]
      refine up ?_
      simp only [cmp_Or_int.l0, if_neg l2]
      rw [cb]; exact Ev.now _
    · simp only [cmp_Or_int.l0, if_pos l1, if_pos z1, r1, if_neg cb]
      exact Ev.now _
  · refine up ?_
    simp only [cmp_Or_int.l0, if_pos l0, if_pos z, r0, if_neg ca]
    exact Ev.now _
theorem implOrder (x y : S36) : ∃ r, Ev (fun k => impl_itemOrder.f k x.f0 x.f1 x.f2 x.f3 y.f0 y.f1 y.f2 y.f3) r ∧ (r < 0 ↔ less x y.f0 y.f1) := by
  unfold impl_itemOrder.f less
  refine ⟨_, (by
    simp only [compareInt, compareStr, Option.bind_some]
    exact bd (orInt _ _) (Ev.now _)), ?_⟩
  by_cases c : x.f0 < y.f0
  · simp [c]
  · by_cases d : x.f0 > y.f0
    · have : ¬ x.f0 = y.f0 := by omega
      simp [c, d, this]
    · have e : x.f0 = y.f0 := by omega
      by_cases f : Op.bytesLess x.f1.toList y.f1.toList = true
      · simp [e, f]
      · by_cases g : Op.bytesLess y.f1.toList x.f1.toList = true
        · simp [e, f, g]
        · simp [e, f, g]
theorem idx_at (p : S36 → Bool) (l : List S36) (x : Int) (h0 : 0 ≤ x) (h1 : x < l.length) : idxFrom p (l.drop x.toNat) x = if p (rd_T36 l x) = true then x else idxFrom p (l.drop (x + 1).toNat) (x + 1) := by
  have hx : x.toNat < l.length := by omega
  rw [List.drop_eq_getElem_cons hx, show (x + 1).toNat = x.toNat + 1 by omega]
  have : rd_T36 l x = l[x.toNat] := by unfold rd_T36; rw [List.getD_eq_getElem?_getD, List.getElem?_eq_getElem hx]; rfl
  rw [this]
  rfl
theorem idxFrom_first (p : S36 → Bool) (l : List S36) : ∀ (d : Nat) (i : Int), 0 ≤ i → i + d = l.length →
    (idxFrom p (l.drop i.toNat) i = -1 ∧ ∀ j : Int, i ≤ j → j < l.length → p (rd_T36 l j) = false) ∨ (∃ r : Int, idxFrom p (l.drop i.toNat) i = r ∧ i ≤ r ∧ r < l.length ∧ p (rd_T36 l r) = true ∧ ∀ j : Int, i ≤ j → j < r → p (rd_T36 l j) = false) := by
  intro d
  induction d with
  | zero =>
    intro i i0 hi
    left
    rw [show i.toNat = l.length by omega, List.drop_length]
    exact ⟨rfl, fun j a b => by omega⟩
  | succ d ih =>
    intro i i0 hi
    have e := idx_at p l i i0 (by omega)
    by_cases c : p (rd_T36 l i) = true
    · right
      rw [e, if_pos c]
      exact ⟨i, rfl, by omega, by omega, c, fun j a b => by omega⟩
    · rw [e, if_neg c]
      have c' : p (rd_T36 l i) = false := by simpa using c
      rcases ih (i + 1) (by omega) (by omega) with ⟨h1, h2⟩ | ⟨r, h1, h2, h3, h4, h5⟩
      · left
        refine ⟨h1, fun j a b => ?_⟩
        by_cases ej : j = i
        · subst ej; exact c'
        · exact h2 j (by omega) b
      · right
        refine ⟨r, h1, by omega, h3, h4, fun j a b => ?_⟩
        by_cases ej : j = i
        · subst ej; exact c'
        · exact h5 j (by omega) b
theorem idx_first (p : S36 → Bool) (l : List S36) :
    (idxFrom p l 0 = -1 ∧ ∀ j : Int, 0 ≤ j → j < l.length → p (rd_T36 l j) = false) ∨ (∃ r : Int, idxFrom p l 0 = r ∧ 0 ≤ r ∧ r < l.length ∧ p (rd_T36 l r) = true ∧ ∀ j : Int, 0 ≤ j → j < r → p (rd_T36 l j) = false) :=
  idxFrom_first p l l.length 0 (by omega) (by omega)
/-- How many bytes of text the house has among the first n. -/
def bytTo (l : List S36) (h : Int) : Nat → Nat
  | 0 => 0
  | n + 1 => bytTo l h n + (if (rd_T36 l (n : Int)).f0 = h then (rd_T36 l (n : Int)).f3.size else 0)
def byt (l : List S36) (h : Int) : Nat := bytTo l h l.length
theorem bytTo_le (l : List S36) (h : Int) (hs : Small l) : ∀ n : Nat, n ≤ l.length → bytTo l h n ≤ 1048576 * n := by
  intro n
  induction n with
  | zero => intro _; simp [bytTo]
  | succ n ih =>
    intro hn
    have := ih (by omega)
    have := (hs (n : Int) (by omega) (by omega)).2
    unfold bytTo
    split <;> omega
theorem specBytes (l : List S36) (h : Int) (hs : Small l) (hl : l.length ≤ 1048576) : Ev (fun k => spec_l9Bytes.f k l h) (byt l h : Int) := by
  have main : ∀ (d n : Nat), n + d = l.length → Ev (fun k => spec_l9Bytes.l0 k l h (bytTo l h n : Int) (n : Int)) (byt l h : Int) := by
    intro d
    induction d with
    | zero =>
      intro n hn
      have g : ¬ (n : Int) < (l.length : Int) := by omega
      obtain rfl : n = l.length := by omega
      refine up ?_
      simp only [spec_l9Bytes.l0, if_neg g]
      exact Ev.now _
    | succ d ih =>
      intro n hn
      have g : (n : Int) < (l.length : Int) := by omega
      have g0 : 0 ≤ (n : Int) := by omega
      have hw : wrap64 ((n : Int) + 1) = ((n + 1 : Nat) : Int) := by rw [wz (by omega)]; omega
      have hb := bytTo_le l h hs n (by omega)
      have hx := (hs (n : Int) g0 g).2
      have nx := ih (n + 1) (by omega)
      refine up ?_
      by_cases c : (rd_T36 l (n : Int)).f0 = h
      · have hw2 : wrap64 ((bytTo l h n : Int) + ((rd_T36 l (n : Int)).f3.size : Int)) = (bytTo l h (n + 1) : Int) := by rw [wz (by omega)]; simp [bytTo, c]
        simp only [spec_l9Bytes.l0, if_pos g, if_pos g0, if_pos c, hw, hw2]
        exact nx
      · have hw2 : bytTo l h (n + 1) = bytTo l h n := by simp [bytTo, c]
        rw [hw2] at nx
        simp only [spec_l9Bytes.l0, if_pos g, if_pos g0, if_neg c, hw]
        exact nx
  unfold spec_l9Bytes.f
  exact main l.length 0 (by omega)
theorem implBytes (l : List S36) (m h : Int) (hs : Small l) (hl : l.length ≤ 1048576) : Ev (fun k => impl_Cat_bytes.f k m l h) (byt l h : Int) := by
  have main : ∀ (d n : Nat), n + d = l.length → Ev (fun k => impl_Cat_bytes.l0 k h (bytTo l h n : Int) l (l.length : Int) (n : Int)) (byt l h : Int) := by
    intro d
    induction d with
    | zero =>
      intro n hn
      have g : ¬ (n : Int) < (l.length : Int) := by omega
      obtain rfl : n = l.length := by omega
      refine up ?_
      simp only [impl_Cat_bytes.l0, if_neg g]
      exact Ev.now _
    | succ d ih =>
      intro n hn
      have g : (n : Int) < (l.length : Int) := by omega
      have g0 : 0 ≤ (n : Int) := by omega
      have hw : wrap64 ((n : Int) + 1) = ((n + 1 : Nat) : Int) := by rw [wz (by omega)]; omega
      have hb := bytTo_le l h hs n (by omega)
      have hx := (hs (n : Int) g0 g).2
      have nx := ih (n + 1) (by omega)
      refine up ?_
      by_cases c : (rd_T36 l (n : Int)).f0 = h
      · have hw2 : wrap64 ((bytTo l h n : Int) + ((rd_T36 l (n : Int)).f3.size : Int)) = (bytTo l h (n + 1) : Int) := by rw [wz (by omega)]; simp [bytTo, c]
        simp only [impl_Cat_bytes.l0, if_pos g, if_pos g0, if_pos c, hw, hw2]
        exact nx
      · have hw2 : bytTo l h (n + 1) = bytTo l h n := by simp [bytTo, c]
        rw [hw2] at nx
        simp only [impl_Cat_bytes.l0, if_pos g, if_pos g0, if_neg c, hw]
        exact nx
  unfold impl_Cat_bytes.f
  exact main l.length 0 (by omega)

def ItOk (last : Int) (x : S36) : Prop := (0 ≤ x.f0 ∧ x.f0 ≤ 1) ∧ nameB x.f1 = true ∧ (1 ≤ (x.f3.size : Int) ∧ (x.f3.size : Int) ≤ 300) ∧ (1 ≤ x.f2 ∧ x.f2 ≤ last)
structure CatP (last : Int) (l : List S36) : Prop where
  lst : 0 ≤ last ∧ last ≤ 99999
  len : l.length ≤ 8
  it : ∀ j : Int, 0 ≤ j → j < l.length → ItOk last (rd_T36 l j)
  ord : ∀ j : Int, 0 < j → j < l.length → less (rd_T36 l (j - 1)) (rd_T36 l j).f0 (rd_T36 l j).f1
  once : ∀ j i : Int, 0 ≤ i → i < j → j < l.length → (rd_T36 l i).f2 ≠ (rd_T36 l j).f2
  b0 : byt l 0 ≤ 500
  b1 : byt l 1 ≤ 500
noncomputable def catB (last : Int) (l : List S36) : Bool := @decide (CatP last l) (Classical.propDecidable _)
theorem catB_iff {last : Int} {l : List S36} : catB last l = true ↔ CatP last l := by
  unfold catB
  exact @decide_eq_true_iff _ (Classical.propDecidable _)
theorem catB_no {last : Int} {l : List S36} (h : ¬ CatP last l) : catB last l = false := by
  cases c : catB last l with
  | false => rfl
  | true => exact absurd (catB_iff.1 c) h
/-- What both ask of the item at j. -/
def At (last : Int) (l : List S36) (j : Int) : Prop := ItOk last (rd_T36 l j) ∧ (0 < j → less (rd_T36 l (j - 1)) (rd_T36 l j).f0 (rd_T36 l j).f1) ∧ (∀ i : Int, 0 ≤ i → i < j → (rd_T36 l i).f2 ≠ (rd_T36 l j).f2)
def AheadC (last : Int) (l : List S36) (n : Int) : Prop := ∀ j : Int, 0 ≤ j → j < n → At last l j
theorem catP_iff (last : Int) (l : List S36) (h1 : 0 ≤ last ∧ last ≤ 99999) (h2 : l.length ≤ 8) : CatP last l ↔ AheadC last l l.length ∧ byt l 0 ≤ 500 ∧ byt l 1 ≤ 500 :=
  ⟨fun h => ⟨fun j a b => ⟨h.it j a b, fun c => h.ord j c b, fun i c d => h.once j i c d b⟩, h.b0, h.b1⟩,
   fun h => ⟨h1, h2, fun j a b => (h.1 j a b).1, fun j a b => (h.1 j (by omega) b).2.1 a, fun j i a b c => (h.1 j (by omega) c).2.2 i a b, h.2.1, h.2.2⟩⟩
theorem boolEq {b c : Bool} (h : b = true ↔ c = true) : b = c := by cases b <;> cases c <;> simp_all
theorem specIt (x : S36) (hx : x.f1.size ≤ 1048576) : ∃ b, Ev (fun k => spec_l9Ok.f k x.f0 x.f1 x.f2 x.f3) b ∧ (b = true ↔ ((0 ≤ x.f0 ∧ x.f0 ≤ 1) ∧ nameB x.f1 = true ∧ (1 ≤ (x.f3.size : Int) ∧ (x.f3.size : Int) ≤ 300))) := by
  unfold spec_l9Ok.f
  simp only [l1In_f, Option.bind_some, andB]
  by_cases c : 0 ≤ x.f0 ∧ x.f0 ≤ 1
  · simp only [yesB c, if_true]
    cases n : nameB x.f1 with
    | false =>
      refine ⟨false, bd (specName _ (by omega)) ?_, (fun h => by cases h), fun h => by cases h.2.1⟩
      rw [n]; simp only [Bool.false_eq_true, if_false]; exact Ev.now _
    | true =>
      refine ⟨decide (1 ≤ (x.f3.size : Int) ∧ (x.f3.size : Int) ≤ 300), bd (specName _ (by omega)) ?_, ?_⟩
      · rw [n]; simp only [if_true]; exact Ev.now _
      · simp [c]
  · simp only [notB c, Bool.false_eq_true, if_false]
    exact ⟨false, Ev.now _, (fun h => by cases h), fun h => absurd h.1 c⟩
theorem implIt (x : S36) (hx : x.f1.size ≤ 1048576) : ∃ b, Ev (fun k => impl_publishable.f k x.f0 x.f1 x.f3) b ∧ (b = true ↔ ((0 ≤ x.f0 ∧ x.f0 ≤ 1) ∧ nameB x.f1 = true ∧ (1 ≤ (x.f3.size : Int) ∧ (x.f3.size : Int) ≤ 300))) := by
  unfold impl_publishable.f impl_house.f
  simp only [within_f, Option.bind_some, andB]
  by_cases c : 0 ≤ x.f0 ∧ x.f0 ≤ 1
  · simp only [yesB c, if_true]
    cases n : nameB x.f1 with
    | false =>
      refine ⟨false, bd (implName _ (by omega)) ?_, (fun h => by cases h), fun h => by cases h.2.1⟩
      rw [n]; simp only [Bool.false_eq_true, if_false]; exact Ev.now _
    | true =>
      refine ⟨decide (1 ≤ (x.f3.size : Int) ∧ (x.f3.size : Int) ≤ 300), bd (implName _ (by omega)) ?_, ?_⟩
      · rw [n]; simp only [if_true]; exact Ev.now _
      · simp [c]
  · simp only [notB c, Bool.false_eq_true, if_false]
    exact ⟨false, Ev.now _, (fun h => by cases h), fun h => absurd h.1 c⟩

theorem specTail (n : Int) (l : List S36) (hs : Small l) (hl : l.length ≤ 1048576) : ∃ b, Ev (fun k => spec_CatOk.l2 k 0 n l) b ∧ (b = true ↔ byt l 0 ≤ 500 ∧ byt l 1 ≤ 500) := by
  have h00 : (0 : Int) < 2 := by omega
  have h01 : (1 : Int) < 2 := by omega
  have h02 : ¬ (2 : Int) < 2 := by omega
  have w0 : wrap64 (0 + 1) = 1 := by rw [wz (by omega)]; omega
  have w1 : wrap64 (1 + 1) = 2 := by rw [wz (by omega)]; omega
  by_cases a : byt l 0 ≤ 500
  · have ga : ¬ (byt l 0 : Int) > 500 := by omega
    by_cases b : byt l 1 ≤ 500
    · have gb : ¬ (byt l 1 : Int) > 500 := by omega
      refine ⟨true, up ?_, fun _ => ⟨a, b⟩, fun _ => rfl⟩
      simp only [spec_CatOk.l2, if_pos h00]
      refine bd (specBytes l 0 hs hl) ?_
      simp only [if_neg ga, w0]
      refine up ?_
      simp only [spec_CatOk.l2, if_pos h01]
      refine bd (specBytes l 1 hs hl) ?_
      simp only [if_neg gb, w1]
      refine up ?_
      simp only [spec_CatOk.l2, if_neg h02]
      exact Ev.now _
    · have gb : (byt l 1 : Int) > 500 := by omega
      refine ⟨false, up ?_, (fun h => by cases h), fun h => absurd h.2 b⟩
      simp only [spec_CatOk.l2, if_pos h00]
      refine bd (specBytes l 0 hs hl) ?_
      simp only [if_neg ga, w0]
      refine up ?_
      simp only [spec_CatOk.l2, if_pos h01]
      refine bd (specBytes l 1 hs hl) ?_
      simp only [if_pos gb]
      exact Ev.now _
  · have ga : (byt l 0 : Int) > 500 := by omega
    refine ⟨false, up ?_, (fun h => by cases h), fun h => absurd h.1 a⟩
    simp only [spec_CatOk.l2, if_pos h00]
    refine bd (specBytes l 0 hs hl) ?_
    simp only [if_pos ga]
    exact Ev.now _
theorem specCat_l0 (n : Int) (l : List S36) (hs : Small l) (hl : l.length ≤ 1048576) : ∀ (d : Nat) (i : Int), 0 ≤ i → i + d = l.length → AheadC n l i →
    ∃ b, Ev (fun k => spec_CatOk.l0 k i n l) b ∧ (b = true ↔ AheadC n l l.length ∧ byt l 0 ≤ 500 ∧ byt l 1 ≤ 500) := by
  intro d
  induction d with
  | zero =>
    intro i i0 hi hA
    have g : ¬ i < (l.length : Int) := by omega
    obtain ⟨b, e, hb⟩ := specTail n l hs hl
    refine ⟨b, up ?_, ?_⟩
    · simp only [spec_CatOk.l0, if_neg g]; exact e
    · obtain rfl : i = l.length := by omega
      rw [hb]; exact ⟨fun h => ⟨hA, h⟩, fun h => h.2⟩
  | succ d ih =>
    intro i i0 hi hA
    have g : i < (l.length : Int) := by omega
    have hw : wrap64 (i + 1) = i + 1 := wz (by omega)
    have bad : ¬ At n l i → (false = true ↔ AheadC n l l.length ∧ byt l 0 ≤ 500 ∧ byt l 1 ≤ 500) := fun hn => ⟨(fun h => by cases h), fun h => absurd (h.1 i i0 g) hn⟩
    have good : At n l i → ∃ b, Ev (fun k => spec_CatOk.l0 k (i + 1) n l) b ∧ (b = true ↔ AheadC n l l.length ∧ byt l 0 ≤ 500 ∧ byt l 1 ≤ 500) :=
      fun hg => ih (i + 1) (by omega) (by omega) (fun j a b => by
        by_cases ej : j = i
        · subst ej; exact hg
        · exact hA j a (by omega))
    -- the inner loop: no edition of before
    have inner : (ItOk n (rd_T36 l i)) → (0 < i → less (rd_T36 l (i - 1)) (rd_T36 l i).f0 (rd_T36 l i).f1) → ∀ (e : Nat) (m : Int), 0 ≤ m → m + e = i → (∀ q : Int, 0 ≤ q → q < m → (rd_T36 l q).f2 ≠ (rd_T36 l i).f2) →
        ∃ b, Ev (fun k => spec_CatOk.l1 k i m n l (rd_T36 l i).f0 (rd_T36 l i).f1 (rd_T36 l i).f2 (rd_T36 l i).f3) b ∧ (b = true ↔ AheadC n l l.length ∧ byt l 0 ≤ 500 ∧ byt l 1 ≤ 500) := by
      intro hi1 hi2 e
      induction e with
      | zero =>
        intro m m0 me hm
        have g1 : ¬ m < i := by omega
        obtain rfl : m = i := by omega
        obtain ⟨b, eb, hb⟩ := good ⟨hi1, hi2, hm⟩
        refine ⟨b, up ?_, hb⟩
        simp only [spec_CatOk.l1, if_neg g1, hw]; exact eb
      | succ e ihe =>
        intro m m0 me hm
        have g1 : m < i := by omega
        have g2 : m < (l.length : Int) := by omega
        have hwm : wrap64 (m + 1) = m + 1 := wz (by omega)
        by_cases c : (rd_T36 l m).f2 = (rd_T36 l i).f2
        · refine ⟨false, up ?_, bad fun h => h.2.2 m m0 g1 c⟩
          simp only [spec_CatOk.l1, if_pos g1, if_pos m0, if_pos g2, if_pos c]; exact Ev.now _
        · obtain ⟨b, eb, hb⟩ := ihe (m + 1) (by omega) (by omega) (fun q a b => by
            by_cases eq : q = m
            · subst eq; exact c
            · exact hm q a (by omega))
          refine ⟨b, up ?_, hb⟩
          simp only [spec_CatOk.l1, if_pos g1, if_pos m0, if_pos g2, if_neg c, hwm]; exact eb
    have j2f : ∀ b : Bool, b = true → ¬ At n l i → ∃ r, Ev (fun k => spec_CatOk.j2 k i b n l (rd_T36 l i).f0 (rd_T36 l i).f1 (rd_T36 l i).f2 (rd_T36 l i).f3) r ∧ (r = true ↔ AheadC n l l.length ∧ byt l 0 ≤ 500 ∧ byt l 1 ≤ 500) := by
      intro b hb hn
      subst hb
      refine ⟨false, up ?_, bad hn⟩
      simp only [spec_CatOk.j2, if_true]; exact Ev.now _
    have j2t : ∀ b : Bool, b = false → (ItOk n (rd_T36 l i)) → (0 < i → less (rd_T36 l (i - 1)) (rd_T36 l i).f0 (rd_T36 l i).f1) → ∃ r, Ev (fun k => spec_CatOk.j2 k i b n l (rd_T36 l i).f0 (rd_T36 l i).f1 (rd_T36 l i).f2 (rd_T36 l i).f3) r ∧ (r = true ↔ AheadC n l l.length ∧ byt l 0 ≤ 500 ∧ byt l 1 ≤ 500) := by
      intro b hb h1 h2
      subst hb
      obtain ⟨r, e, hr⟩ := inner h1 h2 i.toNat 0 (by omega) (by omega) (fun q a b => by omega)
      refine ⟨r, up ?_, hr⟩
      simp only [spec_CatOk.j2, Bool.false_eq_true, if_false]; exact e
    have lift : ∀ {g' : Nat → Option Bool}, (∃ r, Ev g' r ∧ (r = true ↔ AheadC n l l.length ∧ byt l 0 ≤ 500 ∧ byt l 1 ≤ 500)) → ∀ {f' : Nat → Option Bool}, (∀ r, Ev g' r → Ev (fun k => f' (k + 1)) r) → ∃ r, Ev f' r ∧ (r = true ↔ AheadC n l l.length ∧ byt l 0 ≤ 500 ∧ byt l 1 ≤ 500) :=
      fun ⟨r, e, h⟩ _ hf => ⟨r, up (hf r e), h⟩
    obtain ⟨t, et, ht⟩ := specIt (rd_T36 l i) (hs i i0 g).1
    have wi : 0 < i → wrap64 (i - 1) = i - 1 := fun _ => wz (by omega)
    cases t with
    | false =>
      have hn : ¬ At n l i := fun h => by have := ht.2 ⟨h.1.1, h.1.2.1, h.1.2.2.1⟩; cases this
      refine lift (j2f true rfl hn) (fun r e => ?_)
      simp only [spec_CatOk.l0, if_pos g, if_pos i0]
      refine bd et ?_
      simp only [Bool.false_eq_true, if_false]; exact e
    | true =>
      have h1 := ht.1 rfl
      by_cases c : 1 ≤ (rd_T36 l i).f2 ∧ (rd_T36 l i).f2 ≤ n
      · have hit : ItOk n (rd_T36 l i) := ⟨h1.1, h1.2.1, h1.2.2, c⟩
        by_cases p : i > 0
        · have g1 : 0 ≤ i - 1 := by omega
          have g2 : i - 1 < (l.length : Int) := by omega
          obtain ⟨b, eb, hb⟩ := specLess (rd_T36 l (i - 1)) (rd_T36 l i).f0 (rd_T36 l i).f1
          have go : ∃ r, Ev (fun k => spec_CatOk.j2 k i (!b) n l (rd_T36 l i).f0 (rd_T36 l i).f1 (rd_T36 l i).f2 (rd_T36 l i).f3) r ∧ (r = true ↔ AheadC n l l.length ∧ byt l 0 ≤ 500 ∧ byt l 1 ≤ 500) := by
            cases b with
            | true => exact j2t _ rfl hit (fun _ => hb.1 rfl)
            | false => exact j2f _ rfl (fun h => by have := hb.2 (h.2.1 p); cases this)
          refine lift go (fun r e => ?_)
          simp only [spec_CatOk.l0, if_pos g, if_pos i0]
          refine bd et ?_
          simp only [if_true, l1In_f, Option.bind_some, andB, yesB c, if_pos p, wi p, if_pos g1, if_pos g2, eb]; exact e
        · refine lift (j2t false rfl hit (fun h => absurd h p)) (fun r e => ?_)
          simp only [spec_CatOk.l0, if_pos g, if_pos i0]
          refine bd et ?_
          simp only [if_true, l1In_f, Option.bind_some, andB, yesB c, if_neg p]; exact e
      · have hn : ¬ At n l i := fun h => c h.1.2.2.2
        refine lift (j2f true rfl hn) (fun r e => ?_)
        simp only [spec_CatOk.l0, if_pos g, if_pos i0]
        refine bd et ?_
        simp only [if_true, l1In_f, Option.bind_some, andB, notB c, Bool.false_eq_true, if_false]; exact e
theorem specCatOk (n : Int) (l : List S36) (hs : Small l) (hl : l.length ≤ 1048576) : Ev (fun k => spec_CatOk.f k n l) (catB n l) := by
  unfold spec_CatOk.f
  simp only [l1In_f, Option.bind_some, andB]
  by_cases c : 0 ≤ n ∧ n ≤ 99999
  · simp only [yesB c, if_true]
    by_cases d : (l.length : Int) > 8
    · rw [catB_no fun h => by have := h.len; omega]
      refine up ?_
      simp only [spec_CatOk.j0, yesB d, if_true]; exact Ev.now _
    · obtain ⟨b, e, hb⟩ := specCat_l0 n l hs hl l.length 0 (by omega) (by omega) (fun j a b => by omega)
      rw [← catP_iff n l c (by omega), ← catB_iff] at hb
      rw [← boolEq hb]
      refine up ?_
      simp only [spec_CatOk.j0, notB d, Bool.false_eq_true, if_false]; exact e
  · rw [catB_no fun h => c h.lst]
    simp only [notB c, Bool.false_eq_true, if_false]
    refine up ?_
    simp only [spec_CatOk.j0, if_true]; exact Ev.now _

theorem implTail (n : Int) (l : List S36) (hs : Small l) (hl : l.length ≤ 1048576) : ∃ b, Ev (fun k => impl_CatOk.l1 k 0 n l) b ∧ (b = true ↔ byt l 0 ≤ 500 ∧ byt l 1 ≤ 500) := by
  have h00 : (0 : Int) < 2 := by omega
  have h01 : (1 : Int) < 2 := by omega
  have h02 : ¬ (2 : Int) < 2 := by omega
  have w0 : wrap64 (0 + 1) = 1 := by rw [wz (by omega)]; omega
  have w1 : wrap64 (1 + 1) = 2 := by rw [wz (by omega)]; omega
  by_cases a : byt l 0 ≤ 500
  · have ga : ¬ (byt l 0 : Int) > 500 := by omega
    by_cases b : byt l 1 ≤ 500
    · have gb : ¬ (byt l 1 : Int) > 500 := by omega
      refine ⟨true, up ?_, fun _ => ⟨a, b⟩, fun _ => rfl⟩
      simp only [impl_CatOk.l1, if_pos h00]
      refine bd (implBytes l n 0 hs hl) ?_
      simp only [if_neg ga, w0]
      refine up ?_
      simp only [impl_CatOk.l1, if_pos h01]
      refine bd (implBytes l n 1 hs hl) ?_
      simp only [if_neg gb, w1]
      refine up ?_
      simp only [impl_CatOk.l1, if_neg h02]
      exact Ev.now _
    · have gb : (byt l 1 : Int) > 500 := by omega
      refine ⟨false, up ?_, (fun h => by cases h), fun h => absurd h.2 b⟩
      simp only [impl_CatOk.l1, if_pos h00]
      refine bd (implBytes l n 0 hs hl) ?_
      simp only [if_neg ga, w0]
      refine up ?_
      simp only [impl_CatOk.l1, if_pos h01]
      refine bd (implBytes l n 1 hs hl) ?_
      simp only [if_pos gb]
      exact Ev.now _
  · have ga : (byt l 0 : Int) > 500 := by omega
    refine ⟨false, up ?_, (fun h => by cases h), fun h => absurd h.1 a⟩
    simp only [impl_CatOk.l1, if_pos h00]
    refine bd (implBytes l n 0 hs hl) ?_
    simp only [if_pos ga]
    exact Ev.now _
theorem implCat_l0 (n : Int) (l : List S36) (hs : Small l) (hl : l.length ≤ 1048576) : ∀ (d : Nat) (i : Int), 0 ≤ i → i + d = l.length → AheadC n l i →
    ∃ b, Ev (fun k => impl_CatOk.l0 k l (l.length : Int) i n l) b ∧ (b = true ↔ AheadC n l l.length ∧ byt l 0 ≤ 500 ∧ byt l 1 ≤ 500) := by
  intro d
  induction d with
  | zero =>
    intro i i0 hi hA
    have g : ¬ i < (l.length : Int) := by omega
    obtain ⟨b, e, hb⟩ := implTail n l hs hl
    refine ⟨b, up ?_, ?_⟩
    · simp only [impl_CatOk.l0, if_neg g]; exact e
    · obtain rfl : i = l.length := by omega
      rw [hb]; exact ⟨fun h => ⟨hA, h⟩, fun h => h.2⟩
  | succ d ih =>
    intro i i0 hi hA
    have g : i < (l.length : Int) := by omega
    have hw : wrap64 (i + 1) = i + 1 := wz (by omega)
    have bad : ¬ At n l i → (false = true ↔ AheadC n l l.length ∧ byt l 0 ≤ 500 ∧ byt l 1 ≤ 500) := fun hn => ⟨(fun h => by cases h), fun h => absurd (h.1 i i0 g) hn⟩
    have good : At n l i → ∃ b, Ev (fun k => impl_CatOk.l0 k l (l.length : Int) (i + 1) n l) b ∧ (b = true ↔ AheadC n l l.length ∧ byt l 0 ≤ 500 ∧ byt l 1 ≤ 500) :=
      fun hg => ih (i + 1) (by omega) (by omega) (fun j a b => by
        by_cases ej : j = i
        · subst ej; exact hg
        · exact hA j a (by omega))
    obtain ⟨t, et, ht⟩ := implIt (rd_T36 l i) (hs i i0 g).1
    have wi : 0 < i → wrap64 (i - 1) = i - 1 := fun _ => wz (by omega)
    cases t with
    | false =>
      refine ⟨false, up ?_, bad fun h => by have := ht.2 ⟨h.1.1, h.1.2.1, h.1.2.2.1⟩; cases this⟩
      simp only [impl_CatOk.l0, if_pos g, if_pos i0]
      refine bd et ?_
      simp only [Bool.false_eq_true, if_false]; exact Ev.now _
    | true =>
      have h1 := ht.1 rfl
      by_cases c : 1 ≤ (rd_T36 l i).f2 ∧ (rd_T36 l i).f2 ≤ n
      · have hit : ItOk n (rd_T36 l i) := ⟨h1.1, h1.2.1, h1.2.2, c⟩
        have self : (fun x : S36 => x.f2 == (rd_T36 l i).f2) (rd_T36 l i) = true := by simp
        by_cases e : idxFrom (fun x => x.f2 == (rd_T36 l i).f2) l 0 = i
        · have hon : ∀ q : Int, 0 ≤ q → q < i → (rd_T36 l q).f2 ≠ (rd_T36 l i).f2 := by
            rcases idx_first (fun x => x.f2 == (rd_T36 l i).f2) l with ⟨m, _⟩ | ⟨r, m, _, _, _, hf⟩
            · omega
            · obtain rfl : r = i := by omega
              intro q a b
              have := hf q a b
              simpa using this
          by_cases p : i > 0
          · have g1 : 0 ≤ i - 1 := by omega
            have g2 : i - 1 < (l.length : Int) := by omega
            obtain ⟨r, er, hr⟩ := implOrder (rd_T36 l (i - 1)) (rd_T36 l i)
            by_cases s : r ≥ 0
            · refine ⟨false, up ?_, bad fun h => by have := hr.2 (h.2.1 p); omega⟩
              simp only [impl_CatOk.l0, if_pos g, if_pos i0]
              refine bd et ?_
              simp only [if_true, within_f, Option.bind_some, andB, yesB c, impl_Cat_edition.f, if_pos e, if_pos p, wi p, if_pos g1, if_pos g2]
              refine bd er ?_
              simp only [if_pos s]; exact Ev.now _
            · obtain ⟨b, eb, hb⟩ := good ⟨hit, fun _ => hr.1 (by omega), hon⟩
              refine ⟨b, up ?_, hb⟩
              simp only [impl_CatOk.l0, if_pos g, if_pos i0]
              refine bd et ?_
              simp only [if_true, within_f, Option.bind_some, andB, yesB c, impl_Cat_edition.f, if_pos e, if_pos p, wi p, if_pos g1, if_pos g2]
              refine bd er ?_
              simp only [if_neg s, hw]; exact eb
          · obtain ⟨b, eb, hb⟩ := good ⟨hit, fun h => absurd h p, hon⟩
            refine ⟨b, up ?_, hb⟩
            simp only [impl_CatOk.l0, if_pos g, if_pos i0]
            refine bd et ?_
            simp only [if_true, within_f, Option.bind_some, andB, yesB c, impl_Cat_edition.f, if_pos e, if_neg p, hw]; exact eb
        · refine ⟨false, up ?_, bad fun h => e ?_⟩
          · simp only [impl_CatOk.l0, if_pos g, if_pos i0]
            refine bd et ?_
            simp only [if_true, within_f, Option.bind_some, andB, yesB c, impl_Cat_edition.f, if_neg e]; exact Ev.now _
          · rcases idx_first (fun x => x.f2 == (rd_T36 l i).f2) l with ⟨_, m⟩ | ⟨r, m, r0, r1, hr, hf⟩
            · have := m i i0 g
              simp at this
            · rw [m]
              have hr' : (rd_T36 l r).f2 = (rd_T36 l i).f2 := by simpa using hr
              by_cases lt : r < i
              · exact absurd hr' (h.2.2 r r0 lt)
              · by_cases gt : i < r
                · have := hf i i0 gt
                  simp at this
                · omega
      · refine ⟨false, up ?_, bad fun h => c h.1.2.2.2⟩
        simp only [impl_CatOk.l0, if_pos g, if_pos i0]
        refine bd et ?_
        simp only [if_true, within_f, Option.bind_some, andB, notB c, Bool.false_eq_true, if_false]; exact Ev.now _
theorem implCatOk (n : Int) (l : List S36) (hs : Small l) (hl : l.length ≤ 1048576) : Ev (fun k => impl_CatOk.f k n l) (catB n l) := by
  unfold impl_CatOk.f
  simp only [within_f, Option.bind_some, andB]
  by_cases c : 0 ≤ n ∧ n ≤ 99999
  · simp only [yesB c, if_true]
    by_cases d : (l.length : Int) > 8
    · rw [catB_no fun h => by have := h.len; omega]
      refine up ?_
      simp only [impl_CatOk.j0, yesB d, if_true]; exact Ev.now _
    · obtain ⟨b, e, hb⟩ := implCat_l0 n l hs hl l.length 0 (by omega) (by omega) (fun j a b => by omega)
      rw [← catP_iff n l c (by omega), ← catB_iff] at hb
      rw [← boolEq hb]
      refine up ?_
      simp only [impl_CatOk.j0, notB d, Bool.false_eq_true, if_false]; exact e
  · rw [catB_no fun h => c h.lst]
    simp only [notB c, Bool.false_eq_true, if_false]
    refine up ?_
    simp only [impl_CatOk.j0, if_true]; exact Ev.now _

theorem idx_range (p : S36 → Bool) (l : List S36) : idxFrom p l 0 = -1 ∨ (0 ≤ idxFrom p l 0 ∧ idxFrom p l 0 < l.length) := by
  rcases idx_first p l with ⟨h, _⟩ | ⟨r, h, r0, r1, _⟩
  · exact .inl h
  · rw [h]; exact .inr ⟨r0, r1⟩
/-- What is told of the item at r, none if r is -1. -/
def itM (l : List S36) (r : Int) : Int × ByteArray × Int × ByteArray × Bool :=
  if r < 0 then (0, (⟨#[]⟩ : ByteArray), 0, (⟨#[]⟩ : ByteArray), false) else ((rd_T36 l r).f0, (rd_T36 l r).f1, (rd_T36 l r).f2, (rd_T36 l r).f3, true)
def getM (ok : Bool) (l : List S36) (r : Int) : Int × ByteArray × Int × ByteArray × Bool := if ok = true then itM l r else itM l (-1)

theorem specEd (n : Int) (l : List S36) (h : Int) (hl : l.length ≤ 1048576) : Ev (fun k => spec_l9Edition.f k n l h) (itM l (idxFrom (fun x => x.f2 == h) l 0)) := by
  have main : ∀ (d : Nat) (i : Int), 0 ≤ i → i + d = l.length → Ev (fun k => spec_l9Edition.l0 k h i n l) (itM l (idxFrom (fun x => x.f2 == h) (l.drop i.toNat) i)) := by
    intro d
    induction d with
    | zero =>
      intro i i0 hi
      have g : ¬ i < (l.length : Int) := by omega
      rw [show i.toNat = l.length by omega, List.drop_length]
      refine up ?_
      simp only [spec_l9Edition.l0, if_neg g]
      exact Ev.now _
    | succ d ih =>
      intro i i0 hi
      have g : i < (l.length : Int) := by omega
      have hw : wrap64 (i + 1) = i + 1 := wz (by omega)
      have nx := ih (i + 1) (by omega) (by omega)
      rw [idx_at _ l i i0 g]
      refine up ?_
      by_cases c : (rd_T36 l i).f2 = h
      · simp only [spec_l9Edition.l0, if_pos g, if_pos i0, if_pos c]
        rw [if_pos (by simp [c])]
        unfold itM
        rw [if_neg (by omega)]
        exact Ev.now _
      · simp only [spec_l9Edition.l0, if_pos g, if_pos i0, if_neg c, hw]
        rw [if_neg (by simp [c])]; exact nx
  unfold spec_l9Edition.f
  exact main l.length 0 (by omega) (by omega)
theorem implCatEdition (n : Int) (l : List S36) (h : Int) (hs : Small l) (hl : l.length ≤ 1048576) :
    Ev (fun k => impl_CatEdition.f k n l h) (getM (catB n l) l (idxFrom (fun x => x.f2 == h) l 0)) := by
  unfold impl_CatEdition.f impl_Cat_edition.f getM itM
  have hr := idx_range (fun x => x.f2 == h) l
  generalize idxFrom (fun x => x.f2 == h) l 0 = r at hr
  simp only [Option.bind_some]
  refine bd (implCatOk n l hs hl) ?_
  by_cases c : catB n l = true
  · by_cases z : r < 0
    · simp only [if_pos c, if_pos z]; exact Ev.now _
    · have z0 : 0 ≤ r := by omega
      have z1 : r < (l.length : Int) := by omega
      simp only [if_pos c, if_neg z, if_pos z0, if_pos z1]; exact Ev.now _
  · simp only [if_neg c]; exact Ev.now _
theorem specCatEdition (n : Int) (l : List S36) (h : Int) (hs : Small l) (hl : l.length ≤ 1048576) :
    Ev (fun k => spec_CatEdition.f k n l h) (getM (catB n l) l (idxFrom (fun x => x.f2 == h) l 0)) := by
  unfold spec_CatEdition.f getM
  refine bd (specCatOk n l hs hl) ?_
  by_cases c : catB n l = true
  · simp only [if_pos c]
    exact bd (specEd n l h hl) (Ev.now _)
  · simp only [if_neg c]; exact Ev.now _
theorem FnExactCatEdition (a0_0 : Int) (l0_1 : List (S78)) (a1 : Int) (h0 : ((Lit.int .i64 a0_0).wf = true) ∧ (l0_1.length ≤ 9223372036854775807 ∧ ∀ x ∈ l0_1, ((Lit.int .i64 x.f0).wf = true) ∧ ((x.f1.size ≤ 9223372036854775807) ∧ (((Lit.int .i64 x.f2).wf = true) ∧ ((x.f3.size ≤ 9223372036854775807)))))) (h1 : (Lit.int .i64 a1).wf = true) :
    ∃ k, laws_FnExactCatEdition.f k a0_0 l0_1 a1 = some true := by
  refine ex ?_
  unfold laws_FnExactCatEdition.f
  obtain ⟨r, er, hr⟩ := szCat a0_0 l0_1 h0.2.1 (fun x hx => ⟨(h0.2.2 x hx).2.1, (h0.2.2 x hx).2.2.2⟩)
  refine bd er ?_
  by_cases c : r < 0
  · simp only [if_pos c]; exact Ev.now _
  · simp only [if_neg c]
    obtain ⟨hl, hf⟩ := hr (by omega)
    have hs := small_map l0_1 hf
    have hT := toCat a0_0 l0_1 hl
    have hm : (l0_1.map toIt).length ≤ 1048576 := by simp; omega
    generalize l0_1.map toIt = l at hs hT hm
    refine bd hT ?_
    refine bd (specCatEdition _ _ _ hs hm) ?_
    refine bd hT ?_
    refine bd (implCatEdition _ _ _ hs hm) ?_
    simp only [laws_eqItem.f, if_true, Option.bind_some, bne_self_eq_false]
    refine up ?_
    simp only [laws_FnExactCatEdition.j0, Bool.false_eq_true, if_false]
    refine bd hT ?_
    refine bd (eqCat _ _ (by omega)) ?_
    simp only [if_true]
    exact Ev.now _

end Go.Proofs.Ytbpmfdpbgcpjeaa.Pure
