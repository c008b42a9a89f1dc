/-
For every catalogue, house and name, the program's CatTake and the reference's CatTake give the same (of a good catalogue: without the first item of that house and name, or as it was), leave the catalogue as it was and give a catalogue of their own, so FnExactCatTake returns true.
Conditions: none beyond the form's own reach.
-/
import Derived.Test.YtbpmfdpbgcpjeaaPFnExactCatTakex0
import Derived.Test.YtbpmfdpbgcpjeaaPFnExactCatTakex1
import Derived.Test.YtbpmfdpbgcpjeaaPFnExactCatTakex2
import Derived.Test.YtbpmfdpbgcpjeaaPFnExactCatTakex3
import Derived.Test.YtbpmfdpbgcpjeaaPFnExactCatTakex4
import Derived.Test.YtbpmfdpbgcpjeaaPFnExactCatTakex5
import Derived.Test.YtbpmfdpbgcpjeaaPFnExactCatTakex6
import Derived.Test.YtbpmfdpbgcpjeaaPFnExactCatTakex7
import Derived.Test.YtbpmfdpbgcpjeaaPFnExactCatTakex8
import Derived.Test.YtbpmfdpbgcpjeaaPFnExactCatTakex9
import Derived.Test.YtbpmfdpbgcpjeaaPFnExactCatTakex10
import Derived.Test.YtbpmfdpbgcpjeaaPFnExactCatTakex11
import Derived.Test.YtbpmfdpbgcpjeaaPFnExactCatTakex12
import Derived.Test.YtbpmfdpbgcpjeaaPFnExactCatTakex13
import Derived.Test.YtbpmfdpbgcpjeaaPFnExactCatTakex14
import Derived.Test.YtbpmfdpbgcpjeaaPFnExactCatTakex15
import Derived.Test.YtbpmfdpbgcpjeaaPFnExactCatTakex16
import Derived.Test.YtbpmfdpbgcpjeaaPFnExactCatTakex17
import Derived.Test.YtbpmfdpbgcpjeaaPFnExactCatTakex18
import Derived.Test.YtbpmfdpbgcpjeaaPFnExactCatTakex19
import Derived.Test.YtbpmfdpbgcpjeaaPFnExactCatTakex20
import Derived.Test.YtbpmfdpbgcpjeaaPFnExactCatTakex21
import Derived.Test.YtbpmfdpbgcpjeaaVPureC
namespace Go.Proofs.Ytbpmfdpbgcpjeaa.Pure
open Go.RowKit Go.Proofs.Ytbpmfdpbgcpjeaa.PFnExactCatTake Go.Proofs.Ytbpmfdpbgcpjeaa.C Go.Proofs.YtbpmfdpbgcpjeaaW.PrintWords Go.Proofs.YtbpmfdpbgcpjeaaW.PrintLast
set_option linter.unusedVariables false
set_option linter.unusedSimpArgs false

/-- A name: letters, one to six of them. -/
def nameF (s : ByteArray) : Nat → Bool
  | 0 => decide (1 ≤ s.size) && decide (s.size ≤ 6)
  | d + 1 => if bt s ((s.size : Int) - (d + 1)) < 97 then false else if bt s ((s.size : Int) - (d + 1)) > 122 then false else nameF s d
def nameB (s : ByteArray) : Bool := nameF s s.size

theorem l1In_f (a b c : Int) : spec_l1In.f a b c = some (decide (b ≤ a) && decide (a ≤ c)) := by
  unfold spec_l1In.f
  by_cases h : b ≤ a <;> simp [h]
theorem within_f (a b c : Int) : impl_within.f a b c = some (decide (b ≤ a) && decide (a ≤ c)) := by
  unfold impl_within.f
  by_cases h : b ≤ a <;> simp [h]

theorem specName_l0 (s : ByteArray) (hs : s.size ≤ 140737488351232) : ∀ (d : Nat), d ≤ s.size → Ev (fun k => spec_NameOk.l0 k s ((s.size : Int) - d)) (nameF s d) := by
  intro d
  induction d with
  | zero =>
    intro _
    refine up ?_
    have h : ¬ ((s.size : Int) - ((0 : Nat) : Int) < s.size) := by omega
    simp only [spec_NameOk.l0, if_neg h, l1In_f, Option.bind_some, nameF]
    rw [show decide (1 ≤ (s.size : Int)) = decide (1 ≤ s.size) from decide_eq_decide.2 (by omega), show decide ((s.size : Int) ≤ 6) = decide (s.size ≤ 6) from decide_eq_decide.2 (by omega)]
    exact Ev.now _
  | succ d ih =>
    intro hd
    refine up ?_
    have h1 : (s.size : Int) - ((d + 1 : Nat) : Int) < s.size := by omega
    have h2 : 0 ≤ (s.size : Int) - ((d + 1 : Nat) : Int) := by omega
    have h3 : wrap64 ((s.size : Int) - ((d + 1 : Nat) : Int) + 1) = (s.size : Int) - (d : Int) := by rw [wz (by omega)]; omega
    have e : ((d + 1 : Nat) : Int) = (d : Int) + 1 := by omega
    simp only [spec_NameOk.l0, if_pos h1, if_pos h2, h3, nameF]
    rw [e]
    by_cases h4 : bt s ((s.size : Int) - ((d : Int) + 1)) < 97
    · simp only [if_pos h4]; exact Ev.now _
    · simp only [if_neg h4]
      by_cases h5 : bt s ((s.size : Int) - ((d : Int) + 1)) > 122
      · simp only [if_pos h5]; exact Ev.now _
      · simp only [if_neg h5]; exact ih (by omega)
theorem specName (s : ByteArray) (hs : s.size ≤ 140737488351232) : Ev (fun k => spec_NameOk.f k s) (nameB s) := by
  have h := specName_l0 s hs s.size (Nat.le_refl _)
  have e : (s.size : Int) - (s.size : Int) = 0 := by omega
  rw [e] at h
  exact h

theorem implName_l0 (s : ByteArray) (hs : s.size ≤ 140737488351232) : ∀ (d : Nat), d ≤ s.size → Ev (fun k => impl_NameOk.l0 k s (s.size : Int) ((s.size : Int) - d)) (nameF s d) := by
  intro d
  induction d with
  | zero =>
    intro _
    refine up ?_
    have h : ¬ ((s.size : Int) - ((0 : Nat) : Int) < s.size) := by omega
    simp only [impl_NameOk.l0, if_neg h, within_f, Option.bind_some, nameF]
    rw [show decide (1 ≤ (s.size : Int)) = decide (1 ≤ s.size) from decide_eq_decide.2 (by omega), show decide ((s.size : Int) ≤ 6) = decide (s.size ≤ 6) from decide_eq_decide.2 (by omega)]
    exact Ev.now _
  | succ d ih =>
    intro hd
    refine up ?_
    have h1 : (s.size : Int) - ((d + 1 : Nat) : Int) < s.size := by omega
    have h2 : 0 ≤ (s.size : Int) - ((d + 1 : Nat) : Int) := by omega
    have h3 : wrap64 ((s.size : Int) - ((d + 1 : Nat) : Int) + 1) = (s.size : Int) - (d : Int) := by rw [wz (by omega)]; omega
    have e : ((d + 1 : Nat) : Int) = (d : Int) + 1 := by omega
    simp only [impl_NameOk.l0, if_pos h1, if_pos h2, h3, nameF]
    rw [e]
    by_cases h4 : bt s ((s.size : Int) - ((d : Int) + 1)) < 97
    · simp only [if_pos h4]; exact Ev.now _
    · simp only [if_neg h4]
      by_cases h5 : bt s ((s.size : Int) - ((d : Int) + 1)) > 122
      · simp only [if_pos h5]; exact Ev.now _
      · simp only [if_neg h5]; exact ih (by omega)
theorem implName (s : ByteArray) (hs : s.size ≤ 140737488351232) : Ev (fun k => impl_NameOk.f k s) (nameB s) := by
  have h := implName_l0 s hs s.size (Nat.le_refl _)
  have e : (s.size : Int) - (s.size : Int) = 0 := by omega
  rw [e] at h
  exact h

def Fits (x : S78) : Prop := x.f1.size ≤ 1048576 ∧ x.f3.size ≤ 1048576
theorem rdz_mem (l : List S78) (i : Int) (h0 : 0 ≤ i) (h1 : i < l.length) : rd_T78 l i ∈ l := by
  unfold rd_T78
  rw [List.getD_eq_getElem?_getD, List.getElem?_eq_getElem (by omega)]
  exact List.getElem_mem _
theorem szItem (x : S78) (a : Int) (h1 : x.f1.size ≤ 9223372036854775807) (h3 : x.f3.size ≤ 9223372036854775807) (a0 : 0 ≤ a) (a1 : a ≤ 1048576) :
    ∃ r, laws_szItem.f x.f0 x.f1 x.f2 x.f3 a = some r ∧ r ≤ a ∧ (0 ≤ r → Fits x) := by
  unfold laws_szItem.f
  rw [wz (n := a - (x.f1.size : Int)) (by omega)]
  by_cases c : a - (x.f1.size : Int) < 0
  · rw [if_pos c]; exact ⟨-1, rfl, by omega, fun h => by omega⟩
  · rw [if_neg c, wz (n := a - (x.f1.size : Int) - (x.f3.size : Int)) (by omega)]
    by_cases c2 : a - (x.f1.size : Int) - (x.f3.size : Int) < 0
    · rw [if_pos c2]; exact ⟨-1, rfl, by omega, fun h => by omega⟩
    · rw [if_neg c2]; exact ⟨_, rfl, by omega, fun _ => ⟨by omega, by omega⟩⟩
theorem szItems (l : List S78) (hl : l.length ≤ 9223372036854775807) (hs : ∀ x ∈ l, x.f1.size ≤ 9223372036854775807 ∧ x.f3.size ≤ 9223372036854775807) :
    ∃ r, Ev (fun k => laws_szItemS.f k l 1048576) r ∧ (0 ≤ r → l.length ≤ 1048576 ∧ ∀ j : Int, 0 ≤ j → j < l.length → Fits (rd_T78 l j)) := by
  unfold laws_szItemS.f
  rw [wz (n := 1048576 - (l.length : Int)) (by omega)]
  by_cases c : 1048576 - (l.length : Int) < 0
  · simp only [if_pos c]; exact ⟨-1, Ev.now _, fun h => by omega⟩
  · simp only [if_neg c]
    have main : ∀ (d : Nat) (i a : Int), 0 ≤ i → i + d = l.length → 0 ≤ a → a ≤ 1048576 → ∃ r, Ev (fun k => laws_szItemS.l0 k l a i) r ∧ (0 ≤ r → ∀ j : Int, i ≤ j → j < l.length → Fits (rd_T78 l j)) := by
      intro d
      induction d with
      | zero =>
        intro i a i0 hi a0 a1
        have g : ¬ i < (l.length : Int) := by omega
        refine ⟨a, up ?_, fun _ j j0 j1 => by omega⟩
        simp only [laws_szItemS.l0, if_neg g]
        exact Ev.now _
      | succ d ih =>
        intro i a i0 hi a0 a1
        have g : i < (l.length : Int) := by omega
        have hx := hs _ (rdz_mem l i i0 g)
        obtain ⟨r, e, ra, rf⟩ := szItem (rd_T78 l i) a hx.1 hx.2 a0 a1
        have hw : wrap64 (i + 1) = i + 1 := wz (by omega)
        by_cases cr : r < 0
        · refine ⟨-1, up ?_, fun h => by omega⟩
          simp only [laws_szItemS.l0, if_pos g, if_pos i0, e, Option.bind_some, if_pos cr]
          exact Ev.now _
        · obtain ⟨s, es, hs'⟩ := ih (i + 1) r (by omega) (by omega) (by omega) (by omega)
          refine ⟨s, up ?_, fun h j j0 j1 => ?_⟩
          · simp only [laws_szItemS.l0, if_pos g, if_pos i0, e, Option.bind_some, if_neg cr, hw]
            exact es
          · by_cases ej : j = i
            · subst ej; exact rf (by omega)
            · exact hs' h j (by omega) j1
    obtain ⟨r, e, h⟩ := main l.length 0 (1048576 - (l.length : Int)) (by omega) (by omega) (by omega) (by omega)
    exact ⟨r, e, fun h0 => ⟨by omega, fun j j0 j1 => h h0 j j0 j1⟩⟩
theorem szCat (n : Int) (l : List S78) (hl : l.length ≤ 9223372036854775807) (hs : ∀ x ∈ l, x.f1.size ≤ 9223372036854775807 ∧ x.f3.size ≤ 9223372036854775807) :
    ∃ r, Ev (fun k => laws_szCat.f k n l 1048576) r ∧ (0 ≤ r → l.length ≤ 1048576 ∧ ∀ j : Int, 0 ≤ j → j < l.length → Fits (rd_T78 l j)) := by
  obtain ⟨r, e, h⟩ := szItems l hl hs
  unfold laws_szCat.f
  by_cases c : r < 0
  · refine ⟨-1, bd e ?_, fun h => by omega⟩
    simp only [if_pos c]; exact Ev.now _
  · refine ⟨r, bd e ?_, h⟩
    simp only [if_neg c]; exact Ev.now _
/-- The item as the program's package has it. -/
def toIt (x : S78) : S36 := ⟨x.f0, x.f1, x.f2, x.f3⟩
theorem toItems (l : List S78) (hl : l.length ≤ 1048576) : Ev (fun k => laws_toItemS.f k l) (l.map toIt) := by
  have main : ∀ (d i : Nat), i + d = l.length → Ev (fun k => laws_toItemS.l0 k l ((l.take i).map toIt ++ List.replicate (l.length - i) z36) (i : Int)) (l.map toIt) := by
    intro d
    induction d with
    | zero =>
      intro i hi
      have h1 : ¬ (i : Int) < (l.length : Int) := by omega
      obtain rfl : i = l.length := by omega
      refine up ?_
      simp only [laws_toItemS.l0, if_neg h1, fill_end]
      exact Ev.now _
    | succ d ih =>
      intro i hi
      have h1 : (i : Int) < (l.length : Int) := by omega
      have h2 : 0 ≤ (i : Int) := by omega
      have h3 : (i : Int) < ((((l.take i).map toIt ++ List.replicate (l.length - i) z36).length : Nat) : Int) := by simp; omega
      have h4 : wrap64 ((i : Int) + 1) = ((i + 1 : Nat) : Int) := by rw [wz (by omega)]; omega
      refine up ?_
      simp only [laws_toItemS.l0, if_pos h1, if_pos h2, if_pos h3, laws_toItem.f, Option.bind_some, h4, Int.toNat_natCast]
      have this : ((l.take i).map toIt ++ List.replicate (l.length - i) z36).set i (⟨(l.getD i z78).f0, (l.getD i z78).f1, (l.getD i z78).f2, (l.getD i z78).f3⟩ : S36) = _ := fill_step toIt z36 z78 l i (by omega)
      simp only [rd_T78, Int.toNat_natCast, this]
      exact ih (i + 1) (by omega)
  unfold laws_toItemS.f
  have h1 : 0 ≤ (l.length : Int) := by omega
  have h2 : l.length ≤ 5864062014805 := by omega
  simp only [if_pos h1, Int.toNat_natCast, if_pos h2]
  have := main l.length 0 (by omega)
  simpa using this
theorem toCat (n : Int) (l : List S78) (hl : l.length ≤ 1048576) : Ev (fun k => laws_toCat.f k n l) (n, l.map toIt) := by
  unfold laws_toCat.f
  exact bd (toItems l hl) (Ev.now _)
theorem eqItems (l : List S36) (hl : l.length ≤ 2000000) : Ev (fun k => laws_eqItemS.f k l l) true := by
  have main : ∀ (d i : Nat), i + d = l.length → Ev (fun k => laws_eqItemS.l0 k l l (i : Int)) true := by
    intro d
    induction d with
    | zero =>
      intro i hi
      have h1 : ¬ (i : Int) < (l.length : Int) := by omega
      refine up ?_
      simp only [laws_eqItemS.l0, if_neg h1]
      exact Ev.now _
    | succ d ih =>
      intro i hi
      have h1 : (i : Int) < (l.length : Int) := by omega
      have h2 : 0 ≤ (i : Int) := by omega
      have h4 : wrap64 ((i : Int) + 1) = ((i + 1 : Nat) : Int) := by rw [wz (by omega)]; omega
      refine up ?_
      simp only [laws_eqItemS.l0, if_pos h1, if_pos h2, laws_eqItem.f, if_true, Option.bind_some, h4]
      exact ih (i + 1) (by omega)
  unfold laws_eqItemS.f
  simp only [if_true]
  exact main l.length 0 (by omega)
theorem eqCat (n : Int) (l : List S36) (hl : l.length ≤ 2000000) : Ev (fun k => laws_eqCat.f k n l n l) true := by
  unfold laws_eqCat.f
  simp only [if_true]
  refine bd (eqItems l hl) ?_
  simp only [if_true]
  exact Ev.now _
/-- No name and no text of the list is greater than the law allows. -/
def Small (l : List S36) : Prop := ∀ j : Int, 0 ≤ j → j < l.length → (rd_T36 l j).f1.size ≤ 1048576 ∧ (rd_T36 l j).f3.size ≤ 1048576
theorem small_map (l : List S78) (h : ∀ j : Int, 0 ≤ j → j < l.length → Fits (rd_T78 l j)) : Small (l.map toIt) := by
  intro j j0 j1
  rw [List.length_map] at j1
  have e : rd_T36 (l.map toIt) j = toIt (rd_T78 l j) := by
    unfold rd_T36 rd_T78
    rw [List.getD_eq_getElem?_getD, List.getD_eq_getElem?_getD, List.getElem?_eq_getElem (by rw [List.length_map]; omega), List.getElem?_eq_getElem (by omega)]
    simp
  rw [e]
  exact h j j0 j1

/-- How the catalogue is ordered: by house, then by name. -/
def less (x : S36) (h : Int) (n : ByteArray) : Prop := x.f0 < h ∨ (x.f0 = h ∧ Op.bytesLess x.f1.toList n.toList = true)
theorem specLess (x : S36) (h : Int) (n : ByteArray) : ∃ b, spec_l9Less.f x.f0 x.f1 x.f2 x.f3 h n = some b ∧ (b = true ↔ less x h n) := by
  unfold spec_l9Less.f less
  by_cases c : x.f0 < h
  · rw [if_pos c]; exact ⟨true, rfl, fun _ => .inl c, fun _ => rfl⟩
  · rw [if_neg c]
    by_cases d : x.f0 = h
    · rw [if_pos d]; exact ⟨_, rfl, fun g => .inr ⟨d, g⟩, fun g => by rcases g with g | g; exact absurd g c; exact g.2⟩
    · rw [if_neg d]; exact ⟨false, rfl, (fun g => by cases g), fun g => by rcases g with g | g; exact absurd g c; exact absurd g.1 d⟩
theorem compareInt (a b : Int) : cmp_Compare_int.f a b = some (if a < b then -1 else if a > b then 1 else 0) := by
  unfold cmp_Compare_int.f cmp_isNaN_int.f
  simp only [bne_self_eq_false, Option.bind_some, Bool.false_eq_true, if_false]
  split
  · rfl
  · split <;> rfl
theorem compareStr (a b : ByteArray) : cmp_Compare_string.f a b = some (if Op.bytesLess a.toList b.toList = true then -1 else if Op.bytesLess b.toList a.toList = true then 1 else 0) := by
  unfold cmp_Compare_string.f cmp_isNaN_string.f
  simp only [bne_self_eq_false, Option.bind_some, Bool.false_eq_true, if_false]
  split
  · rfl
  · split <;> rfl
theorem orInt (a b : Int) : Ev (fun k => cmp_Or_int.f k [a, b]) (if a = 0 then b else a) := by
  unfold cmp_Or_int.f
  have l0 : (0 : Int) < (([a, b] : List Int).length : Int) := by simp
  have l1 : (1 : Int) < (([a, b] : List Int).length : Int) := by simp
  have l2 : ¬ (2 : Int) < (([a, b] : List Int).length : Int) := by simp
  have w0 : wrap64 (0 + 1) = 1 := by rw [wz (by omega)]; omega
  have w1 : wrap64 (1 + 1) = 2 := by rw [wz (by omega)]; omega
  have r0 : rd [a, b] 0 = a := rfl
  have r1 : rd [a, b] 1 = b := rfl
  have z : (0 : Int) ≤ 0 := by omega
  have z1 : (0 : Int) ≤ 1 := by omega
  by_cases ca : a = 0
  · refine up ?_
    simp only [cmp_Or_int.l0, if_pos l0, if_pos z, r0, if_pos ca, w0]
    refine up ?_
    by_cases cb : b = 0
    · simp only [cmp_Or_int.l0, if_pos l1, if_pos z1, r1, if_pos cb, w1]
      refine up ?_
      simp only [cmp_Or_int.l0, if_neg l2]
      rw [cb]; exact Ev.now _
    · simp only [cmp_Or_int.l0, if_pos l1, if_pos z1, r1, if_neg cb]
      exact Ev.now _
  · refine up ?_
    simp only [cmp_Or_int.l0, if_pos l0, if_pos z, r0, if_neg ca]
    exact Ev.now _
theorem implOrder (x y : S36) : ∃ r, Ev (fun k => impl_itemOrder.f k x.f0 x.f1 x.f2 x.f3 y.f0 y.f1 y.f2 y.f3) r ∧ (r < 0 ↔ less x y.f0 y.f1) := by
  unfold impl_itemOrder.f less
  refine ⟨_, (by
    simp only [compareInt, compareStr, Option.bind_some]
    exact bd (orInt _ _) (Ev.now _)), ?_⟩
  by_cases c : x.f0 < y.f0
  · simp [c]
  · by_cases d : x.f0 > y.f0
    · have : ¬ x.f0 = y.f0 := by omega
      simp [c, d, this]
    · have e : x.f0 = y.f0 := by omega
      by_cases f : Op.bytesLess x.f1.toList y.f1.toList = true
      · simp [e, f]
      · by_cases g : Op.bytesLess y.f1.toList x.f1.toList = true
        · simp [e, f, g]
        · simp [e, f, g]
theorem idx_at (p : S36 → Bool) (l : List S36) (x : Int) (h0 : 0 ≤ x) (h1 : x < l.length) : idxFrom p (l.drop x.toNat) x = if p (rd_T36 l x) = true then x else idxFrom p (l.drop (x + 1).toNat) (x + 1) := by
  have hx : x.toNat < l.length := by omega
  rw [List.drop_eq_getElem_cons hx, show (x + 1).toNat = x.toNat + 1 by omega]
  have : rd_T36 l x = l[x.toNat] := by unfold rd_T36; rw [List.getD_eq_getElem?_getD, List.getElem?_eq_getElem hx]; rfl
  rw [this]
  rfl
theorem idxFrom_first (p : S36 → Bool) (l : List S36) : ∀ (d : Nat) (i : Int), 0 ≤ i → i + d = l.length →
    (idxFrom p (l.drop i.toNat) i = -1 ∧ ∀ j : Int, i ≤ j → j < l.length → p (rd_T36 l j) = false) ∨ (∃ r : Int, idxFrom p (l.drop i.toNat) i = r ∧ i ≤ r ∧ r < l.length ∧ p (rd_T36 l r) = true ∧ ∀ j : Int, i ≤ j → j < r → p (rd_T36 l j) = false) := by
  intro d
  induction d with
  | zero =>
    intro i i0 hi
    left
    rw [show i.toNat = l.length by omega, List.drop_length]
    exact ⟨rfl, fun j a b => by omega⟩
  | succ d ih =>
    intro i i0 hi
    have e := idx_at p l i i0 (by omega)
    by_cases c : p (rd_T36 l i) = true
    · right
      rw [e, if_pos c]
      exact ⟨i, rfl, by omega, by omega, c, fun j a b => by omega⟩
    · rw [e, if_neg c]
      have c' : p (rd_T36 l i) = false := by simpa using c
      rcases ih (i + 1) (by omega) (by omega) with ⟨h1, h2⟩ | ⟨r, h1, h2, h3, h4, h5⟩
      · left
        refine ⟨h1, fun j a b => ?_⟩
        by_cases ej : j = i
        · subst ej; exact c'
        · exact h2 j (by omega) b
      · right
        refine ⟨r, h1, by omega, h3, h4, fun j a b => ?_⟩
        by_cases ej : j = i
        · subst ej; exact c'
        · exact h5 j (by omega) b
theorem idx_first (p : S36 → Bool) (l : List S36) :
    (idxFrom p l 0 = -1 ∧ ∀ j : Int, 0 ≤ j → j < l.length → p (rd_T36 l j) = false) ∨ (∃ r : Int, idxFrom p l 0 = r ∧ 0 ≤ r ∧ r < l.length ∧ p (rd_T36 l r) = true ∧ ∀ j : Int, 0 ≤ j → j < r → p (rd_T36 l j) = false) :=
  idxFrom_first p l l.length 0 (by omega) (by omega)
/-- How many bytes of text the house has among the first n. -/
def bytTo (l : List S36) (h : Int) : Nat → Nat
  | 0 => 0
  | n + 1 => bytTo l h n + (if (rd_T36 l (n : Int)).f0 = h then (rd_T36 l (n : Int)).f3.size else 0)
def byt (l : List S36) (h : Int) : Nat := bytTo l h l.length
theorem bytTo_le (l : List S36) (h : Int) (hs : Small l) : ∀ n : Nat, n ≤ l.length → bytTo l h n ≤ 1048576 * n := by
  intro n
  induction n with
  | zero => intro _; simp [bytTo]
  | succ n ih =>
    intro hn
    have := ih (by omega)
    have := (hs (n : Int) (by omega) (by omega)).2
    unfold bytTo
    split <;> omega
theorem specBytes (l : List S36) (h : Int) (hs : Small l) (hl : l.length ≤ 1048576) : Ev (fun k => spec_l9Bytes.f k l h) (byt l h : Int) := by
  have main : ∀ (d n : Nat), n + d = l.length → Ev (fun k => spec_l9Bytes.l0 k l h (bytTo l h n : Int) (n : Int)) (byt l h : Int) := by
    intro d
    induction d with
    | zero =>
      intro n hn
      have g : ¬ (n : Int) < (l.length : Int) := by omega
      obtain rfl : n = l.length := by omega
      refine up ?_
      simp only [spec_l9Bytes.l0, if_neg g]
      exact Ev.now _
    | succ d ih =>
      intro n hn
      have g : (n : Int) < (l.length : Int) := by omega
      have g0 : 0 ≤ (n : Int) := by omega
      have hw : wrap64 ((n : Int) + 1) = ((n + 1 : Nat) : Int) := by rw [wz (by omega)]; omega
      have hb := bytTo_le l h hs n (by omega)
      have hx := (hs (n : Int) g0 g).2
      have nx := ih (n + 1) (by omega)
      refine up ?_
      by_cases c : (rd_T36 l (n : Int)).f0 = h
      · have hw2 : wrap64 ((bytTo l h n : Int) + ((rd_T36 l (n : Int)).f3.size : Int)) = (bytTo l h (n + 1) : Int) := by rw [wz (by omega)]; simp [bytTo, c]
        simp only [spec_l9Bytes.l0, if_pos g, if_pos g0, if_pos c, hw, hw2]
        exact nx
      · have hw2 : bytTo l h (n + 1) = bytTo l h n := by simp [bytTo, c]
        rw [hw2] at nx
        simp only [spec_l9Bytes.l0, if_pos g, if_pos g0, if_neg c, hw]
        exact nx
  unfold spec_l9Bytes.f
  exact main l.length 0 (by omega)
theorem implBytes (l : List S36) (m h : Int) (hs : Small l) (hl : l.length ≤ 1048576) : Ev (fun k => impl_Cat_bytes.f k m l h) (byt l h : Int) := by
  have main : ∀ (d n : Nat), n + d = l.length → Ev (fun k => impl_Cat_bytes.l0 k h (bytTo l h n : Int) l (l.length : Int) (n : Int)) (byt l h : Int) := by
    intro d
    induction d with
    | zero =>
      intro n hn
      have g : ¬ (n : Int) < (l.length : Int) := by omega
      obtain rfl : n = l.length := by omega
      refine up ?_
      simp only [impl_Cat_bytes.l0, if_neg g]
      exact Ev.now _
    | succ d ih =>
      intro n hn
      have g : (n : Int) < (l.length : Int) := by omega
      have g0 : 0 ≤ (n : Int) := by omega
      have hw : wrap64 ((n : Int) + 1) = ((n + 1 : Nat) : Int) := by rw [wz (by omega)]; omega
      have hb := bytTo_le l h hs n (by omega)
      have hx := (hs (n : Int) g0 g).2
      have nx := ih (n + 1) (by omega)
      refine up ?_
      by_cases c : (rd_T36 l (n : Int)).f0 = h
      · have hw2 : wrap64 ((bytTo l h n : Int) + ((rd_T36 l (n : Int)).f3.size : Int)) = (bytTo l h (n + 1) : Int) := by rw [wz (by omega)]; simp [bytTo, c]
        simp only [impl_Cat_bytes.l0, if_pos g, if_pos g0, if_pos c, hw, hw2]
        exact nx
      · have hw2 : bytTo l h (n + 1) = bytTo l h n := by simp [bytTo, c]
        rw [hw2] at nx
        simp only [impl_Cat_bytes.l0, if_pos g, if_pos g0, if_neg c, hw]
        exact nx
  unfold impl_Cat_bytes.f
  exact main l.length 0 (by omega)

def ItOk (last : Int) (x : S36) : Prop := (0 ≤ x.f0 ∧ x.f0 ≤ 1) ∧ nameB x.f1 = true ∧ (1 ≤ (x.f3.size : Int) ∧ (x.f3.size : Int) ≤ 300) ∧ (1 ≤ x.f2 ∧ x.f2 ≤ last)
structure CatP (last : Int) (l : List S36) : Prop where
  lst : 0 ≤ last ∧ last ≤ 99999
  len : l.length ≤ 8
  it : ∀ j : Int, 0 ≤ j → j < l.length → ItOk last (rd_T36 l j)
  ord : ∀ j : Int, 0 < j → j < l.length → less (rd_T36 l (j - 1)) (rd_T36 l j).f0 (rd_T36 l j).f1
  once : ∀ j i : Int, 0 ≤ i → i < j → j < l.length → (rd_T36 l i).f2 ≠ (rd_T36 l j).f2
  b0 : byt l 0 ≤ 500
  b1 : byt l 1 ≤ 500
noncomputable def catB (last : Int) (l : List S36) : Bool := @decide (CatP last l) (Classical.propDecidable _)
theorem catB_iff {last : Int} {l : List S36} : catB last l = true ↔ CatP last l := by
  unfold catB
  exact @decide_eq_true_iff _ (Classical.propDecidable _)
theorem catB_no {last : Int} {l : List S36} (h : ¬ CatP last l) : catB last l = false := by
  cases c : catB last l with
  | false => rfl
  | true => exact absurd (catB_iff.1 c) h
/-- What both ask of the item at j. -/
def At (last : Int) (l : List S36) (j : Int) : Prop := ItOk last (rd_T36 l j) ∧ (0 < j → less (rd_T36 l (j - 1)) (rd_T36 l j).f0 (rd_T36 l j).f1) ∧ (∀ i : Int, 0 ≤ i → i < j → (rd_T36 l i).f2 ≠ (rd_T36 l j).f2)
def AheadC (last : Int) (l : List S36) (n : Int) : Prop := ∀ j : Int, 0 ≤ j → j < n → At last l j
theorem catP_iff (last : Int) (l : List S36) (h1 : 0 ≤ last ∧ last ≤ 99999) (h2 : l.length ≤ 8) : CatP last l ↔ AheadC last l l.length ∧ byt l 0 ≤ 500 ∧ byt l 1 ≤ 500 :=
  ⟨fun h => ⟨fun j a b => ⟨h.it j a b, fun c => h.ord j c b, fun i c d => h.once j i c d b⟩, h.b0, h.b1⟩,
   fun h => ⟨h1, h2, fun j a b => (h.1 j a b).1, fun j a b => (h.1 j (by omega) b).2.1 a, fun j i a b c => (h.1 j (by omega) c).2.2 i a b, h.2.1, h.2.2⟩⟩
theorem boolEq {b c : Bool} (h : b = true ↔ c = true) : b = c := by cases b <;> cases c <;> simp_all
theorem specIt (x : S36) (hx : x.f1.size ≤ 1048576) : ∃ b, Ev (fun k => spec_l9Ok.f k x.f0 x.f1 x.f2 x.f3) b ∧ (b = true ↔ ((0 ≤ x.f0 ∧ x.f0 ≤ 1) ∧ nameB x.f1 = true ∧ (1 ≤ (x.f3.size : Int) ∧ (x.f3.size : Int) ≤ 300))) := by
  unfold spec_l9Ok.f
  simp only [l1In_f, Option.bind_some, andB]
  by_cases c : 0 ≤ x.f0 ∧ x.f0 ≤ 1
  · simp only [yesB c, if_true]
    cases n : nameB x.f1 with
    | false =>
      refine ⟨false, bd (specName _ (by omega)) ?_, (fun h => by cases h), fun h => by cases h.2.1⟩
      rw [n]; simp only [Bool.false_eq_true, if_false]; exact Ev.now _
    | true =>
      refine ⟨decide (1 ≤ (x.f3.size : Int) ∧ (x.f3.size : Int) ≤ 300), bd (specName _ (by omega)) ?_, ?_⟩
      · rw [n]; simp only [if_true]; exact Ev.now _
      · simp [c]
  · simp only [notB c, Bool.false_eq_true, if_false]
    exact ⟨false, Ev.now _, (fun h => by cases h), fun h => absurd h.1 c⟩
theorem implIt (x : S36) (hx : x.f1.size ≤ 1048576) : ∃ b, Ev (fun k => impl_publishable.f k x.f0 x.f1 x.f3) b ∧ (b = true ↔ ((0 ≤ x.f0 ∧ x.f0 ≤ 1) ∧ nameB x.f1 = true ∧ (1 ≤ (x.f3.size : Int) ∧ (x.f3.size : Int) ≤ 300))) := by
  unfold impl_publishable.f impl_house.f
  simp only [within_f, Option.bind_some, andB]
  by_cases c : 0 ≤ x.f0 ∧ x.f0 ≤ 1
  · simp only [yesB c, if_true]
    cases n : nameB x.f1 with
    | false =>
      refine ⟨false, bd (implName _ (by omega)) ?_, (fun h => by cases h), fun h => by cases h.2.1⟩
      rw [n]; simp only [Bool.false_eq_true, if_false]; exact Ev.now _
    | true =>
      refine ⟨decide (1 ≤ (x.f3.size : Int) ∧ (x.f3.size : Int) ≤ 300), bd (implName _ (by omega)) ?_, ?_⟩
      · rw [n]; simp only [if_true]; exact Ev.now _
      · simp [c]
  · simp only [notB c, Bool.false_eq_true, if_false]
    exact ⟨false, Ev.now _, (fun h => by cases h), fun h => absurd h.1 c⟩

theorem specTail (n : Int) (l : List S36) (hs : Small l) (hl : l.length ≤ 1048576) : ∃ b, Ev (fun k => spec_CatOk.l2 k 0 n l) b ∧ (b = true ↔ byt l 0 ≤ 500 ∧ byt l 1 ≤ 500) := by
  have h00 : (0 : Int) < 2 := by omega
  have h01 : (1 : Int) < 2 := by omega
  have h02 : ¬ (2 : Int) < 2 := by omega
  have w0 : wrap64 (0 + 1) = 1 := by rw [wz (by omega)]; omega
  have w1 : wrap64 (1 + 1) = 2 := by rw [wz (by omega)]; omega
  by_cases a : byt l 0 ≤ 500
  · have ga : ¬ (byt l 0 : Int) > 500 := by omega
    by_cases b : byt l 1 ≤ 500
    · have gb : ¬ (byt l 1 : Int) > 500 := by omega
      refine ⟨true, up ?_, fun _ => ⟨a, b⟩, fun _ => rfl⟩
      simp only [spec_CatOk.l2, if_pos h00]
      refine bd (specBytes l 0 hs hl) ?_
      simp only [if_neg ga, w0]
      refine up ?_
      simp only [spec_CatOk.l2, if_pos h01]
      refine bd (specBytes l 1 hs hl) ?_
      simp only [if_neg gb, w1]
      refine up ?_
      simp only [spec_CatOk.l2, if_neg h02]
      exact Ev.now _
    · have gb : (byt l 1 : Int) > 500 := by omega
      refine ⟨false, up ?_, (fun h => by cases h), fun h => absurd h.2 b⟩
      simp only [spec_CatOk.l2, if_pos h00]
      refine bd (specBytes l 0 hs hl) ?_
      simp only [if_neg ga, w0]
      refine up ?_
      simp only [spec_CatOk.l2, if_pos h01]
      refine bd (specBytes l 1 hs hl) ?_
      simp only [if_pos gb]
      exact Ev.now _
  · have ga : (byt l 0 : Int) > 500 := by omega
    refine ⟨false, up ?_, (fun h => by cases h), fun h => absurd h.1 a⟩
    simp only [spec_CatOk.l2, if_pos h00]
    refine bd (specBytes l 0 hs hl) ?_
    simp only [if_pos ga]
    exact Ev.now _
theorem specCat_l0 (n : Int) (l : List S36) (hs : Small l) (hl : l.length ≤ 1048576) : ∀ (d : Nat) (i : Int), 0 ≤ i → i + d = l.length → AheadC n l i →
    ∃ b, Ev (fun k => spec_CatOk.l0 k i n l) b ∧ (b = true ↔ AheadC n l l.length ∧ byt l 0 ≤ 500 ∧ byt l 1 ≤ 500) := by
  intro d
  induction d with
  | zero =>
    intro i i0 hi hA
    have g : ¬ i < (l.length : Int) := by omega
    obtain ⟨b, e, hb⟩ := specTail n l hs hl
    refine ⟨b, up ?_, ?_⟩
    · simp only [spec_CatOk.l0, if_neg g]; exact e
    · obtain rfl : i = l.length := by omega
      rw [hb]; exact ⟨fun h => ⟨hA, h⟩, fun h => h.2⟩
  | succ d ih =>
    intro i i0 hi hA
    have g : i < (l.length : Int) := by omega
    have hw : wrap64 (i + 1) = i + 1 := wz (by omega)
    have bad : ¬ At n l i → (false = true ↔ AheadC n l l.length ∧ byt l 0 ≤ 500 ∧ byt l 1 ≤ 500) := fun hn => ⟨(fun h => by cases h), fun h => absurd (h.1 i i0 g) hn⟩
    have good : At n l i → ∃ b, Ev (fun k => spec_CatOk.l0 k (i + 1) n l) b ∧ (b = true ↔ AheadC n l l.length ∧ byt l 0 ≤ 500 ∧ byt l 1 ≤ 500) :=
      fun hg => ih (i + 1) (by omega) (by omega) (fun j a b => by
        by_cases ej : j = i
        · subst ej; exact hg
        · exact hA j a (by omega))
    -- the inner loop: no edition of before
    have inner : (ItOk n (rd_T36 l i)) → (0 < i → less (rd_T36 l (i - 1)) (rd_T36 l i).f0 (rd_T36 l i).f1) → ∀ (e : Nat) (m : Int), 0 ≤ m → m + e = i → (∀ q : Int, 0 ≤ q → q < m → (rd_T36 l q).f2 ≠ (rd_T36 l i).f2) →
        ∃ b, Ev (fun k => spec_CatOk.l1 k i m n l (rd_T36 l i).f0 (rd_T36 l i).f1 (rd_T36 l i).f2 (rd_T36 l i).f3) b ∧ (b = true ↔ AheadC n l l.length ∧ byt l 0 ≤ 500 ∧ byt l 1 ≤ 500) := by
      intro hi1 hi2 e
      induction e with
      | zero =>
        intro m m0 me hm
        have g1 : ¬ m < i := by omega
        obtain rfl : m = i := by omega
        obtain ⟨b, eb, hb⟩ := good ⟨hi1, hi2, hm⟩
        refine ⟨b, up ?_, hb⟩
        simp only [spec_CatOk.l1, if_neg g1, hw]; exact eb
      | succ e ihe =>
        intro m m0 me hm
        have g1 : m < i := by omega
        have g2 : m < (l.length : Int) := by omega
        have hwm : wrap64 (m + 1) = m + 1 := wz (by omega)
        by_cases c : (rd_T36 l m).f2 = (rd_T36 l i).f2
        · refine ⟨false, up ?_, bad fun h => h.2.2 m m0 g1 c⟩
          simp only [spec_CatOk.l1, if_pos g1, if_pos m0, if_pos g2, if_pos c]; exact Ev.now _
        · obtain ⟨b, eb, hb⟩ := ihe (m + 1) (by omega) (by omega) (fun q a b => by
            by_cases eq : q = m
            · subst eq; exact c
            · exact hm q a (by omega))
          refine ⟨b, up ?_, hb⟩
          simp only [spec_CatOk.l1, if_pos g1, if_pos m0, if_pos g2, if_neg c, hwm]; exact eb
    have j2f : ∀ b : Bool, b = true → ¬ At n l i → ∃ r, Ev (fun k => spec_CatOk.j2 k i b n l (rd_T36 l i).f0 (rd_T36 l i).f1 (rd_T36 l i).f2 (rd_T36 l i).f3) r ∧ (r = true ↔ AheadC n l l.length ∧ byt l 0 ≤ 500 ∧ byt l 1 ≤ 500) := by
      intro b hb hn
      subst hb
      refine ⟨false, up ?_, bad hn⟩
      simp only [spec_CatOk.j2, if_true]; exact Ev.now _
    have j2t : ∀ b : Bool, b = false → (ItOk n (rd_T36 l i)) → (0 < i → less (rd_T36 l (i - 1)) (rd_T36 l i).f0 (rd_T36 l i).f1) → ∃ r, Ev (fun k => spec_CatOk.j2 k i b n l (rd_T36 l i).f0 (rd_T36 l i).f1 (rd_T36 l i).f2 (rd_T36 l i).f3) r ∧ (r = true ↔ AheadC n l l.length ∧ byt l 0 ≤ 500 ∧ byt l 1 ≤ 500) := by
      intro b hb h1 h2
      subst hb
      obtain ⟨r, e, hr⟩ := inner h1 h2 i.toNat 0 (by omega) (by omega) (fun q a b => by omega)
      refine ⟨r, up ?_, hr⟩
      simp only [spec_CatOk.j2, Bool.false_eq_true, if_false]; exact e
    have lift : ∀ {g' : Nat → Option Bool}, (∃ r, Ev g' r ∧ (r = true ↔ AheadC n l l.length ∧ byt l 0 ≤ 500 ∧ byt l 1 ≤ 500)) → ∀ {f' : Nat → Option Bool}, (∀ r, Ev g' r → Ev (fun k => f' (k + 1)) r) → ∃ r, Ev f' r ∧ (r = true ↔ AheadC n l l.length ∧ byt l 0 ≤ 500 ∧ byt l 1 ≤ 500) :=
      fun ⟨r, e, h⟩ _ hf => ⟨r, up (hf r e), h⟩
    obtain ⟨t, et, ht⟩ := specIt (rd_T36 l i) (hs i i0 g).1
    have wi : 0 < i → wrap64 (i - 1) = i - 1 := fun _ => wz (by omega)
    cases t with
    | false =>
      have hn : ¬ At n l i := fun h => by have := ht.2 ⟨h.1.1, h.1.2.1, h.1.2.2.1⟩; cases this
      refine lift (j2f true rfl hn) (fun r e => ?_)
      simp only [spec_CatOk.l0, if_pos g, if_pos i0]
      refine bd et ?_
      simp only [Bool.false_eq_true, if_false]; exact e
    | true =>
      have h1 := ht.1 rfl
      by_cases c : 1 ≤ (rd_T36 l i).f2 ∧ (rd_T36 l i).f2 ≤ n
      · have hit : ItOk n (rd_T36 l i) := ⟨h1.1, h1.2.1, h1.2.2, c⟩
        by_cases p : i > 0
        · have g1 : 0 ≤ i - 1 := by omega
          have g2 : i - 1 < (l.length : Int) := by omega
          obtain ⟨b, eb, hb⟩ := specLess (rd_T36 l (i - 1)) (rd_T36 l i).f0 (rd_T36 l i).f1
          have go : ∃ r, Ev (fun k => spec_CatOk.j2 k i (!b) n l (rd_T36 l i).f0 (rd_T36 l i).f1 (rd_T36 l i).f2 (rd_T36 l i).f3) r ∧ (r = true ↔ AheadC n l l.length ∧ byt l 0 ≤ 500 ∧ byt l 1 ≤ 500) := by
            cases b with
            | true => exact j2t _ rfl hit (fun _ => hb.1 rfl)
            | false => exact j2f _ rfl (fun h => by have := hb.2 (h.2.1 p); cases this)
          refine lift go (fun r e => ?_)
          simp only [spec_CatOk.l0, if_pos g, if_pos i0]
          refine bd et ?_
          simp only [if_true, l1In_f, Option.bind_some, andB, yesB c, if_pos p, wi p, if_pos g1, if_pos g2, eb]; exact e
        · refine lift (j2t false rfl hit (fun h => absurd h p)) (fun r e => ?_)
          simp only [spec_CatOk.l0, if_pos g, if_pos i0]
          refine bd et ?_
          simp only [if_true, l1In_f, Option.bind_some, andB, yesB c, if_neg p]; exact e
      · have hn : ¬ At n l i := fun h => c h.1.2.2.2
        refine lift (j2f true rfl hn) (fun r e => ?_)
        simp only [spec_CatOk.l0, if_pos g, if_pos i0]
        refine bd et ?_
        simp only [if_true, l1In_f, Option.bind_some, andB, notB c, Bool.false_eq_true, if_false]; exact e
theorem specCatOk (n : Int) (l : List S36) (hs : Small l) (hl : l.length ≤ 1048576) : Ev (fun k => spec_CatOk.f k n l) (catB n l) := by
  unfold spec_CatOk.f
  simp only [l1In_f, Option.bind_some, andB]
  by_cases c : 0 ≤ n ∧ n ≤ 99999
  · simp only [yesB c, if_true]
    by_cases d : (l.length : Int) > 8
    · rw [catB_no fun h => by have := h.len; omega]
      refine up ?_
      simp only [spec_CatOk.j0, yesB d, if_true]; exact Ev.now _
    · obtain ⟨b, e, hb⟩ := specCat_l0 n l hs hl l.length 0 (by omega) (by omega) (fun j a b => by omega)
      rw [← catP_iff n l c (by omega), ← catB_iff] at hb
      rw [← boolEq hb]
      refine up ?_
      simp only [spec_CatOk.j0, notB d, Bool.false_eq_true, if_false]; exact e
  · rw [catB_no fun h => c h.lst]
    simp only [notB c, Bool.false_eq_true, if_false]
    refine up ?_
    simp only [spec_CatOk.j0, if_true]; exact Ev.now _

theorem implTail (n : Int) (l : List S36) (hs : Small l) (hl : l.length ≤ 1048576) : ∃ b, Ev (fun k => impl_CatOk.l1 k 0 n l) b ∧ (b = true ↔ byt l 0 ≤ 500 ∧ byt l 1 ≤ 500) := by
  have h00 : (0 : Int) < 2 := by omega
  have h01 : (1 : Int) < 2 := by omega
  have h02 : ¬ (2 : Int) < 2 := by omega
  have w0 : wrap64 (0 + 1) = 1 := by rw [wz (by omega)]; omega
  have w1 : wrap64 (1 + 1) = 2 := by rw [wz (by omega)]; omega
  by_cases a : byt l 0 ≤ 500
  · have ga : ¬ (byt l 0 : Int) > 500 := by omega
    by_cases b : byt l 1 ≤ 500
    · have gb : ¬ (byt l 1 : Int) > 500 := by omega
      refine ⟨true, up ?_, fun _ => ⟨a, b⟩, fun _ => rfl⟩
      simp only [impl_CatOk.l1, if_pos h00]
      refine bd (implBytes l n 0 hs hl) ?_
      simp only [if_neg ga, w0]
      refine up ?_
      simp only [impl_CatOk.l1, if_pos h01]
      refine bd (implBytes l n 1 hs hl) ?_
      simp only [if_neg gb, w1]
      refine up ?_
      simp only [impl_CatOk.l1, if_neg h02]
      exact Ev.now _
    · have gb : (byt l 1 : Int) > 500 := by omega
      refine ⟨false, up ?_, (fun h => by cases h), fun h => absurd h.2 b⟩
      simp only [impl_CatOk.l1, if_pos h00]
      refine bd (implBytes l n 0 hs hl) ?_
      simp only [if_neg ga, w0]
      refine up ?_
      simp only [impl_CatOk.l1, if_pos h01]
      refine bd (implBytes l n 1 hs hl) ?_
      simp only [if_pos gb]
      exact Ev.now _
  · have ga : (byt l 0 : Int) > 500 := by omega
    refine ⟨false, up ?_, (fun h => by cases h), fun h => absurd h.1 a⟩
    simp only [impl_CatOk.l1, if_pos h00]
    refine bd (implBytes l n 0 hs hl) ?_
    simp only [if_pos ga]
    exact Ev.now _
theorem implCat_l0 (n : Int) (l : List S36) (hs : Small l) (hl : l.length ≤ 1048576) : ∀ (d : Nat) (i : Int), 0 ≤ i → i + d = l.length → AheadC n l i →
    ∃ b, Ev (fun k => impl_CatOk.l0 k l (l.length : Int) i n l) b ∧ (b = true ↔ AheadC n l l.length ∧ byt l 0 ≤ 500 ∧ byt l 1 ≤ 500) := by
  intro d
  induction d with
  | zero =>
    intro i i0 hi hA
    have g : ¬ i < (l.length : Int) := by omega
    obtain ⟨b, e, hb⟩ := implTail n l hs hl
    refine ⟨b, up ?_, ?_⟩
    · simp only [impl_CatOk.l0, if_neg g]; exact e
    · obtain rfl : i = l.length := by omega
      rw [hb]; exact ⟨fun h => ⟨hA, h⟩, fun h => h.2⟩
  | succ d ih =>
    intro i i0 hi hA
    have g : i < (l.length : Int) := by omega
    have hw : wrap64 (i + 1) = i + 1 := wz (by omega)
    have bad : ¬ At n l i → (false = true ↔ AheadC n l l.length ∧ byt l 0 ≤ 500 ∧ byt l 1 ≤ 500) := fun hn => ⟨(fun h => by cases h), fun h => absurd (h.1 i i0 g) hn⟩
    have good : At n l i → ∃ b, Ev (fun k => impl_CatOk.l0 k l (l.length : Int) (i + 1) n l) b ∧ (b = true ↔ AheadC n l l.length ∧ byt l 0 ≤ 500 ∧ byt l 1 ≤ 500) :=
      fun hg => ih (i + 1) (by omega) (by omega) (fun j a b => by
        by_cases ej : j = i
        · subst ej; exact hg
        · exact hA j a (by omega))
    obtain ⟨t, et, ht⟩ := implIt (rd_T36 l i) (hs i i0 g).1
    have wi : 0 < i → wrap64 (i - 1) = i - 1 := fun _ => wz (by omega)
    cases t with
    | false =>
      refine ⟨false, up ?_, bad fun h => by have := ht.2 ⟨h.1.1, h.1.2.1, h.1.2.2.1⟩; cases this⟩
      simp only [impl_CatOk.l0, if_pos g, if_pos i0]
      refine bd et ?_
      simp only [Bool.false_eq_true, if_false]; exact Ev.now _
    | true =>
      have h1 := ht.1 rfl
      by_cases c : 1 ≤ (rd_T36 l i).f2 ∧ (rd_T36 l i).f2 ≤ n
      · have hit : ItOk n (rd_T36 l i) := ⟨h1.1, h1.2.1, h1.2.2, c⟩
        have self : (fun x : S36 => x.f2 == (rd_T36 l i).f2) (rd_T36 l i) = true := by simp
        by_cases e : idxFrom (fun x => x.f2 == (rd_T36 l i).f2) l 0 = i
        · have hon : ∀ q : Int, 0 ≤ q → q < i → (rd_T36 l q).f2 ≠ (rd_T36 l i).f2 := by
            rcases idx_first (fun x => x.f2 == (rd_T36 l i).f2) l with ⟨m, _⟩ | ⟨r, m, _, _, _, hf⟩
            · omega
            · obtain rfl : r = i := by omega
              intro q a b
              have := hf q a b
              simpa using this
          by_cases p : i > 0
          · have g1 : 0 ≤ i - 1 := by omega
            have g2 : i - 1 < (l.length : Int) := by omega
            obtain ⟨r, er, hr⟩ := implOrder (rd_T36 l (i - 1)) (rd_T36 l i)
            by_cases s : r ≥ 0
            · refine ⟨false, up ?_, bad fun h => by have := hr.2 (h.2.1 p); omega⟩
              simp only [impl_CatOk.l0, if_pos g, if_pos i0]
              refine bd et ?_
              simp only [if_true, within_f, Option.bind_some, andB, yesB c, impl_Cat_edition.f, if_pos e, if_pos p, wi p, if_pos g1, if_pos g2]
              refine bd er ?_
              simp only [if_pos s]; exact Ev.now _
            · obtain ⟨b, eb, hb⟩ := good ⟨hit, fun _ => hr.1 (by omega), hon⟩
              refine ⟨b, up ?_, hb⟩
              simp only [impl_CatOk.l0, if_pos g, if_pos i0]
              refine bd et ?_
              simp only [if_true, within_f, Option.bind_some, andB, yesB c, impl_Cat_edition.f, if_pos e, if_pos p, wi p, if_pos g1, if_pos g2]
              refine bd er ?_
              simp only [if_neg s, hw]; exact eb
          · obtain ⟨b, eb, hb⟩ := good ⟨hit, fun h => absurd h p, hon⟩
            refine ⟨b, up ?_, hb⟩
            simp only [impl_CatOk.l0, if_pos g, if_pos i0]
            refine bd et ?_
            simp only [if_true, within_f, Option.bind_some, andB, yesB c, impl_Cat_edition.f, if_pos e, if_neg p, hw]; exact eb
        · refine ⟨false, up ?_, bad fun h => e ?_⟩
          · simp only [impl_CatOk.l0, if_pos g, if_pos i0]
            refine bd et ?_
            simp only [if_true, within_f, Option.bind_some, andB, yesB c, impl_Cat_edition.f, if_neg e]; exact Ev.now _
          · rcases idx_first (fun x => x.f2 == (rd_T36 l i).f2) l with ⟨_, m⟩ | ⟨r, m, r0, r1, hr, hf⟩
            · have := m i i0 g
              simp at this
            · rw [m]
              have hr' : (rd_T36 l r).f2 = (rd_T36 l i).f2 := by simpa using hr
              by_cases lt : r < i
              · exact absurd hr' (h.2.2 r r0 lt)
              · by_cases gt : i < r
                · have := hf i i0 gt
                  simp at this
                · omega
      · refine ⟨false, up ?_, bad fun h => c h.1.2.2.2⟩
        simp only [impl_CatOk.l0, if_pos g, if_pos i0]
        refine bd et ?_
        simp only [if_true, within_f, Option.bind_some, andB, notB c, Bool.false_eq_true, if_false]; exact Ev.now _
theorem implCatOk (n : Int) (l : List S36) (hs : Small l) (hl : l.length ≤ 1048576) : Ev (fun k => impl_CatOk.f k n l) (catB n l) := by
  unfold impl_CatOk.f
  simp only [within_f, Option.bind_some, andB]
  by_cases c : 0 ≤ n ∧ n ≤ 99999
  · simp only [yesB c, if_true]
    by_cases d : (l.length : Int) > 8
    · rw [catB_no fun h => by have := h.len; omega]
      refine up ?_
      simp only [impl_CatOk.j0, yesB d, if_true]; exact Ev.now _
    · obtain ⟨b, e, hb⟩ := implCat_l0 n l hs hl l.length 0 (by omega) (by omega) (fun j a b => by omega)
      rw [← catP_iff n l c (by omega), ← catB_iff] at hb
      rw [← boolEq hb]
      refine up ?_
      simp only [impl_CatOk.j0, notB d, Bool.false_eq_true, if_false]; exact e
  · rw [catB_no fun h => c h.lst]
    simp only [notB c, Bool.false_eq_true, if_false]
    refine up ?_
    simp only [impl_CatOk.j0, if_true]; exact Ev.now _

theorem idx_range (p : S36 → Bool) (l : List S36) : idxFrom p l 0 = -1 ∨ (0 ≤ idxFrom p l 0 ∧ idxFrom p l 0 < l.length) := by
  rcases idx_first p l with ⟨h, _⟩ | ⟨r, h, r0, r1, _⟩
  · exact .inl h
  · rw [h]; exact .inr ⟨r0, r1⟩
/-- What is told of the item at r, none if r is -1. -/
def itM (l : List S36) (r : Int) : Int × ByteArray × Int × ByteArray × Bool :=
  if r < 0 then (0, (⟨#[]⟩ : ByteArray), 0, (⟨#[]⟩ : ByteArray), false) else ((rd_T36 l r).f0, (rd_T36 l r).f1, (rd_T36 l r).f2, (rd_T36 l r).f3, true)
def getM (ok : Bool) (l : List S36) (r : Int) : Int × ByteArray × Int × ByteArray × Bool := if ok = true then itM l r else itM l (-1)

theorem specAt (n : Int) (l : List S36) (h : Int) (m : ByteArray) (hl : l.length ≤ 1048576) : Ev (fun k => spec_l9At.f k n l h m) (idxFrom (fun x => x.f0 == h && x.f1.toList == m.toList) l 0) := by
  have main : ∀ (d : Nat) (i : Int), 0 ≤ i → i + d = l.length → Ev (fun k => spec_l9At.l0 k h m i n l) (idxFrom (fun x => x.f0 == h && x.f1.toList == m.toList) (l.drop i.toNat) i) := by
    intro d
    induction d with
    | zero =>
      intro i i0 hi
      have g : ¬ i < (l.length : Int) := by omega
      rw [show i.toNat = l.length by omega, List.drop_length]
      refine up ?_
      simp only [spec_l9At.l0, if_neg g]
      exact Ev.now _
    | succ d ih =>
      intro i i0 hi
      have g : i < (l.length : Int) := by omega
      have hw : wrap64 (i + 1) = i + 1 := wz (by omega)
      have nx := ih (i + 1) (by omega) (by omega)
      rw [idx_at _ l i i0 g]
      refine up ?_
      by_cases c : (rd_T36 l i).f0 = h
      · by_cases e : (rd_T36 l i).f1.toList = m.toList
        · simp only [spec_l9At.l0, if_pos g, if_pos i0, if_pos c, if_pos e]
          rw [if_pos (by simp [c, e])]; exact Ev.now _
        · simp only [spec_l9At.l0, if_pos g, if_pos i0, if_pos c, if_neg e, hw]
          rw [if_neg (by simp [c, e])]; exact nx
      · simp only [spec_l9At.l0, if_pos g, if_pos i0, if_neg c, hw]
        rw [if_neg (by simp [c])]; exact nx
  unfold spec_l9At.f
  exact main l.length 0 (by omega) (by omega)

theorem Ev.uniq {α : Type} {g : Nat → Option α} {a b : α} (h : Ev g a) (k : Ev g b) : a = b := by
  obtain ⟨K, hK⟩ := h
  obtain ⟨L, hL⟩ := k
  have h1 := hK (K + L) (by omega)
  rw [hL (K + L) (by omega)] at h1
  exact (Option.some.inj h1).symm
theorem markText_l0 : ∀ (d n : Nat) (s : ByteArray), n < 10 ^ d → n ≤ 1000000000 → s.size + d ≤ 1000 → ∃ r, Ev (fun k => laws_markText.l0 k (n : Int) s) r := by
  intro d
  induction d with
  | zero =>
    intro n s hn _ hs
    obtain rfl : n = 0 := by simpa using hn
    have g : ¬ ((0 : Nat) : Int) > 0 := by omega
    have g1 : 1 + s.size ≤ 9223372036854775807 := by omega
    refine ⟨(⟨#[109]⟩ : ByteArray) ++ s, up ?_⟩
    simp only [laws_markText.l0, if_neg g, if_pos g1]
    exact Ev.now _
  | succ d ih =>
    intro n s hn h9 hs
    by_cases z : n = 0
    · subst z
      have g : ¬ ((0 : Nat) : Int) > 0 := by omega
      have g1 : 1 + s.size ≤ 9223372036854775807 := by omega
      refine ⟨(⟨#[109]⟩ : ByteArray) ++ s, up ?_⟩
      simp only [laws_markText.l0, if_neg g, if_pos g1]
      exact Ev.now _
    · have g : ((n : Nat) : Int) > 0 := by omega
      have hq : wrap64 (Int.tdiv (n : Int) 10) = ((n / 10 : Nat) : Int) := by
        rw [Int.tdiv_eq_ediv_of_nonneg (by omega), wz (by omega)]; omega
      obtain ⟨b, hb, hz⟩ : ∃ b, strOfNums [(wrap64 (48 + (Int.tmod (n : Int) 10))) % 256] = b ∧ b.size = 1 := ⟨_, rfl, rfl⟩
      have g1 : b.size + s.size ≤ 9223372036854775807 := by omega
      obtain ⟨r, e⟩ := ih (n / 10) (b ++ s) (by rw [Nat.pow_succ] at hn; omega) (by omega) (by rw [ByteArray.size_append, hz]; omega)
      refine ⟨r, up ?_⟩
      simp only [laws_markText.l0, if_pos g, Option.bind_some, hb, if_pos g1, hq]
      exact e
theorem markText_ex (v : Int) (h : 0 ≤ v ∧ v ≤ 100000000) : ∃ r, Ev (fun k => laws_markText.f k v) r := by
  unfold laws_markText.f
  by_cases c : v ≤ 0
  · simp only [if_pos c]; exact ⟨_, Ev.now _⟩
  · simp only [if_neg c]
    obtain ⟨r, e⟩ := markText_l0 9 v.toNat ⟨#[]⟩ (by omega) (by omega) (by decide)
    rw [show ((v.toNat : Nat) : Int) = v by omega] at e
    exact ⟨r, e⟩
noncomputable def mt (v : Int) : ByteArray := @dite _ (∃ r, Ev (fun k => laws_markText.f k v) r) (Classical.propDecidable _) (fun h => Classical.choose h) (fun _ => ⟨#[]⟩)
theorem mt_ev (v : Int) (h : 0 ≤ v ∧ v ≤ 100000000) : Ev (fun k => laws_markText.f k v) (mt v) := by
  have hx := markText_ex v h
  unfold mt
  rw [dif_pos hx]
  exact Classical.choose_spec hx
/-- The item that the marking writes from the number v on. -/
noncomputable def mkIt (v : Int) : S36 := ⟨v, mt (v + 1), v + 2, mt (v + 3)⟩
structure MarkedC (q m : List S36) : Prop where
  len : m.length = q.length
  it : ∀ j : Int, 0 ≤ j → j < q.length → rd_T36 m j = mkIt (1 + 4 * j)
theorem rds (p : List S36) (i : Int) (y : S36) (i0 : 0 ≤ i) (i1 : i < p.length) : rd_T36 (p.set i.toNat y) i = y := by
  unfold rd_T36
  rw [List.getD_eq_getElem?_getD, List.getElem?_set, if_pos rfl, if_pos (by omega)]
  rfl
theorem rdn (p : List S36) (i j : Int) (y : S36) (i0 : 0 ≤ i) (j0 : 0 ≤ j) (h : i ≠ j) : rd_T36 (p.set i.toNat y) j = rd_T36 p j := by
  unfold rd_T36
  rw [List.getD_eq_getElem?_getD, List.getD_eq_getElem?_getD, List.getElem?_set, if_neg (by omega)]
theorem markItems (q : List S36) (hl : q.length ≤ 1048576) : ∃ m, MarkedC q m ∧ Ev (fun k => laws_markItemS.f k q 1) (1 + 4 * (q.length : Int), m) := by
  have main : ∀ (d : Nat) (i : Int) (x : List S36), 0 ≤ i → i + d = q.length → x.length = q.length → (∀ j : Int, 0 ≤ j → j < i → rd_T36 x j = mkIt (1 + 4 * j)) →
      ∃ m, MarkedC q m ∧ Ev (fun k => laws_markItemS.l0 k x (1 + 4 * i) i) (1 + 4 * (q.length : Int), m) := by
    intro d
    induction d with
    | zero =>
      intro i x i0 hi hx hm
      have h1 : ¬ i < (x.length : Int) := by omega
      obtain rfl : i = q.length := by omega
      refine ⟨x, ⟨hx, hm⟩, up ?_⟩
      simp only [laws_markItemS.l0, if_neg h1]
      exact Ev.now _
    | succ d ih =>
      intro i x i0 hi hx hm
      have h1 : i < (x.length : Int) := by omega
      have w1 : wrap64 (1 + 4 * i + 1) = 1 + 4 * i + 1 := wz (by omega)
      have w2 : wrap64 (1 + 4 * i + 1 + 1) = 1 + 4 * i + 2 := by rw [wz (by omega)]; omega
      have w3 : wrap64 (1 + 4 * i + 2 + 1) = 1 + 4 * i + 3 := by rw [wz (by omega)]; omega
      have w4 : wrap64 (1 + 4 * i + 3 + 1) = 1 + 4 * (i + 1) := by rw [wz (by omega)]; omega
      have w6 : wrap64 (i + 1) = i + 1 := wz (by omega)
      have e : ∀ y, rd_T36 (x.set i.toNat y) i = y := fun y => rds x i y i0 h1
      obtain ⟨m, hM, he⟩ := ih (i + 1) (x.set i.toNat (mkIt (1 + 4 * i))) (by omega) (by omega) (by simp only [List.length_set]; omega) (fun j j0 j1 => by
        by_cases c : i = j
        · subst c; exact e _
        · rw [rdn x i j _ i0 j0 c]; exact hm j j0 (by omega))
      have m1 := mt_ev (1 + 4 * i + 1) (by omega)
      have m3 := mt_ev (1 + 4 * i + 3) (by omega)
      refine ⟨m, hM, up ?_⟩
      simp only [laws_markItemS.l0, if_pos h1, if_pos i0, Option.bind_some, e, List.set_set, w1, w2, w3, w4, w6]
      refine bd m1 ?_
      refine bd m3 ?_
      exact he
  unfold laws_markItemS.f
  exact main q.length 0 q (by omega) (by omega) rfl (fun j a b => by omega)
theorem heldItems (q m : List S36) (hl : q.length ≤ 1048576) (hM : MarkedC q m) : Ev (fun k => laws_heldItemS.f k m 1) (1 + 4 * (q.length : Int)) := by
  have main : ∀ (d : Nat) (i : Int), 0 ≤ i → i + d = q.length → Ev (fun k => laws_heldItemS.l0 k m (1 + 4 * i) i) (1 + 4 * (q.length : Int)) := by
    have hml := hM.len
    intro d
    induction d with
    | zero =>
      intro i i0 hi
      have h1 : ¬ i < (m.length : Int) := by omega
      obtain rfl : i = q.length := by omega
      refine up ?_
      simp only [laws_heldItemS.l0, if_neg h1]
      exact Ev.now _
    | succ d ih =>
      intro i i0 hi
      have h1 : i < (m.length : Int) := by omega
      have w1 : wrap64 (1 + 4 * i + 1) = 1 + 4 * i + 1 := wz (by omega)
      have w2 : wrap64 (1 + 4 * i + 1 + 1) = 1 + 4 * i + 2 := by rw [wz (by omega)]; omega
      have w3 : wrap64 (1 + 4 * i + 2 + 1) = 1 + 4 * i + 3 := by rw [wz (by omega)]; omega
      have w4 : wrap64 (1 + 4 * i + 3 + 1) = 1 + 4 * (i + 1) := by rw [wz (by omega)]; omega
      have w6 : wrap64 (i + 1) = i + 1 := wz (by omega)
      have m1 := mt_ev (1 + 4 * i + 1) (by omega)
      have m3 := mt_ev (1 + 4 * i + 3) (by omega)
      refine up ?_
      simp only [laws_heldItemS.l0, if_pos h1, if_pos i0, hM.it i i0 (by omega), mkIt, w1, w2, w3, w4, w6, if_true]
      refine bd m1 ?_
      simp only [if_true]
      refine bd m3 ?_
      simp only [if_true]
      exact ih (i + 1) (by omega) (by omega)
  unfold laws_heldItemS.f
  exact main q.length 0 (by omega) (by omega)
theorem markCat (q : List S36) (n : Int) (hl : q.length ≤ 1048576) : ∃ m, MarkedC q m ∧ Ev (fun k => laws_markCat.f k n q 1) (1 + 4 * (q.length : Int), m) := by
  obtain ⟨m, hM, e⟩ := markItems q hl
  refine ⟨m, hM, ?_⟩
  unfold laws_markCat.f
  exact bd e (Ev.now _)
theorem heldCat (q m : List S36) (n : Int) (hl : q.length ≤ 1048576) (hM : MarkedC q m) : Ev (fun k => laws_heldCat.f k n m 1) (1 + 4 * (q.length : Int)) := by
  unfold laws_heldCat.f
  refine bd (heldItems q m hl hM) ?_
  simp only [if_neg (show ¬ 1 + 4 * (q.length : Int) < 0 by omega)]
  exact Ev.now _

/-- What CatTake gives. -/
noncomputable def takeC (n : Int) (l : List S36) (h : Int) (m : ByteArray) : Int × List S36 × Int :=
  if catB n l = true then (if idxFrom (fun x => x.f0 == h && x.f1.toList == m.toList) l 0 < 0 then (n, l, 3) else (n, l.eraseIdx (idxFrom (fun x => x.f0 == h && x.f1.toList == m.toList) l 0).toNat, 0)) else (0, [], 1)
theorem takeC_len (n : Int) (l : List S36) (h : Int) (m : ByteArray) : (takeC n l h m).2.1.length ≤ l.length := by
  unfold takeC
  split
  · split
    · exact Nat.le_refl _
    · exact List.length_eraseIdx_le l _
  · simp
theorem copy36 (n : Int) (l : List S36) (hl : l.length ≤ 1048576) : spec_l9Copy.f n l = some (n, l) := by
  unfold spec_l9Copy.f
  have g : (([] : List S36)).length + l.length < 2932031007402 := by simp; omega
  simp only [Option.bind_some, if_pos g, List.nil_append]
theorem specTakeC (n : Int) (l : List S36) (h : Int) (m : ByteArray) (hs : Small l) (hl : l.length ≤ 1048576) : Ev (fun k => spec_CatTake.f k n l h m) (takeC n l h m) := by
  unfold takeC
  cases ok : catB n l with
  | false =>
    unfold spec_CatTake.f
    refine bd (specCatOk n l hs hl) ?_
    rw [ok]; simp only [Bool.false_eq_true, if_false]
    exact Ev.now _
  | true =>
    have hA := specAt n l h m hl
    have hr := idx_range (fun x => x.f0 == h && x.f1.toList == m.toList) l
    generalize idxFrom (fun x => x.f0 == h && x.f1.toList == m.toList) l 0 = r at hA hr ⊢
    simp only [if_true]
    by_cases g : r < 0
    · unfold spec_CatTake.f
      refine bd (specCatOk n l hs hl) ?_
      rw [ok]; simp only [if_true]
      refine bd hA ?_
      simp only [if_pos g, copy36 n l hl, Option.bind_some]
      exact Ev.now _
    · have r0 : 0 ≤ r := by omega
      have r2 : r ≤ (l.length : Int) := by omega
      have hw : wrap64 (r + 1) = r + 1 := wz (by omega)
      have r3 : 0 ≤ r + 1 := by omega
      have r4 : r + 1 ≤ (l.length : Int) := by omega
      have q1 : (([] : List S36)).length + (l.take r.toNat).length < 2932031007402 := by simp; omega
      have q2 : ((([] : List S36)) ++ l.take r.toNat).length + (l.drop (r + 1).toNat).length < 2932031007402 := by simp; omega
      unfold spec_CatTake.f spec_l9Take.f
      refine bd (specCatOk n l hs hl) ?_
      rw [ok]; simp only [if_true]
      refine bd hA ?_
      simp only [if_neg g, Option.bind_some, if_pos r0, if_pos r2, if_pos q1, hw, if_pos r3, if_pos r4, if_pos q2]
      rw [List.nil_append, show (r + 1).toNat = r.toNat + 1 by omega, ← List.eraseIdx_eq_take_drop_succ]
      exact Ev.now _
theorem implTakeC (n : Int) (l : List S36) (h : Int) (m : ByteArray) (hs : Small l) (hl : l.length ≤ 1048576) : Ev (fun k => impl_CatTake.f k n l h m) (takeC n l h m) := by
  unfold impl_CatTake.f takeC
  refine bd (implCatOk n l hs hl) ?_
  cases ok : catB n l with
  | false => simp only [Bool.false_eq_true, if_false]; exact Ev.now _
  | true =>
    simp only [if_true]
    have g : l.length < 1048577 := by omega
    unfold impl_Cat_take.f
    simp only [if_pos g]
    by_cases c : idxFrom (fun x => x.f0 == h && x.f1.toList == m.toList) l 0 < 0
    · simp only [if_pos c, Option.bind_some]; exact Ev.now _
    · simp only [if_neg c, Option.bind_some]; exact Ev.now _
theorem FnExactCatTake (a0_0 : Int) (l0_1 : List (S78)) (a1 : Int) (a2 : ByteArray) (h0 : ((Lit.int .i64 a0_0).wf = true) ∧ (l0_1.length ≤ 9223372036854775807 ∧ ∀ x ∈ l0_1, ((Lit.int .i64 x.f0).wf = true) ∧ ((x.f1.size ≤ 9223372036854775807) ∧ (((Lit.int .i64 x.f2).wf = true) ∧ ((x.f3.size ≤ 9223372036854775807)))))) (h1 : (Lit.int .i64 a1).wf = true) (h2 : a2.size ≤ 9223372036854775807) :
    ∃ k, laws_FnExactCatTake.f k a0_0 l0_1 a1 a2 = some true := by
  refine ex ?_
  unfold laws_FnExactCatTake.f
  by_cases c2 : (a2.size : Int) > 1048576
  · simp only [if_pos c2]; exact Ev.now _
  · simp only [if_neg c2]
    obtain ⟨r, er, hr⟩ := szCat a0_0 l0_1 h0.2.1 (fun x hx => ⟨(h0.2.2 x hx).2.1, (h0.2.2 x hx).2.2.2⟩)
    refine bd er ?_
    by_cases c : r < 0
    · simp only [if_pos c]; exact Ev.now _
    · simp only [if_neg c]
      obtain ⟨hl, hf⟩ := hr (by omega)
      have hs := small_map l0_1 hf
      have hT := toCat a0_0 l0_1 hl
      have hm : (l0_1.map toIt).length ≤ 1048576 := by simp; omega
      generalize l0_1.map toIt = l at hs hT hm
      have hS := specTakeC a0_0 l a1 a2 hs hm
      have hI := implTakeC a0_0 l a1 a2 hs hm
      have hL := takeC_len a0_0 l a1 a2
      generalize takeC a0_0 l a1 a2 = q at hS hI hL
      obtain ⟨qn, ql, qc⟩ := q
      simp only at hL
      refine bd hT ?_
      refine bd hS ?_
      refine bd hT ?_
      refine bd hI ?_
      refine bd (eqCat _ _ (by show ql.length ≤ _; omega)) ?_
      simp only [if_true, bne_self_eq_false]
      refine up ?_
      simp only [laws_FnExactCatTake.j0, Bool.false_eq_true, if_false]
      refine bd hT ?_
      refine bd (eqCat _ _ (by omega)) ?_
      simp only [if_true]
      obtain ⟨m, hM, eM⟩ := markCat l a0_0 hm
      refine bd eM ?_
      simp only [if_neg (show ¬ 1 + 4 * (l.length : Int) < 0 by omega)]
      refine bd (eqCat _ _ (by omega)) ?_
      simp only [if_true, bne_self_eq_false]
      refine up ?_
      simp only [laws_FnExactCatTake.j1, Bool.false_eq_true, if_false]
      obtain ⟨m', hM', eM'⟩ := markCat ql qn (by omega)
      refine bd eM' ?_
      refine bd (heldCat ql m' qn (by omega) hM') ?_
      simp only [if_neg (show ¬ 1 + 4 * (ql.length : Int) < 0 by omega), if_true]
      refine bd hT ?_
      refine bd hI ?_
      refine bd (eqCat _ _ (by show ql.length ≤ _; omega)) ?_
      simp only [if_true, bne_self_eq_false]
      refine up ?_
      simp only [laws_FnExactCatTake.j2, Bool.false_eq_true, if_false]
      refine bd (heldCat ql m' qn (by omega) hM') ?_
      simp only [if_neg (show ¬ 1 + 4 * (ql.length : Int) < 0 by omega), if_true]
      exact Ev.now _

end Go.Proofs.Ytbpmfdpbgcpjeaa.Pure
