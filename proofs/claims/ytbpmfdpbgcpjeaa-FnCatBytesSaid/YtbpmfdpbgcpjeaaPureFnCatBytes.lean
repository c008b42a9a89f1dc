/-
No house gives out more than it may: for every code the law FnCatBytes returns true: CatBytes is the reference's, and of a good catalogue it is the sum of the texts of that house, at most 500.
Conditions: none beyond the form's own reach.
-/
import Derived.Test.YtbpmfdpbgcpjeaaPFnCatBytesx0
import Derived.Test.YtbpmfdpbgcpjeaaPFnCatBytesx1
import Derived.Test.YtbpmfdpbgcpjeaaPFnCatBytesx2
import Derived.Test.YtbpmfdpbgcpjeaaPFnCatBytesx3
import Derived.Test.YtbpmfdpbgcpjeaaPFnCatBytesx4
import Derived.Test.YtbpmfdpbgcpjeaaPFnCatBytesx5
import Derived.Test.YtbpmfdpbgcpjeaaPFnCatBytesx6
import Derived.Test.YtbpmfdpbgcpjeaaPFnCatBytesx7
import Derived.Test.YtbpmfdpbgcpjeaaPFnCatBytesx8
import Derived.Test.YtbpmfdpbgcpjeaaPFnCatBytesx9
import Derived.Test.YtbpmfdpbgcpjeaaPFnCatBytesx10
import Derived.Test.YtbpmfdpbgcpjeaaPFnCatBytesx11
import Derived.Test.YtbpmfdpbgcpjeaaPFnCatBytesx12
import Derived.Test.YtbpmfdpbgcpjeaaPFnCatBytesx13
import Derived.Test.YtbpmfdpbgcpjeaaPFnCatBytesx14
import Derived.Test.YtbpmfdpbgcpjeaaPFnCatBytesx15
import Derived.Test.YtbpmfdpbgcpjeaaPFnCatBytesx16
import Derived.Test.YtbpmfdpbgcpjeaaPFnCatBytesx17
import Derived.Test.YtbpmfdpbgcpjeaaPFnCatBytesx18
import Derived.Test.YtbpmfdpbgcpjeaaPFnCatBytesx19
import Derived.Test.YtbpmfdpbgcpjeaaPFnCatBytesx20
import Derived.Test.YtbpmfdpbgcpjeaaPFnCatBytesx21
import Derived.Test.YtbpmfdpbgcpjeaaVPureC
namespace Go.Proofs.Ytbpmfdpbgcpjeaa.Pure
open Go.RowKit Go.Proofs.Ytbpmfdpbgcpjeaa.PFnCatBytes Go.Proofs.Ytbpmfdpbgcpjeaa.C Go.Proofs.YtbpmfdpbgcpjeaaW.PrintWords Go.Proofs.YtbpmfdpbgcpjeaaW.PrintLast
set_option linter.unusedVariables false
set_option linter.unusedSimpArgs false

/-- A name: letters, one to six of them. -/
def nameF (s : ByteArray) : Nat → Bool
  | 0 => decide (1 ≤ s.size) && decide (s.size ≤ 6)
  | d + 1 => if bt s ((s.size : Int) - (d + 1)) < 97 then false else if bt s ((s.size : Int) - (d + 1)) > 122 then false else nameF s d
def nameB (s : ByteArray) : Bool := nameF s s.size

theorem l1In_f (a b c : Int) : spec_l1In.f a b c = some (decide (b ≤ a) && decide (a ≤ c)) := by
  unfold spec_l1In.f
  by_cases h : b ≤ a <;> simp [h]
theorem within_f (a b c : Int) : impl_within.f a b c = some (decide (b ≤ a) && decide (a ≤ c)) := by
  unfold impl_within.f
  by_cases h : b ≤ a <;> simp [h]

theorem specName_l0 (s : ByteArray) (hs : s.size ≤ 140737488351232) : ∀ (d : Nat), d ≤ s.size → Ev (fun k => spec_NameOk.l0 k s ((s.size : Int) - d)) (nameF s d) := by
  intro d
  induction d with
  | zero =>
    intro _
    refine up ?_
    have h : ¬ ((s.size : Int) - ((0 : Nat) : Int) < s.size) := by omega
    simp only [spec_NameOk.l0, if_neg h, l1In_f, Option.bind_some, nameF]
    rw [show decide (1 ≤ (s.size : Int)) = decide (1 ≤ s.size) from decide_eq_decide.2 (by omega), show decide ((s.size : Int) ≤ 6) = decide (s.size ≤ 6) from decide_eq_decide.2 (by omega)]
    exact Ev.now _
  | succ d ih =>
    intro hd
    refine up ?_
    have h1 : (s.size : Int) - ((d + 1 : Nat) : Int) < s.size := by omega
    have h2 : 0 ≤ (s.size : Int) - ((d + 1 : Nat) : Int) := by omega
    have h3 : wrap64 ((s.size : Int) - ((d + 1 : Nat) : Int) + 1) = (s.size : Int) - (d : Int) := by rw [wz (by omega)]; omega
    have e : ((d + 1 : Nat) : Int) = (d : Int) + 1 := by omega
    simp only [spec_NameOk.l0, if_pos h1, if_pos h2, h3, nameF]
    rw [e]
    by_cases h4 : bt s ((s.size : Int) - ((d : Int) + 1)) < 97
    · simp only [if_pos h4]; exact Ev.now _
    · simp only [if_neg h4]
      by_cases h5 : bt s ((s.size : Int) - ((d : Int) + 1)) > 122
      · simp only [if_pos h5]; exact Ev.now _
      · simp only [if_neg h5]; exact ih (by omega)
theorem specName (s : ByteArray) (hs : s.size ≤ 140737488351232) : Ev (fun k => spec_NameOk.f k s) (nameB s) := by
  have h := specName_l0 s hs s.size (Nat.le_refl _)
  have e : (s.size : Int) - (s.size : Int) = 0 := by omega
  rw [e] at h
  exact h

theorem implName_l0 (s : ByteArray) (hs : s.size ≤ 140737488351232) : ∀ (d : Nat), d ≤ s.size → Ev (fun k => impl_NameOk.l0 k s (s.size : Int) ((s.size : Int) - d)) (nameF s d) := by
  intro d
  induction d with
  | zero =>
    intro _
    refine up ?_
    have h : ¬ ((s.size : Int) - ((0 : Nat) : Int) < s.size) := by omega
    simp only [impl_NameOk.l0, if_neg h, within_f, Option.bind_some, nameF]
    rw [show decide (1 ≤ (s.size : Int)) = decide (1 ≤ s.size) from decide_eq_decide.2 (by omega), show decide ((s.size : Int) ≤ 6) = decide (s.size ≤ 6) from decide_eq_decide.2 (by omega)]
    exact Ev.now _
  | succ d ih =>
    intro hd
    refine up ?_
    have h1 : (s.size : Int) - ((d + 1 : Nat) : Int) < s.size := by omega
    have h2 : 0 ≤ (s.size : Int) - ((d + 1 : Nat) : Int) := by omega
    have h3 : wrap64 ((s.size : Int) - ((d + 1 : Nat) : Int) + 1) = (s.size : Int) - (d : Int) := by rw [wz (by omega)]; omega
    have e : ((d + 1 : Nat) : Int) = (d : Int) + 1 := by omega
    simp only [impl_NameOk.l0, if_pos h1, if_pos h2, h3, nameF]
    rw [e]
    by_cases h4 : bt s ((s.size : Int) - ((d : Int) + 1)) < 97
    · simp only [if_pos h4]; exact Ev.now _
    · simp only [if_neg h4]
      by_cases h5 : bt s ((s.size : Int) - ((d : Int) + 1)) > 122
      · simp only [if_pos h5]; exact Ev.now _
      · simp only [if_neg h5]; exact ih (by omega)
theorem implName (s : ByteArray) (hs : s.size ≤ 140737488351232) : Ev (fun k => impl_NameOk.f k s) (nameB s) := by
  have h := implName_l0 s hs s.size (Nat.le_refl _)
  have e : (s.size : Int) - (s.size : Int) = 0 := by omega
  rw [e] at h
  exact h

/-- No name and no text of the list is greater than the law allows. -/
def Small (l : List S36) : Prop := ∀ j : Int, 0 ≤ j → j < l.length → (rd_T36 l j).f1.size ≤ 1048576 ∧ (rd_T36 l j).f3.size ≤ 1048576

/-- How the catalogue is ordered: by house, then by name. -/
def less (x : S36) (h : Int) (n : ByteArray) : Prop := x.f0 < h ∨ (x.f0 = h ∧ Op.bytesLess x.f1.toList n.toList = true)
theorem specLess (x : S36) (h : Int) (n : ByteArray) : ∃ b, spec_l9Less.f x.f0 x.f1 x.f2 x.f3 h n = some b ∧ (b = true ↔ less x h n) := by
  unfold spec_l9Less.f less
  by_cases c : x.f0 < h
  · rw [if_pos c]; exact ⟨true, rfl, fun _ => .inl c, fun _ => rfl⟩
  · rw [if_neg c]
    by_cases d : x.f0 = h
    · rw [if_pos d]; exact ⟨_, rfl, fun g => .inr ⟨d, g⟩, fun g => by rcases g with g | g; exact absurd g c; exact g.2⟩
    · rw [if_neg d]; exact ⟨false, rfl, (fun g => by cases g), fun g => by rcases g with g | g; exact absurd g c; exact absurd g.1 d⟩
theorem compareInt (a b : Int) : cmp_Compare_int.f a b = some (if a < b then -1 else if a > b then 1 else 0) := by
  unfold cmp_Compare_int.f cmp_isNaN_int.f
  simp only [bne_self_eq_false, Option.bind_some, Bool.false_eq_true, if_false]
  split
  · rfl
  · split <;> rfl
theorem compareStr (a b : ByteArray) : cmp_Compare_string.f a b = some (if Op.bytesLess a.toList b.toList = true then -1 else if Op.bytesLess b.toList a.toList = true then 1 else 0) := by
  unfold cmp_Compare_string.f cmp_isNaN_string.f
  simp only [bne_self_eq_false, Option.bind_some, Bool.false_eq_true, if_false]
  split
  · rfl
  · split <;> rfl
theorem orInt (a b : Int) : Ev (fun k => cmp_Or_int.f k [a, b]) (if a = 0 then b else a) := by
  unfold cmp_Or_int.f
  have l0 : (0 : Int) < (([a, b] : List Int).length : Int) := by simp
  have l1 : (1 : Int) < (([a, b] : List Int).length : Int) := by simp
  have l2 : ¬ (2 : Int) < (([a, b] : List Int).length : Int) := by simp
  have w0 : wrap64 (0 + 1) = 1 := by rw [wz (by omega)]; omega
  have w1 : wrap64 (1 + 1) = 2 := by rw [wz (by omega)]; omega
  have r0 : rd [a, b] 0 = a := rfl
  have r1 : rd [a, b] 1 = b := rfl
  have z : (0 : Int) ≤ 0 := by omega
  have z1 : (0 : Int) ≤ 1 := by omega
  by_cases ca : a = 0
  · refine up ?_
    simp only [cmp_Or_int.l0, if_pos l0, if_pos z, r0, if_pos ca, w0]
    refine up ?_
    by_cases cb : b = 0
    · simp only [cmp_Or_int.l0, if_pos l1, if_pos z1, r1, if_pos cb, w1]
      refine up ?_
      simp only [cmp_Or_int.l0, if_neg l2]
      rw [cb]; exact Ev.now _
    · simp only [cmp_Or_int.l0, if_pos l1, if_pos z1, r1, if_neg cb]
      exact Ev.now _
  · refine up ?_
    simp only [cmp_Or_int.l0, if_pos l0, if_pos z, r0, if_neg ca]
    exact Ev.now _
theorem implOrder (x y : S36) : ∃ r, Ev (fun k => impl_itemOrder.f k x.f0 x.f1 x.f2 x.f3 y.f0 y.f1 y.f2 y.f3) r ∧ (r < 0 ↔ less x y.f0 y.f1) := by
  unfold impl_itemOrder.f less
  refine ⟨_, (by
    simp only [compareInt, compareStr, Option.bind_some]
    exact bd (orInt _ _) (Ev.now _)), ?_⟩
  by_cases c : x.f0 < y.f0
  · simp [c]
  · by_cases d : x.f0 > y.f0
    · have : ¬ x.f0 = y.f0 := by omega
      simp [c, d, this]
    · have e : x.f0 = y.f0 := by omega
      by_cases f : Op.bytesLess x.f1.toList y.f1.toList = true
      · simp [e, f]
      · by_cases g : Op.bytesLess y.f1.toList x.f1.toList = true
        · simp [e, f, g]
        · simp [e, f, g]
theorem idx_at (p : S36 → Bool) (l : List S36) (x : Int) (h0 : 0 ≤ x) (h1 : x < l.length) : idxFrom p (l.drop x.toNat) x = if p (rd_T36 l x) = true then x else idxFrom p (l.drop (x + 1).toNat) (x + 1) := by
  have hx : x.toNat < l.length := by omega
  rw [List.drop_eq_getElem_cons hx, show (x + 1).toNat = x.toNat + 1 by omega]
  have : rd_T36 l x = l[x.toNat] := by unfold rd_T36; rw [List.getD_eq_getElem?_getD, List.getElem?_eq_getElem hx]; rfl
  rw [this]
  rfl
theorem idxFrom_first (p : S36 → Bool) (l : List S36) : ∀ (d : Nat) (i : Int), 0 ≤ i → i + d = l.length →
    (idxFrom p (l.drop i.toNat) i = -1 ∧ ∀ j : Int, i ≤ j → j < l.length → p (rd_T36 l j) = false) ∨ (∃ r : Int, idxFrom p (l.drop i.toNat) i = r ∧ i ≤ r ∧ r < l.length ∧ p (rd_T36 l r) = true ∧ ∀ j : Int, i ≤ j → j < r → p (rd_T36 l j) = false) := by
  intro d
  induction d with
  | zero =>
    intro i i0 hi
    left
    rw [show i.toNat = l.length by omega, List.drop_length]
    exact ⟨rfl, fun j a b => by omega⟩
  | succ d ih =>
    intro i i0 hi
    have e := idx_at p l i i0 (by omega)
    by_cases c : p (rd_T36 l i) = true
    · right
      rw [e, if_pos c]
      exact ⟨i, rfl, by omega, by omega, c, fun j a b => by omega⟩
    · rw [e, if_neg c]
      have c' : p (rd_T36 l i) = false := by simpa using c
      rcases ih (i + 1) (by omega) (by omega) with ⟨h1, h2⟩ | ⟨r, h1, h2, h3, h4, h5⟩
      · left
        refine ⟨h1, fun j a b => ?_⟩
        by_cases ej : j = i
        · subst ej; exact c'
        · exact h2 j (by omega) b
      · right
        refine ⟨r, h1, by omega, h3, h4, fun j a b => ?_⟩
        by_cases ej : j = i
        · subst ej; exact c'
        · exact h5 j (by omega) b
theorem idx_first (p : S36 → Bool) (l : List S36) :
    (idxFrom p l 0 = -1 ∧ ∀ j : Int, 0 ≤ j → j < l.length → p (rd_T36 l j) = false) ∨ (∃ r : Int, idxFrom p l 0 = r ∧ 0 ≤ r ∧ r < l.length ∧ p (rd_T36 l r) = true ∧ ∀ j : Int, 0 ≤ j → j < r → p (rd_T36 l j) = false) :=
  idxFrom_first p l l.length 0 (by omega) (by omega)
/-- How many bytes of text the house has among the first n. -/
def bytTo (l : List S36) (h : Int) : Nat → Nat
  | 0 => 0
  | n + 1 => bytTo l h n + (if (rd_T36 l (n : Int)).f0 = h then (rd_T36 l (n : Int)).f3.size else 0)
def byt (l : List S36) (h : Int) : Nat := bytTo l h l.length
theorem bytTo_le (l : List S36) (h : Int) (hs : Small l) : ∀ n : Nat, n ≤ l.length → bytTo l h n ≤ 1048576 * n := by
  intro n
  induction n with
  | zero => intro _; simp [bytTo]
  | succ n ih =>
    intro hn
    have := ih (by omega)
    have := (hs (n : Int) (by omega) (by omega)).2
    unfold bytTo
    split <;> omega
theorem specBytes (l : List S36) (h : Int) (hs : Small l) (hl : l.length ≤ 1048576) : Ev (fun k => spec_l9Bytes.f k l h) (byt l h : Int) := by
  have main : ∀ (d n : Nat), n + d = l.length → Ev (fun k => spec_l9Bytes.l0 k l h (bytTo l h n : Int) (n : Int)) (byt l h : Int) := by
    intro d
    induction d with
    | zero =>
      intro n hn
      have g : ¬ (n : Int) < (l.length : Int) := by omega
      obtain rfl : n = l.length := by omega
      refine up ?_
      simp only [spec_l9Bytes.l0, if_neg g]
      exact Ev.now _
    | succ d ih =>
      intro n hn
      have g : (n : Int) < (l.length : Int) := by omega
      have g0 : 0 ≤ (n : Int) := by omega
      have hw : wrap64 ((n : Int) + 1) = ((n + 1 : Nat) : Int) := by rw [wz (by omega)]; omega
      have hb := bytTo_le l h hs n (by omega)
      have hx := (hs (n : Int) g0 g).2
      have nx := ih (n + 1) (by omega)
      refine up ?_
      by_cases c : (rd_T36 l (n : Int)).f0 = h
      · have hw2 : wrap64 ((bytTo l h n : Int) + ((rd_T36 l (n : Int)).f3.size : Int)) = (bytTo l h (n + 1) : Int) := by rw [wz (by omega)]; simp [bytTo, c]
        simp only [spec_l9Bytes.l0, if_pos g, if_pos g0, if_pos c, hw, hw2]
        exact nx
      · have hw2 : bytTo l h (n + 1) = bytTo l h n := by simp [bytTo, c]
        rw [hw2] at nx
        simp only [spec_l9Bytes.l0, if_pos g, if_pos g0, if_neg c, hw]
        exact nx
  unfold spec_l9Bytes.f
  exact main l.length 0 (by omega)
theorem implBytes (l : List S36) (m h : Int) (hs : Small l) (hl : l.length ≤ 1048576) : Ev (fun k => impl_Cat_bytes.f k m l h) (byt l h : Int) := by
  have main : ∀ (d n : Nat), n + d = l.length → Ev (fun k => impl_Cat_bytes.l0 k h (bytTo l h n : Int) l (l.length : Int) (n : Int)) (byt l h : Int) := by
    intro d
    induction d with
    | zero =>
      intro n hn
      have g : ¬ (n : Int) < (l.length : Int) := by omega
      obtain rfl : n = l.length := by omega
      refine up ?_
      simp only [impl_Cat_bytes.l0, if_neg g]
      exact Ev.now _
    | succ d ih =>
      intro n hn
      have g : (n : Int) < (l.length : Int) := by omega
      have g0 : 0 ≤ (n : Int) := by omega
      have hw : wrap64 ((n : Int) + 1) = ((n + 1 : Nat) : Int) := by rw [wz (by omega)]; omega
      have hb := bytTo_le l h hs n (by omega)
      have hx := (hs (n : Int) g0 g).2
      have nx := ih (n + 1) (by omega)
      refine up ?_
      by_cases c : (rd_T36 l (n : Int)).f0 = h
      · have hw2 : wrap64 ((bytTo l h n : Int) + ((rd_T36 l (n : Int)).f3.size : Int)) = (bytTo l h (n + 1) : Int) := by rw [wz (by omega)]; simp [bytTo, c]
        simp only [impl_Cat_bytes.l0, if_pos g, if_pos g0, if_pos c, hw, hw2]
        exact nx
      · have hw2 : bytTo l h (n + 1) = bytTo l h n := by simp [bytTo, c]
        rw [hw2] at nx
        simp only [impl_Cat_bytes.l0, if_pos g, if_pos g0, if_neg c, hw]
        exact nx
  unfold impl_Cat_bytes.f
  exact main l.length 0 (by omega)

def ItOk (last : Int) (x : S36) : Prop := (0 ≤ x.f0 ∧ x.f0 ≤ 1) ∧ nameB x.f1 = true ∧ (1 ≤ (x.f3.size : Int) ∧ (x.f3.size : Int) ≤ 300) ∧ (1 ≤ x.f2 ∧ x.f2 ≤ last)
structure CatP (last : Int) (l : List S36) : Prop where
  lst : 0 ≤ last ∧ last ≤ 99999
  len : l.length ≤ 8
  it : ∀ j : Int, 0 ≤ j → j < l.length → ItOk last (rd_T36 l j)
  ord : ∀ j : Int, 0 < j → j < l.length → less (rd_T36 l (j - 1)) (rd_T36 l j).f0 (rd_T36 l j).f1
  once : ∀ j i : Int, 0 ≤ i → i < j → j < l.length → (rd_T36 l i).f2 ≠ (rd_T36 l j).f2
  b0 : byt l 0 ≤ 500
  b1 : byt l 1 ≤ 500
noncomputable def catB (last : Int) (l : List S36) : Bool := @decide (CatP last l) (Classical.propDecidable _)
theorem catB_iff {last : Int} {l : List S36} : catB last l = true ↔ CatP last l := by
  unfold catB
  exact @decide_eq_true_iff _ (Classical.propDecidable _)
theorem catB_no {last : Int} {l : List S36} (h : ¬ CatP last l) : catB last l = false := by
  cases c : catB last l with
  | false => rfl
  | true => exact absurd (catB_iff.1 c) h
/-- What both ask of the item at j. -/
def At (last : Int) (l : List S36) (j : Int) : Prop := ItOk last (rd_T36 l j) ∧ (0 < j → less (rd_T36 l (j - 1)) (rd_T36 l j).f0 (rd_T36 l j).f1) ∧ (∀ i : Int, 0 ≤ i → i < j → (rd_T36 l i).f2 ≠ (rd_T36 l j).f2)
def AheadC (last : Int) (l : List S36) (n : Int) : Prop := ∀ j : Int, 0 ≤ j → j < n → At last l j
theorem catP_iff (last : Int) (l : List S36) (h1 : 0 ≤ last ∧ last ≤ 99999) (h2 : l.length ≤ 8) : CatP last l ↔ AheadC last l l.length ∧ byt l 0 ≤ 500 ∧ byt l 1 ≤ 500 :=
  ⟨fun h => ⟨fun j a b => ⟨h.it j a b, fun c => h.ord j c b, fun i c d => h.once j i c d b⟩, h.b0, h.b1⟩,
   fun h => ⟨h1, h2, fun j a b => (h.1 j a b).1, fun j a b => (h.1 j (by omega) b).2.1 a, fun j i a b c => (h.1 j (by omega) c).2.2 i a b, h.2.1, h.2.2⟩⟩
theorem boolEq {b c : Bool} (h : b = true ↔ c = true) : b = c := by cases b <;> cases c <;> simp_all
theorem specIt (x : S36) (hx : x.f1.size ≤ 1048576) : ∃ b, Ev (fun k => spec_l9Ok.f k x.f0 x.f1 x.f2 x.f3) b ∧ (b = true ↔ ((0 ≤ x.f0 ∧ x.f0 ≤ 1) ∧ nameB x.f1 = true ∧ (1 ≤ (x.f3.size : Int) ∧ (x.f3.size : Int) ≤ 300))) := by
  unfold spec_l9Ok.f
  simp only [l1In_f, Option.bind_some, andB]
  by_cases c : 0 ≤ x.f0 ∧ x.f0 ≤ 1
  · simp only [yesB c, if_true]
    cases n : nameB x.f1 with
    | false =>
      refine ⟨false, bd (specName _ (by omega)) ?_, (fun h => by cases h), fun h => by cases h.2.1⟩
      rw [n]; simp only [Bool.false_eq_true, if_false]; exact Ev.now _
    | true =>
      refine ⟨decide (1 ≤ (x.f3.size : Int) ∧ (x.f3.size : Int) ≤ 300), bd (specName _ (by omega)) ?_, ?_⟩
      · rw [n]; simp only [if_true]; exact Ev.now _
      · simp [c]
  · simp only [notB c, Bool.false_eq_true, if_false]
    exact ⟨false, Ev.now _, (fun h => by cases h), fun h => absurd h.1 c⟩
theorem implIt (x : S36) (hx : x.f1.size ≤ 1048576) : ∃ b, Ev (fun k => impl_publishable.f k x.f0 x.f1 x.f3) b ∧ (b = true ↔ ((0 ≤ x.f0 ∧ x.f0 ≤ 1) ∧ nameB x.f1 = true ∧ (1 ≤ (x.f3.size : Int) ∧ (x.f3.size : Int) ≤ 300))) := by
  unfold impl_publishable.f impl_house.f
  simp only [within_f, Option.bind_some, andB]
  by_cases c : 0 ≤ x.f0 ∧ x.f0 ≤ 1
  · simp only [yesB c, if_true]
    cases n : nameB x.f1 with
    | false =>
      refine ⟨false, bd (implName _ (by omega)) ?_, (fun h => by cases h), fun h => by cases h.2.1⟩
      rw [n]; simp only [Bool.false_eq_true, if_false]; exact Ev.now _
    | true =>
      refine ⟨decide (1 ≤ (x.f3.size : Int) ∧ (x.f3.size : Int) ≤ 300), bd (implName _ (by omega)) ?_, ?_⟩
      · rw [n]; simp only [if_true]; exact Ev.now _
      · simp [c]
  · simp only [notB c, Bool.false_eq_true, if_false]
    exact ⟨false, Ev.now _, (fun h => by cases h), fun h => absurd h.1 c⟩

theorem specTail (n : Int) (l : List S36) (hs : Small l) (hl : l.length ≤ 1048576) : ∃ b, Ev (fun k => spec_CatOk.l2 k 0 n l) b ∧ (b = true ↔ byt l 0 ≤ 500 ∧ byt l 1 ≤ 500) := by
  have h00 : (0 : Int) < 2 := by omega
  have h01 : (1 : Int) < 2 := by omega
  have h02 : ¬ (2 : Int) < 2 := by omega
  have w0 : wrap64 (0 + 1) = 1 := by rw [wz (by omega)]; omega
  have w1 : wrap64 (1 + 1) = 2 := by rw [wz (by omega)]; omega
  by_cases a : byt l 0 ≤ 500
  · have ga : ¬ (byt l 0 : Int) > 500 := by omega
    by_cases b : byt l 1 ≤ 500
    · have gb : ¬ (byt l 1 : Int) > 500 := by omega
      refine ⟨true, up ?_, fun _ => ⟨a, b⟩, fun _ => rfl⟩
      simp only [spec_CatOk.l2, if_pos h00]
      refine bd (specBytes l 0 hs hl) ?_
      simp only [if_neg ga, w0]
      refine up ?_
      simp only [spec_CatOk.l2, if_pos h01]
      refine bd (specBytes l 1 hs hl) ?_
      simp only [if_neg gb, w1]
      refine up ?_
      simp only [spec_CatOk.l2, if_neg h02]
      exact Ev.now _
    · have gb : (byt l 1 : Int) > 500 := by omega
      refine ⟨false, up ?_, (fun h => by cases h), fun h => absurd h.2 b⟩
      simp only [spec_CatOk.l2, if_pos h00]
      refine bd (specBytes l 0 hs hl) ?_
      simp only [if_neg ga, w0]
      refine up ?_
      simp only [spec_CatOk.l2, if_pos h01]
      refine bd (specBytes l 1 hs hl) ?_
      simp only [if_pos gb]
      exact Ev.now _
  · have ga : (byt l 0 : Int) > 500 := by omega
    refine ⟨false, up ?_, (fun h => by cases h), fun h => absurd h.1 a⟩
    simp only [spec_CatOk.l2, if_pos h00]
    refine bd (specBytes l 0 hs hl) ?_
    simp only [if_pos ga]
    exact Ev.now _
theorem specCat_l0 (n : Int) (l : List S36) (hs : Small l) (hl : l.length ≤ 1048576) : ∀ (d : Nat) (i : Int), 0 ≤ i → i + d = l.length → AheadC n l i →
    ∃ b, Ev (fun k => spec_CatOk.l0 k i n l) b ∧ (b = true ↔ AheadC n l l.length ∧ byt l 0 ≤ 500 ∧ byt l 1 ≤ 500) := by
  intro d
  induction d with
  | zero =>
    intro i i0 hi hA
    have g : ¬ i < (l.length : Int) := by omega
    obtain ⟨b, e, hb⟩ := specTail n l hs hl
    refine ⟨b, up ?_, ?_⟩
    · simp only [spec_CatOk.l0, if_neg g]; exact e
    · obtain rfl : i = l.length := by omega
      rw [hb]; exact ⟨fun h => ⟨hA, h⟩, fun h => h.2⟩
  | succ d ih =>
    intro i i0 hi hA
    have g : i < (l.length : Int) := by omega
    have hw : wrap64 (i + 1) = i + 1 := wz (by omega)
    have bad : ¬ At n l i → (false = true ↔ AheadC n l l.length ∧ byt l 0 ≤ 500 ∧ byt l 1 ≤ 500) := fun hn => ⟨(fun h => by cases h), fun h => absurd (h.1 i i0 g) hn⟩
    have good : At n l i → ∃ b, Ev (fun k => spec_CatOk.l0 k (i + 1) n l) b ∧ (b = true ↔ AheadC n l l.length ∧ byt l 0 ≤ 500 ∧ byt l 1 ≤ 500) :=
      fun hg => ih (i + 1) (by omega) (by omega) (fun j a b => by
        by_cases ej : j = i
        · subst ej; exact hg
        · exact hA j a (by omega))
    -- the inner loop: no edition of before
    have inner : (ItOk n (rd_T36 l i)) → (0 < i → less (rd_T36 l (i - 1)) (rd_T36 l i).f0 (rd_T36 l i).f1) → ∀ (e : Nat) (m : Int), 0 ≤ m → m + e = i → (∀ q : Int, 0 ≤ q → q < m → (rd_T36 l q).f2 ≠ (rd_T36 l i).f2) →
        ∃ b, Ev (fun k => spec_CatOk.l1 k i m n l (rd_T36 l i).f0 (rd_T36 l i).f1 (rd_T36 l i).f2 (rd_T36 l i).f3) b ∧ (b = true ↔ AheadC n l l.length ∧ byt l 0 ≤ 500 ∧ byt l 1 ≤ 500) := by
      intro hi1 hi2 e
      induction e with
      | zero =>
        intro m m0 me hm
        have g1 : ¬ m < i := by omega
        obtain rfl : m = i := by omega
        obtain ⟨b, eb, hb⟩ := good ⟨hi1, hi2, hm⟩
        refine ⟨b, up ?_, hb⟩
        simp only [spec_CatOk.l1, if_neg g1, hw]; exact eb
      | succ e ihe =>
        intro m m0 me hm
        have g1 : m < i := by omega
        have g2 : m < (l.length : Int) := by omega
        have hwm : wrap64 (m + 1) = m + 1 := wz (by omega)
        by_cases c : (rd_T36 l m).f2 = (rd_T36 l i).f2
        · refine ⟨false, up ?_, bad fun h => h.2.2 m m0 g1 c⟩
          simp only [spec_CatOk.l1, if_pos g1, if_pos m0, if_pos g2, if_pos c]; exact Ev.now _
        · obtain ⟨b, eb, hb⟩ := ihe (m + 1) (by omega) (by omega) (fun q a b => by
            by_cases eq : q = m
            · subst eq; exact c
            · exact hm q a (by omega))
          refine ⟨b, up ?_, hb⟩
          simp only [spec_CatOk.l1, if_pos g1, if_pos m0, if_pos g2, if_neg c, hwm]; exact eb
    have j2f : ∀ b : Bool, b = true → ¬ At n l i → ∃ r, Ev (fun k => spec_CatOk.j2 k i b n l (rd_T36 l i).f0 (rd_T36 l i).f1 (rd_T36 l i).f2 (rd_T36 l i).f3) r ∧ (r = true ↔ AheadC n l l.length ∧ byt l 0 ≤ 500 ∧ byt l 1 ≤ 500) := by
      intro b hb hn
      subst hb
      refine ⟨false, up ?_, bad hn⟩
      simp only [spec_CatOk.j2, if_true]; exact Ev.now _
    have j2t : ∀ b : Bool, b = false → (ItOk n (rd_T36 l i)) → (0 < i → less (rd_T36 l (i - 1)) (rd_T36 l i).f0 (rd_T36 l i).f1) → ∃ r, Ev (fun k => spec_CatOk.j2 k i b n l (rd_T36 l i).f0 (rd_T36 l i).f1 (rd_T36 l i).f2 (rd_T36 l i).f3) r ∧ (r = true ↔ AheadC n l l.length ∧ byt l 0 ≤ 500 ∧ byt l 1 ≤ 500) := by
      intro b hb h1 h2
      subst hb
      obtain ⟨r, e, hr⟩ := inner h1 h2 i.toNat 0 (by omega) (by omega) (fun q a b => by omega)
      refine ⟨r, up ?_, hr⟩
      simp only [spec_CatOk.j2, Bool.false_eq_true, if_false]; exact e
    have lift : ∀ {g' : Nat → Option Bool}, (∃ r, Ev g' r ∧ (r = true ↔ AheadC n l l.length ∧ byt l 0 ≤ 500 ∧ byt l 1 ≤ 500)) → ∀ {f' : Nat → Option Bool}, (∀ r, Ev g' r → Ev (fun k => f' (k + 1)) r) → ∃ r, Ev f' r ∧ (r = true ↔ AheadC n l l.length ∧ byt l 0 ≤ 500 ∧ byt l 1 ≤ 500) :=
      fun ⟨r, e, h⟩ _ hf => ⟨r, up (hf r e), h⟩
    obtain ⟨t, et, ht⟩ := specIt (rd_T36 l i) (hs i i0 g).1
    have wi : 0 < i → wrap64 (i - 1) = i - 1 := fun _ => wz (by omega)
    cases t with
    | false =>
      have hn : ¬ At n l i := fun h => by have := ht.2 ⟨h.1.1, h.1.2.1, h.1.2.2.1⟩; cases this
      refine lift (j2f true rfl hn) (fun r e => ?_)
      simp only [spec_CatOk.l0, if_pos g, if_pos i0]
      refine bd et ?_
      simp only [Bool.false_eq_true, if_false]; exact e
    | true =>
      have h1 := ht.1 rfl
      by_cases c : 1 ≤ (rd_T36 l i).f2 ∧ (rd_T36 l i).f2 ≤ n
      · have hit : ItOk n (rd_T36 l i) := ⟨h1.1, h1.2.1, h1.2.2, c⟩
        by_cases p : i > 0
        · have g1 : 0 ≤ i - 1 := by omega
          have g2 : i - 1 < (l.length : Int) := by omega
          obtain ⟨b, eb, hb⟩ := specLess (rd_T36 l (i - 1)) (rd_T36 l i).f0 (rd_T36 l i).f1
          have go : ∃ r, Ev (fun k => spec_CatOk.j2 k i (!b) n l (rd_T36 l i).f0 (rd_T36 l i).f1 (rd_T36 l i).f2 (rd_T36 l i).f3) r ∧ (r = true ↔ AheadC n l l.length ∧ byt l 0 ≤ 500 ∧ byt l 1 ≤ 500) := by
            cases b with
            | true => exact j2t _ rfl hit (fun _ => hb.1 rfl)
            | false => exact j2f _ rfl (fun h => by have := hb.2 (h.2.1 p); cases this)
          refine lift go (fun r e => ?_)
          simp only [spec_CatOk.l0, if_pos g, if_pos i0]
          refine bd et ?_
          simp only [if_true, l1In_f, Option.bind_some, andB, yesB c, if_pos p, wi p, if_pos g1, if_pos g2, eb]; exact e
        · refine lift (j2t false rfl hit (fun h => absurd h p)) (fun r e => ?_)
          simp only [spec_CatOk.l0, if_pos g, if_pos i0]
          refine bd et ?_
          simp only [if_true, l1In_f, Option.bind_some, andB, yesB c, if_neg p]; exact e
      · have hn : ¬ At n l i := fun h => c h.1.2.2.2
        refine lift (j2f true rfl hn) (fun r e => ?_)
        simp only [spec_CatOk.l0, if_pos g, if_pos i0]
        refine bd et ?_
        simp only [if_true, l1In_f, Option.bind_some, andB, notB c, Bool.false_eq_true, if_false]; exact e
theorem specCatOk (n : Int) (l : List S36) (hs : Small l) (hl : l.length ≤ 1048576) : Ev (fun k => spec_CatOk.f k n l) (catB n l) := by
  unfold spec_CatOk.f
  simp only [l1In_f, Option.bind_some, andB]
  by_cases c : 0 ≤ n ∧ n ≤ 99999
  · simp only [yesB c, if_true]
    by_cases d : (l.length : Int) > 8
    · rw [catB_no fun h => by have := h.len; omega]
      refine up ?_
      simp only [spec_CatOk.j0, yesB d, if_true]; exact Ev.now _
    · obtain ⟨b, e, hb⟩ := specCat_l0 n l hs hl l.length 0 (by omega) (by omega) (fun j a b => by omega)
      rw [← catP_iff n l c (by omega), ← catB_iff] at hb
      rw [← boolEq hb]
      refine up ?_
      simp only [spec_CatOk.j0, notB d, Bool.false_eq_true, if_false]; exact e
  · rw [catB_no fun h => c h.lst]
    simp only [notB c, Bool.false_eq_true, if_false]
    refine up ?_
    simp only [spec_CatOk.j0, if_true]; exact Ev.now _

theorem implTail (n : Int) (l : List S36) (hs : Small l) (hl : l.length ≤ 1048576) : ∃ b, Ev (fun k => impl_CatOk.l1 k 0 n l) b ∧ (b = true ↔ byt l 0 ≤ 500 ∧ byt l 1 ≤ 500) := by
  have h00 : (0 : Int) < 2 := by omega
  have h01 : (1 : Int) < 2 := by omega
  have h02 : ¬ (2 : Int) < 2 := by omega
  have w0 : wrap64 (0 + 1) = 1 := by rw [wz (by omega)]; omega
  have w1 : wrap64 (1 + 1) = 2 := by rw [wz (by omega)]; omega
  by_cases a : byt l 0 ≤ 500
  · have ga : ¬ (byt l 0 : Int) > 500 := by omega
    by_cases b : byt l 1 ≤ 500
    · have gb : ¬ (byt l 1 : Int) > 500 := by omega
      refine ⟨true, up ?_, fun _ => ⟨a, b⟩, fun _ => rfl⟩
      simp only [impl_CatOk.l1, if_pos h00]
      refine bd (implBytes l n 0 hs hl) ?_
      simp only [if_neg ga, w0]
      refine up ?_
      simp only [impl_CatOk.l1, if_pos h01]
      refine bd (implBytes l n 1 hs hl) ?_
      simp only [if_neg gb, w1]
      refine up ?_
      simp only [impl_CatOk.l1, if_neg h02]
      exact Ev.now _
    · have gb : (byt l 1 : Int) > 500 := by omega
      refine ⟨false, up ?_, (fun h => by cases h), fun h => absurd h.2 b⟩
      simp only [impl_CatOk.l1, if_pos h00]
      refine bd (implBytes l n 0 hs hl) ?_
      simp only [if_neg ga, w0]
      refine up ?_
      simp only [impl_CatOk.l1, if_pos h01]
      refine bd (implBytes l n 1 hs hl) ?_
      simp only [if_pos gb]
      exact Ev.now _
  · have ga : (byt l 0 : Int) > 500 := by omega
    refine ⟨false, up ?_, (fun h => by cases h), fun h => absurd h.1 a⟩
    simp only [impl_CatOk.l1, if_pos h00]
    refine bd (implBytes l n 0 hs hl) ?_
    simp only [if_pos ga]
    exact Ev.now _
theorem implCat_l0 (n : Int) (l : List S36) (hs : Small l) (hl : l.length ≤ 1048576) : ∀ (d : Nat) (i : Int), 0 ≤ i → i + d = l.length → AheadC n l i →
    ∃ b, Ev (fun k => impl_CatOk.l0 k l (l.length : Int) i n l) b ∧ (b = true ↔ AheadC n l l.length ∧ byt l 0 ≤ 500 ∧ byt l 1 ≤ 500) := by
  intro d
  induction d with
  | zero =>
    intro i i0 hi hA
    have g : ¬ i < (l.length : Int) := by omega
    obtain ⟨b, e, hb⟩ := implTail n l hs hl
    refine ⟨b, up ?_, ?_⟩
    · simp only [impl_CatOk.l0, if_neg g]; exact e
    · obtain rfl : i = l.length := by omega
      rw [hb]; exact ⟨fun h => ⟨hA, h⟩, fun h => h.2⟩
  | succ d ih =>
    intro i i0 hi hA
    have g : i < (l.length : Int) := by omega
    have hw : wrap64 (i + 1) = i + 1 := wz (by omega)
    have bad : ¬ At n l i → (false = true ↔ AheadC n l l.length ∧ byt l 0 ≤ 500 ∧ byt l 1 ≤ 500) := fun hn => ⟨(fun h => by cases h), fun h => absurd (h.1 i i0 g) hn⟩
    have good : At n l i → ∃ b, Ev (fun k => impl_CatOk.l0 k l (l.length : Int) (i + 1) n l) b ∧ (b = true ↔ AheadC n l l.length ∧ byt l 0 ≤ 500 ∧ byt l 1 ≤ 500) :=
      fun hg => ih (i + 1) (by omega) (by omega) (fun j a b => by
        by_cases ej : j = i
        · subst ej; exact hg
        · exact hA j a (by omega))
    obtain ⟨t, et, ht⟩ := implIt (rd_T36 l i) (hs i i0 g).1
    have wi : 0 < i → wrap64 (i - 1) = i - 1 := fun _ => wz (by omega)
    cases t with
    | false =>
      refine ⟨false, up ?_, bad fun h => by have := ht.2 ⟨h.1.1, h.1.2.1, h.1.2.2.1⟩; cases this⟩
      simp only [impl_CatOk.l0, if_pos g, if_pos i0]
      refine bd et ?_
      simp only [Bool.false_eq_true, if_false]; exact Ev.now _
    | true =>
      have h1 := ht.1 rfl
      by_cases c : 1 ≤ (rd_T36 l i).f2 ∧ (rd_T36 l i).f2 ≤ n
      · have hit : ItOk n (rd_T36 l i) := ⟨h1.1, h1.2.1, h1.2.2, c⟩
        have self : (fun x : S36 => x.f2 == (rd_T36 l i).f2) (rd_T36 l i) = true := by simp
        by_cases e : idxFrom (fun x => x.f2 == (rd_T36 l i).f2) l 0 = i
        · have hon : ∀ q : Int, 0 ≤ q → q < i → (rd_T36 l q).f2 ≠ (rd_T36 l i).f2 := by
            rcases idx_first (fun x => x.f2 == (rd_T36 l i).f2) l with ⟨m, _⟩ | ⟨r, m, _, _, _, hf⟩
            · omega
            · obtain rfl : r = i := by omega
              intro q a b
              have := hf q a b
              simpa using this
          by_cases p : i > 0
          · have g1 : 0 ≤ i - 1 := by omega
            have g2 : i - 1 < (l.length : Int) := by omega
            obtain ⟨r, er, hr⟩ := implOrder (rd_T36 l (i - 1)) (rd_T36 l i)
            by_cases s : r ≥ 0
            · refine ⟨false, up ?_, bad fun h => by have := hr.2 (h.2.1 p); omega⟩
              simp only [impl_CatOk.l0, if_pos g, if_pos i0]
              refine bd et ?_
              simp only [if_true, within_f, Option.bind_some, andB, yesB c, impl_Cat_edition.f, if_pos e, if_pos p, wi p, if_pos g1, if_pos g2]
              refine bd er ?_
              simp only [if_pos s]; exact Ev.now _
            · obtain ⟨b, eb, hb⟩ := good ⟨hit, fun _ => hr.1 (by omega), hon⟩
              refine ⟨b, up ?_, hb⟩
              simp only [impl_CatOk.l0, if_pos g, if_pos i0]
              refine bd et ?_
              simp only [if_true, within_f, Option.bind_some, andB, yesB c, impl_Cat_edition.f, if_pos e, if_pos p, wi p, if_pos g1, if_pos g2]
              refine bd er ?_
              simp only [if_neg s, hw]; exact eb
          · obtain ⟨b, eb, hb⟩ := good ⟨hit, fun h => absurd h p, hon⟩
            refine ⟨b, up ?_, hb⟩
            simp only [impl_CatOk.l0, if_pos g, if_pos i0]
            refine bd et ?_
            simp only [if_true, within_f, Option.bind_some, andB, yesB c, impl_Cat_edition.f, if_pos e, if_neg p, hw]; exact eb
        · refine ⟨false, up ?_, bad fun h => e ?_⟩
          · simp only [impl_CatOk.l0, if_pos g, if_pos i0]
            refine bd et ?_
            simp only [if_true, within_f, Option.bind_some, andB, yesB c, impl_Cat_edition.f, if_neg e]; exact Ev.now _
          · rcases idx_first (fun x => x.f2 == (rd_T36 l i).f2) l with ⟨_, m⟩ | ⟨r, m, r0, r1, hr, hf⟩
            · have := m i i0 g
              simp at this
            · rw [m]
              have hr' : (rd_T36 l r).f2 = (rd_T36 l i).f2 := by simpa using hr
              by_cases lt : r < i
              · exact absurd hr' (h.2.2 r r0 lt)
              · by_cases gt : i < r
                · have := hf i i0 gt
                  simp at this
                · omega
      · refine ⟨false, up ?_, bad fun h => c h.1.2.2.2⟩
        simp only [impl_CatOk.l0, if_pos g, if_pos i0]
        refine bd et ?_
        simp only [if_true, within_f, Option.bind_some, andB, notB c, Bool.false_eq_true, if_false]; exact Ev.now _
theorem implCatOk (n : Int) (l : List S36) (hs : Small l) (hl : l.length ≤ 1048576) : Ev (fun k => impl_CatOk.f k n l) (catB n l) := by
  unfold impl_CatOk.f
  simp only [within_f, Option.bind_some, andB]
  by_cases c : 0 ≤ n ∧ n ≤ 99999
  · simp only [yesB c, if_true]
    by_cases d : (l.length : Int) > 8
    · rw [catB_no fun h => by have := h.len; omega]
      refine up ?_
      simp only [impl_CatOk.j0, yesB d, if_true]; exact Ev.now _
    · obtain ⟨b, e, hb⟩ := implCat_l0 n l hs hl l.length 0 (by omega) (by omega) (fun j a b => by omega)
      rw [← catP_iff n l c (by omega), ← catB_iff] at hb
      rw [← boolEq hb]
      refine up ?_
      simp only [impl_CatOk.j0, notB d, Bool.false_eq_true, if_false]; exact e
  · rw [catB_no fun h => c h.lst]
    simp only [notB c, Bool.false_eq_true, if_false]
    refine up ?_
    simp only [impl_CatOk.j0, if_true]; exact Ev.now _

theorem idx_range (p : S36 → Bool) (l : List S36) : idxFrom p l 0 = -1 ∨ (0 ≤ idxFrom p l 0 ∧ idxFrom p l 0 < l.length) := by
  rcases idx_first p l with ⟨h, _⟩ | ⟨r, h, r0, r1, _⟩
  · exact .inl h
  · rw [h]; exact .inr ⟨r0, r1⟩
/-- What is told of the item at r, none if r is -1. -/
def itM (l : List S36) (r : Int) : Int × ByteArray × Int × ByteArray × Bool :=
  if r < 0 then (0, (⟨#[]⟩ : ByteArray), 0, (⟨#[]⟩ : ByteArray), false) else ((rd_T36 l r).f0, (rd_T36 l r).f1, (rd_T36 l r).f2, (rd_T36 l r).f3, true)
def getM (ok : Bool) (l : List S36) (r : Int) : Int × ByteArray × Int × ByteArray × Bool := if ok = true then itM l r else itM l (-1)

theorem specAt (n : Int) (l : List S36) (h : Int) (m : ByteArray) (hl : l.length ≤ 1048576) : Ev (fun k => spec_l9At.f k n l h m) (idxFrom (fun x => x.f0 == h && x.f1.toList == m.toList) l 0) := by
  have main : ∀ (d : Nat) (i : Int), 0 ≤ i → i + d = l.length → Ev (fun k => spec_l9At.l0 k h m i n l) (idxFrom (fun x => x.f0 == h && x.f1.toList == m.toList) (l.drop i.toNat) i) := by
    intro d
    induction d with
    | zero =>
      intro i i0 hi
      have g : ¬ i < (l.length : Int) := by omega
      rw [show i.toNat = l.length by omega, List.drop_length]
      refine up ?_
      simp only [spec_l9At.l0, if_neg g]
      exact Ev.now _
    | succ d ih =>
      intro i i0 hi
      have g : i < (l.length : Int) := by omega
      have hw : wrap64 (i + 1) = i + 1 := wz (by omega)
      have nx := ih (i + 1) (by omega) (by omega)
      rw [idx_at _ l i i0 g]
      refine up ?_
      by_cases c : (rd_T36 l i).f0 = h
      · by_cases e : (rd_T36 l i).f1.toList = m.toList
        · simp only [spec_l9At.l0, if_pos g, if_pos i0, if_pos c, if_pos e]
          rw [if_pos (by simp [c, e])]; exact Ev.now _
        · simp only [spec_l9At.l0, if_pos g, if_pos i0, if_pos c, if_neg e, hw]
          rw [if_neg (by simp [c, e])]; exact nx
      · simp only [spec_l9At.l0, if_pos g, if_pos i0, if_neg c, hw]
        rw [if_neg (by simp [c])]; exact nx
  unfold spec_l9At.f
  exact main l.length 0 (by omega) (by omega)

theorem implCatBytes (n : Int) (l : List S36) (h : Int) (hs : Small l) (hl : l.length ≤ 1048576) : Ev (fun k => impl_CatBytes.f k n l h) (if catB n l = true then (byt l h : Int) else 0) := by
  unfold impl_CatBytes.f
  refine bd (implCatOk n l hs hl) ?_
  by_cases c : catB n l = true
  · simp only [if_pos c]; exact bd (implBytes l n h hs hl) (Ev.now _)
  · simp only [if_neg c]; exact Ev.now _
theorem specCatBytes (n : Int) (l : List S36) (h : Int) (hs : Small l) (hl : l.length ≤ 1048576) : Ev (fun k => spec_CatBytes.f k n l h) (if catB n l = true then (byt l h : Int) else 0) := by
  unfold spec_CatBytes.f
  refine bd (specCatOk n l hs hl) ?_
  by_cases c : catB n l = true
  · simp only [if_pos c]; exact bd (specBytes l h hs hl) (Ev.now _)
  · simp only [if_neg c]; exact Ev.now _

theorem open_f (l : List Int) : spec_l1Open.f l = some (l.take 2000, 0) := by
  unfold spec_l1Open.f
  by_cases h : (l.length : Int) > 2000
  · have h2 : 2000 ≤ (l.length : Int) := by omega
    rw [if_pos h, if_pos h2]
  · rw [if_neg h, List.take_of_length_le (by omega)]
/-- The bytes of a code that is read. -/
structure Code (b : List Int) : Prop where
  byte : ∀ x ∈ b, 0 ≤ x ∧ x ≤ 255
  len : b.length ≤ 2000
theorem Code.of {l : List Int} (h : ∀ x ∈ l, (Lit.int .u8 x).wf = true) : Code (l.take 2000) :=
  ⟨fun x hx => wf_u8 (h x (List.mem_of_mem_take hx)), by rw [List.length_take]; omega⟩
theorem tmod_range {a n : Int} (ha : 0 ≤ a) (hn : 1 ≤ n) : 0 ≤ Int.tmod a n ∧ Int.tmod a n < n := ⟨Int.tmod_nonneg n ha, Int.tmod_lt_of_pos a (by omega)⟩
theorem pick_main (b : List Int) (hb : Code b) (p n : Int) (hp : 0 ≤ p ∧ p ≤ 1000000000000) (hn : 1 ≤ n) (hl : 1 ≤ (b.length : Int)) :
    ∃ v, Ev (fun k => spec_l1Rd_pick.j0 k n false b (p + 1)) (v, p + 1) ∧ 0 ≤ v ∧ v < n := by
  have hl2 : (b.length : Int) ≤ 2000 := by have := hb.len; omega
  have e1 : wrap64 (p + 1 - 1) = p := by rw [wz (by omega)]; omega
  have n0 : ¬ n = 0 := by omega
  by_cases h1 : p < (b.length : Int)
  · have hr := rd_mem (P := fun x => 0 ≤ x ∧ x ≤ 255) hb.byte p hp.1 h1
    have t := tmod_range hr.1 hn
    refine ⟨Int.tmod (rd b p) n, up ?_, t.1, t.2⟩
    have e2 : wrap64 (rd b p) = rd b p := wz (by omega)
    simp only [spec_l1Rd_pick.j0, Bool.false_eq_true, if_false, e1, if_pos h1, if_pos hp.1, if_neg n0, e2]
    exact Ev.now _
  · have l0 : ¬ (b.length : Int) = 0 := by omega
    have t1 := tmod_range hp.1 hl
    have e7 : wrap64 (wrap64 (p * 7) + 3) = p * 7 + 3 := by rw [wz (n := p * 7) (by omega), wz (by omega)]
    have t2 := tmod_range (a := p * 7 + 3) (by omega) hl
    have r1 := rd_mem (P := fun x => 0 ≤ x ∧ x ≤ 255) hb.byte (Int.tmod p b.length) t1.1 t1.2
    have r2 := rd_mem (P := fun x => 0 ≤ x ∧ x ≤ 255) hb.byte (Int.tmod (p * 7 + 3) b.length) t2.1 t2.2
    have d0 : 0 ≤ Int.tdiv p b.length ∧ Int.tdiv p b.length ≤ p := by
      rw [Int.tdiv_eq_ediv_of_nonneg hp.1]
      exact ⟨Int.ediv_nonneg hp.1 (by omega), Int.ediv_le_self _ hp.1⟩
    generalize hx1 : rd b (Int.tmod p b.length) = x1 at *
    generalize hx2 : rd b (Int.tmod (p * 7 + 3) b.length) = x2 at *
    generalize hq : Int.tdiv p b.length = q at *
    have w1 : wrap64 x1 = x1 := wz (by omega)
    have w2 : wrap64 x2 = x2 := wz (by omega)
    have w3 : wrap64 (x1 * 131) = x1 * 131 := wz (by omega)
    have w4 : wrap64 (x2 * 1117) = x2 * 1117 := wz (by omega)
    have w5 : wrap64 (x1 * 131 + x2 * 1117) = x1 * 131 + x2 * 1117 := wz (by omega)
    have w6 : wrap64 (p * 29) = p * 29 := wz (by omega)
    have w7 : wrap64 (x1 * 131 + x2 * 1117 + p * 29) = x1 * 131 + x2 * 1117 + p * 29 := wz (by omega)
    have w8 : wrap64 q = q := wz (by omega)
    have w9 : wrap64 (q * 53) = q * 53 := wz (by omega)
    have wA : wrap64 (x1 * 131 + x2 * 1117 + p * 29 + q * 53) = x1 * 131 + x2 * 1117 + p * 29 + q * 53 := wz (by omega)
    generalize hz : x1 * 131 + x2 * 1117 + p * 29 + q * 53 = z at *
    have z0 : 0 ≤ z ∧ z < 9223372036854775808 := by omega
    have d1 : 0 ≤ Int.tdiv z 64 ∧ Int.tdiv z 64 ≤ z := by
      rw [Int.tdiv_eq_ediv_of_nonneg z0.1]
      omega
    have wB : wrap64 (Int.tdiv z 64) = Int.tdiv z 64 := wz (by omega)
    have hX := xor_nonneg z (Int.tdiv z 64) z0.1 d1.1 z0.2 (by omega)
    have t := tmod_range hX hn
    refine ⟨_, up ?_, t.1, t.2⟩
    simp only [spec_l1Rd_pick.j0, Bool.false_eq_true, if_false, e1, if_neg h1, if_neg l0, if_pos t1.1, if_pos t1.2, e7, if_pos t2.1, if_pos t2.2, if_neg n0, hx1, hx2, hq, w1, w2, w3, w4, w5, w6, w7, w8, w9, hz, wA, wB]
    exact Ev.now _
/-- One number is read: below n; nought where there is none. -/
theorem pick (b : List Int) (hb : Code b) (p n : Int) (hp : 0 ≤ p ∧ p ≤ 1000000000000) :
    ∃ v, Ev (fun k => spec_l1Rd_pick.f k b p n) (v, p + 1) ∧ 0 ≤ v ∧ (1 ≤ n → v < n) := by
  have e0 : wrap64 (p + 1) = p + 1 := wz (by omega)
  unfold spec_l1Rd_pick.f
  by_cases hn : n < 1
  · refine ⟨0, ?_, by omega, by omega⟩
    simp only [if_pos hn, e0]
    refine up ?_
    simp only [spec_l1Rd_pick.j0, if_true]
    exact Ev.now _
  · simp only [if_neg hn, e0]
    by_cases hl : (b.length : Int) = 0
    · refine ⟨0, ?_, by omega, by omega⟩
      have e : ((b.length : Int) == 0) = true := by simpa using hl
      simp only [e]
      refine up ?_
      simp only [spec_l1Rd_pick.j0, if_true]
      exact Ev.now _
    · have e : ((b.length : Int) == 0) = false := by simpa using hl
      simp only [e]
      obtain ⟨v, h1, h2, h3⟩ := pick_main b hb p n hp (by omega) (by omega)
      exact ⟨v, h1, h2, fun _ => h3⟩

/-- A drawn item: its name and its text are short. -/
def Sh (x : S36) : Prop := x.f1.size ≤ 400 ∧ x.f3.size ≤ 400
/-- A drawn list of items: at most n, all short. -/
def Shl (n : Nat) (l : List S36) : Prop := l.length ≤ n ∧ ∀ x ∈ l, Sh x
theorem rd36_mem (l : List S36) (i : Int) (h0 : 0 ≤ i) (h1 : i < l.length) : rd_T36 l i ∈ l := by
  unfold rd_T36
  rw [List.getD_eq_getElem?_getD, List.getElem?_eq_getElem (by omega)]
  exact List.getElem_mem _
theorem Shl.small {n : Nat} {l : List S36} (h : Shl n l) : Small l := by
  intro j j0 j1
  have := h.2 _ (rd36_mem l j j0 j1)
  unfold Sh at this
  omega
theorem Shl.le {n m : Nat} {l : List S36} (h : Shl n l) (hm : n ≤ m) : Shl m l := ⟨by have := h.1; omega, h.2⟩
theorem Shl.nil (n : Nat) : Shl n [] := ⟨by simp, fun x h => by cases h⟩
theorem Shl.set {n : Nat} {l : List S36} (h : Shl n l) (i : Nat) (x : S36) (hx : Sh x) : Shl n (l.set i x) :=
  ⟨by rw [List.length_set]; exact h.1, fun y hy => by rcases List.mem_or_eq_of_mem_set hy with g | g; exact h.2 y g; exact g ▸ hx⟩
theorem copy36 (n : Int) (l : List S36) (hl : l.length ≤ 1048576) : spec_l9Copy.f n l = some (n, l) := by
  unfold spec_l9Copy.f
  have g : (([] : List S36)).length + l.length < 2932031007402 := by simp; omega
  simp only [Option.bind_some, if_pos g, List.nil_append]
theorem ofPick (b : List Int) (hb : Code b) (p : Int) (l : List ByteArray) (hp : 0 ≤ p ∧ p ≤ 1000000000000) (hl : 1 ≤ l.length) :
    ∃ v, Ev (fun k => spec_l1Rd_of.f k b p l) (v, p + 1) ∧ v ∈ l := by
  obtain ⟨v, h, a, c⟩ := pick b hb p (l.length : Int) hp
  have d := c (by omega)
  refine ⟨rdOf ByteArray.empty l v, ?_, ?_⟩
  · unfold spec_l1Rd_of.f
    refine bd h ?_
    simp only [if_pos a, if_pos d]
    exact Ev.now _
  · unfold rdOf
    rw [List.getD_eq_getElem?_getD, List.getElem?_eq_getElem (by omega)]
    exact List.getElem_mem _
theorem takeCat (n : Int) (l : List S36) (h : Int) (m : ByteArray) (c : Nat) (hc : c ≤ 1000) (hs : Shl c l) : ∃ n' l' e, Ev (fun k => spec_CatTake.f k n l h m) (n', l', e) ∧ Shl c l' := by
  have hl : l.length ≤ 1048576 := by have := hs.1; omega
  cases ok : catB n l with
  | false =>
    refine ⟨0, [], 1, ?_, Shl.nil c⟩
    unfold spec_CatTake.f
    refine bd (specCatOk n l hs.small hl) ?_
    rw [ok]; simp only [Bool.false_eq_true, if_false]
    exact Ev.now _
  | true =>
    have hA := specAt n l h m hl
    have hr := idx_range (fun x => x.f0 == h && x.f1.toList == m.toList) l
    generalize idxFrom (fun x => x.f0 == h && x.f1.toList == m.toList) l 0 = r at hA hr
    by_cases g : r < 0
    · refine ⟨n, l, 3, ?_, hs⟩
      unfold spec_CatTake.f
      refine bd (specCatOk n l hs.small hl) ?_
      rw [ok]; simp only [if_true]
      refine bd hA ?_
      simp only [if_pos g, copy36 n l hl, Option.bind_some]
      exact Ev.now _
    · have r0 : 0 ≤ r := by omega
      have r1 : r < (l.length : Int) := by omega
      have r2 : r ≤ (l.length : Int) := by omega
      have hw : wrap64 (r + 1) = r + 1 := wz (by omega)
      have r3 : 0 ≤ r + 1 := by omega
      have r4 : r + 1 ≤ (l.length : Int) := by omega
      have q1 : (([] : List S36)).length + (l.take r.toNat).length < 2932031007402 := by simp; omega
      have q2 : ((([] : List S36)) ++ l.take r.toNat).length + (l.drop (r + 1).toNat).length < 2932031007402 := by simp; omega
      refine ⟨n, ([] ++ l.take r.toNat) ++ l.drop (r + 1).toNat, 0, ?_, ⟨by have := hs.1; simp; omega, fun x hx => ?_⟩⟩
      · unfold spec_CatTake.f spec_l9Take.f
        refine bd (specCatOk n l hs.small hl) ?_
        rw [ok]; simp only [if_true]
        refine bd hA ?_
        simp only [if_neg g, Option.bind_some, if_pos r0, if_pos r2, if_pos q1, hw, if_pos r3, if_pos r4, if_pos q2]
        exact Ev.now _
      · rw [List.nil_append] at hx
        rcases List.mem_append.1 hx with y | y
        · exact hs.2 x (List.mem_of_mem_take y)
        · exact hs.2 x (List.mem_of_mem_drop y)
theorem putIn (n : Int) (l : List S36) (x : S36) (c : Nat) (hc : c ≤ 1000) (hs : Shl c l) (hx : Sh x) :
    ∃ n' l', Ev (fun k => spec_l9Put.f k n l x.f0 x.f1 x.f2 x.f3) (n', l') ∧ Shl (c + 1) l' := by
  have hl := hs.1
  have main : ∀ (d : Nat) (i : Int), 0 ≤ i → i + d = l.length → ∃ n' l', Ev (fun k => spec_l9Put.l0 k i n l x.f0 x.f1 x.f2 x.f3) (n', l') ∧ Shl (c + 1) l' := by
    have out : ∀ i : Int, 0 ≤ i → i ≤ l.length → Shl (c + 1) ((([] ++ l.take i.toNat) ++ [(⟨x.f0, x.f1, wrap64 (n + 1), x.f3⟩ : S36)]) ++ l.drop i.toNat) := by
      intro i i0 i1
      refine ⟨by simp; omega, fun y hy => ?_⟩
      simp only [List.nil_append, List.mem_append, List.mem_singleton] at hy
      rcases hy with (hy | hy) | hy
      · exact hs.2 y (List.mem_of_mem_take hy)
      · rw [hy]; exact hx
      · exact hs.2 y (List.mem_of_mem_drop hy)
    have q : ∀ i : Int, 0 ≤ i → i ≤ l.length → (([] : List S36)).length + (l.take i.toNat).length < 2932031007402 ∧ ((([] : List S36)) ++ l.take i.toNat).length + ([(⟨x.f0, x.f1, wrap64 (n + 1), x.f3⟩ : S36)]).length < 2932031007402 ∧ (((([] : List S36)) ++ l.take i.toNat) ++ [(⟨x.f0, x.f1, wrap64 (n + 1), x.f3⟩ : S36)]).length + (l.drop i.toNat).length < 2932031007402 := by
      intro i i0 i1
      refine ⟨by simp; omega, by simp; omega, by simp; omega⟩
    intro d
    induction d with
    | zero =>
      intro i i0 hi
      have g : ¬ i < (l.length : Int) := by omega
      have g1 : i ≤ (l.length : Int) := by omega
      obtain ⟨q1, q2, q3⟩ := q i i0 g1
      refine ⟨wrap64 (n + 1), _, up ?_, out i i0 g1⟩
      simp only [spec_l9Put.l0, if_neg g, Option.bind_some, if_pos i0, if_pos g1, if_pos q1, if_pos q2, if_pos q3]
      exact Ev.now _
    | succ d ih =>
      intro i i0 hi
      have g : i < (l.length : Int) := by omega
      have g1 : i ≤ (l.length : Int) := by omega
      have hw : wrap64 (i + 1) = i + 1 := wz (by omega)
      obtain ⟨b, e, _⟩ := specLess (rd_T36 l i) x.f0 x.f1
      cases b with
      | true =>
        obtain ⟨n', l', e1, e2⟩ := ih (i + 1) (by omega) (by omega)
        refine ⟨n', l', up ?_, e2⟩
        simp only [spec_l9Put.l0, if_pos g, if_pos i0, e, Option.bind_some, if_true, hw]
        exact e1
      | false =>
        obtain ⟨q1, q2, q3⟩ := q i i0 g1
        refine ⟨wrap64 (n + 1), _, up ?_, out i i0 g1⟩
        simp only [spec_l9Put.l0, if_pos g, if_pos i0, e, Option.bind_some, Bool.false_eq_true, if_false, if_pos g1, if_pos q1, if_pos q2, if_pos q3]
        exact Ev.now _
  unfold spec_l9Put.f
  exact main l.length 0 (by omega) (by omega)
theorem putCat (n : Int) (l : List S36) (h : Int) (m t : ByteArray) (c : Nat) (hc : c ≤ 1000) (hs : Shl c l) (hm : m.size ≤ 400) (ht : t.size ≤ 400) :
    ∃ n' l' e, Ev (fun k => spec_CatPut.f k n l h m t) (n', l', e) ∧ Shl (c + 1) l' := by
  have hl : l.length ≤ 1048576 := by have := hs.1; omega
  have j0 : ∀ b : Bool, ∃ n' l' e, Ev (fun k => spec_CatPut.j0 k b n l h m 0 t) (n', l', e) ∧ Shl (c + 1) l' := by
    intro b
    cases b with
    | true =>
      refine ⟨n, l, 4, up ?_, hs.le (by omega)⟩
      simp only [spec_CatPut.j0, if_true, copy36 n l hl, Option.bind_some]
      exact Ev.now _
    | false =>
      obtain ⟨n', l', e1, e2⟩ := putIn n l ⟨h, m, 0, t⟩ c hc hs ⟨hm, ht⟩
      refine ⟨n', l', 0, up ?_, e2⟩
      simp only [spec_CatPut.j0, Bool.false_eq_true, if_false]
      refine bd e1 ?_
      exact Ev.now _
  cases ok : catB n l with
  | false =>
    refine ⟨0, [], 1, ?_, Shl.nil _⟩
    unfold spec_CatPut.f
    refine bd (specCatOk n l hs.small hl) ?_
    rw [ok]; simp only [Bool.false_eq_true, if_false]
    exact Ev.now _
  | true =>
    have go : ∀ n' l' e, Ev (fun k => (spec_l9Ok.f k h m 0 t).bind fun t264 => (if t264 = true then ((spec_l9At.f k n l h m).bind fun t265 => (if t265 ≥ 0 then ((spec_l9Copy.f n l).bind fun bt266 => (some (bt266.1, bt266.2, 2))) else (if (l.length : Int) ≥ 8 then (spec_CatPut.j0 k true n l h m 0 t) else (if n ≥ 99999 then (spec_CatPut.j0 k true n l h m 0 t) else ((spec_l9Bytes.f k l h).bind fun t270 => (spec_CatPut.j0 k (decide ((wrap64 (t270 + (t.size : Int))) > 500)) n l h m 0 t)))))) else ((spec_l9Copy.f n l).bind fun bt279 => (some (bt279.1, bt279.2, 1))))) (n', l', e) → Ev (fun k => spec_CatPut.f k n l h m t) (n', l', e) := by
      intro n' l' e hh
      unfold spec_CatPut.f
      refine bd (specCatOk n l hs.small hl) ?_
      rw [ok]; simp only [if_true]
      exact hh
    obtain ⟨b, hI, _⟩ := specIt ⟨h, m, 0, t⟩ (by show m.size ≤ _; omega)
    cases b with
    | false =>
      refine ⟨n, l, 1, go _ _ _ (bd hI ?_), hs.le (by omega)⟩
      simp only [Bool.false_eq_true, if_false, copy36 n l hl, Option.bind_some]
      exact Ev.now _
    | true =>
      have hA := specAt n l h m hl
      generalize idxFrom (fun x => x.f0 == h && x.f1.toList == m.toList) l 0 = r at hA
      by_cases g : r ≥ 0
      · refine ⟨n, l, 2, go _ _ _ (bd hI ?_), hs.le (by omega)⟩
        simp only [if_true]
        refine bd hA ?_
        simp only [if_pos g, copy36 n l hl, Option.bind_some]
        exact Ev.now _
      · by_cases g1 : (l.length : Int) ≥ 8
        · obtain ⟨n', l', e, e1, e2⟩ := j0 true
          refine ⟨n', l', e, go _ _ _ (bd hI ?_), e2⟩
          simp only [if_true]
          refine bd hA ?_
          simp only [if_neg g, if_pos g1]
          exact e1
        · by_cases g2 : n ≥ 99999
          · obtain ⟨n', l', e, e1, e2⟩ := j0 true
            refine ⟨n', l', e, go _ _ _ (bd hI ?_), e2⟩
            simp only [if_true]
            refine bd hA ?_
            simp only [if_neg g, if_neg g1, if_pos g2]
            exact e1
          · obtain ⟨n', l', e, e1, e2⟩ := j0 (decide ((wrap64 ((byt l h : Int) + (t.size : Int))) > 500))
            refine ⟨n', l', e, go _ _ _ (bd hI ?_), e2⟩
            simp only [if_true]
            refine bd hA ?_
            simp only [if_neg g, if_neg g1, if_neg g2]
            refine bd (specBytes l h hs.small hl) ?_
            exact e1
theorem thing (b : List Int) (hb : Code b) (p n : Int) (hp : 0 ≤ p ∧ p ≤ 100000000) (hn : 0 ≤ n ∧ n ≤ 300) : ∃ s, Ev (fun k => spec_l15Thing.f k b p n) (s, p + n) ∧ s.size ≤ 300 := by
  have main : ∀ (d : Nat) (i q : Int) (xs : List Int), 0 ≤ i → i + d = n → q = p + i → (xs.length : Int) = i → ∃ s, Ev (fun k => spec_l15Thing.l0 k n xs i b q) (s, p + n) ∧ s.size ≤ 300 := by
    intro d
    induction d with
    | zero =>
      intro i q xs i0 hi hq hx
      have g : ¬ i < n := by omega
      refine ⟨strOfNums xs, up ?_, ?_⟩
      · simp only [spec_l15Thing.l0, if_neg g]
        rw [show p + n = q by omega]
        exact Ev.now _
      · have : (strOfNums xs).size = xs.length := by simp [strOfNums, ByteArray.size]
        omega
    | succ d ih =>
      intro i q xs i0 hi hq hx
      have g : i < n := by omega
      obtain ⟨v, h, a, c⟩ := pick b hb q 8 (by omega)
      have c8 := c (by omega)
      have gx : xs.length < 140737488355328 := by omega
      have hw : wrap64 (i + 1) = i + 1 := wz (by omega)
      obtain ⟨s, e1, e2⟩ := ih (i + 1) (q + 1) (xs ++ [bt (⟨#[97, 98, 99, 100, 101, 102, 103, 104]⟩ : ByteArray) v]) (by omega) (by omega) (by omega) (by simp; omega)
      refine ⟨s, up ?_, e2⟩
      simp only [spec_l15Thing.l0, if_pos g]
      refine bd h ?_
      simp only [if_pos a, if_pos c8, if_pos gx, hw]
      exact e1
  unfold spec_l15Thing.f
  exact main n.toNat 0 p [] (by omega) (by omega) (by omega) (by simp)
theorem many : ∀ (d n : Nat) (s o : ByteArray), n ≤ 1000000 → n < 2 ^ d → s.size * 2 ^ d ≤ 1000000 → o.size + n * s.size ≤ 1000000 →
    ∃ r, Ev (fun k => spec_l1Many.l0 k s (n : Int) o) r ∧ r.size = o.size + n * s.size := by
  intro d
  induction d with
  | zero =>
    intro n s o _ hn _ _
    obtain rfl : n = 0 := by simpa using hn
    refine ⟨o, up ?_, by simp⟩
    have g : ¬ ((0 : Nat) : Int) > 0 := by omega
    simp only [spec_l1Many.l0, if_neg g]
    exact Ev.now _
  | succ d ih =>
    intro n s o hn1 hn hs ho
    by_cases z : n = 0
    · subst z
      refine ⟨o, up ?_, by simp⟩
      have g : ¬ ((0 : Nat) : Int) > 0 := by omega
      simp only [spec_l1Many.l0, if_neg g]
      exact Ev.now _
    · have hp : 1 ≤ 2 ^ d := Nat.one_le_two_pow
      have e2 : s.size * 2 ^ (d + 1) = (s ++ s).size * 2 ^ d := by rw [ByteArray.size_append, Nat.pow_succ, Nat.add_mul, ← Nat.mul_assoc]; omega
      have hss : (s ++ s).size ≤ 1000000 := by
        have := Nat.le_mul_of_pos_right (s ++ s).size hp
        omega
      have hss' : s.size + s.size ≤ 9223372036854775807 := by rw [ByteArray.size_append] at hss; omega
      have g : ((n : Nat) : Int) > 0 := by omega
      have hq : wrap64 (Int.tdiv (n : Int) 2) = ((n / 2 : Nat) : Int) := by
        rw [Int.tdiv_eq_ediv_of_nonneg (by omega), wz (by omega)]; omega
      have ht : Int.tmod (n : Int) 2 = ((n % 2 : Nat) : Int) := by
        rw [Int.tmod_eq_emod_of_nonneg (by omega)]; omega
      have hm : n * s.size = (n % 2) * s.size + (n / 2) * (s ++ s).size := by
        rw [ByteArray.size_append, Nat.mul_add]
        have := congrArg (· * s.size) (Nat.div_add_mod n 2)
        simp only [Nat.add_mul, Nat.mul_assoc] at this
        omega
      by_cases c : n % 2 = 1
      · rw [c] at hm
        have ho2 : (o ++ s).size = o.size + s.size := ByteArray.size_append
        obtain ⟨r, e, er⟩ := ih (n / 2) (s ++ s) (o ++ s) (by omega) (by rw [Nat.pow_succ] at hn; omega) (by omega) (by omega)
        have go : o.size + s.size ≤ 9223372036854775807 := by omega
        refine ⟨r, up ?_, by omega⟩
        have c' : (((n % 2 : Nat) : Int) = 1) := by omega
        simp only [spec_l1Many.l0, if_pos g, ht, if_pos c', if_pos go, if_pos hss', hq]
        exact e
      · have c0 : n % 2 = 0 := by omega
        rw [c0] at hm
        obtain ⟨r, e, er⟩ := ih (n / 2) (s ++ s) o (by omega) (by rw [Nat.pow_succ] at hn; omega) (by omega) (by omega)
        refine ⟨r, up ?_, by omega⟩
        have c' : ¬ (((n % 2 : Nat) : Int) = 1) := by omega
        simp only [spec_l1Many.l0, if_pos g, ht, if_neg c', if_pos hss', hq]
        exact e
theorem drawCat (b : List Int) (hb : Code b) (s : Int) (hs : 0 ≤ s ∧ s ≤ 1000000) : ∃ n l q, Ev (fun k => spec_l15Cat.f k b s) (n, l, q) ∧ Shl 10 l ∧ 0 ≤ q ∧ q ≤ s + 4000 := by
  have loop : ∀ (d : Nat) (i : Int) (n : Int) (l : List S36) (q : Int), i = d → d ≤ 9 → Shl (10 - d) l → 0 ≤ q → q + 310 * i ≤ s + 4000 →
      ∃ n' l' q', Ev (fun k => spec_l15Cat.l0 k i b q n l) (n', l', q') ∧ Shl 10 l' ∧ 0 ≤ q' ∧ q' ≤ s + 4000 := by
    intro d
    induction d with
    | zero =>
      intro i n l q hi _ hl q0 q1
      have g : ¬ i > 0 := by omega
      refine ⟨n, l, q, up ?_, hl, q0, by omega⟩
      simp only [spec_l15Cat.l0, if_neg g]
      exact Ev.now _
    | succ d ih =>
      intro i n l q hi hd hl q0 q1
      have g : i > 0 := by omega
      have hw : wrap64 (i - 1) = i - 1 := wz (by omega)
      obtain ⟨nm, h1, m1⟩ := ofPick b hb q [(⟨#[97]⟩ : ByteArray), (⟨#[98]⟩ : ByteArray), (⟨#[99, 99]⟩ : ByteArray), (⟨#[100]⟩ : ByteArray)] (by omega) (by simp)
      have hnm : nm.size ≤ 400 := by
        simp only [List.mem_cons, List.not_mem_nil, or_false] at m1
        rcases m1 with rfl | rfl | rfl | rfl <;> decide
      obtain ⟨v2, h2, _, _⟩ := pick b hb (q + 1) 4 (by omega)
      by_cases c : v2 = 0
      · obtain ⟨v3, h3, _, _⟩ := pick b hb (q + 1 + 1) 2 (by omega)
        obtain ⟨n1, l1, e1, t1, t2⟩ := takeCat n l v3 nm (10 - (d + 1)) (by omega) hl
        obtain ⟨n', l', q', f1, f2⟩ := ih (i - 1) n1 l1 (q + 1 + 1 + 1) (by omega) (by omega) (t2.le (by omega)) (by omega) (by omega)
        refine ⟨n', l', q', up ?_, f2⟩
        simp only [spec_l15Cat.l0, if_pos g]
        refine bd h1 ?_
        refine bd h2 ?_
        simp only [if_pos c]
        refine bd h3 ?_
        refine bd t1 ?_
        simp only [hw]
        exact f1
      · obtain ⟨v3, h3, _, _⟩ := pick b hb (q + 1 + 1) 2 (by omega)
        obtain ⟨v4, h4, a4, b4⟩ := pick b hb (q + 1 + 1 + 1) 300 (by omega)
        have c4 := b4 (by omega)
        have hw4 : wrap64 (1 + v4) = 1 + v4 := wz (by omega)
        obtain ⟨tx, h5, s5⟩ := thing b hb (q + 1 + 1 + 1 + 1) (1 + v4) (by omega) (by omega)
        obtain ⟨n1, l1, e1, t1, t2⟩ := putCat n l v3 nm tx (10 - (d + 1)) (by omega) hl hnm (by omega)
        obtain ⟨n', l', q', f1, f2⟩ := ih (i - 1) n1 l1 (q + 1 + 1 + 1 + 1 + (1 + v4)) (by omega) (by omega) (t2.le (by omega)) (by omega) (by omega)
        refine ⟨n', l', q', up ?_, f2⟩
        simp only [spec_l15Cat.l0, if_pos g]
        refine bd h1 ?_
        refine bd h2 ?_
        simp only [if_neg c]
        refine bd h3 ?_
        refine bd h4 ?_
        simp only [hw4]
        refine bd h5 ?_
        refine bd t1 ?_
        simp only [hw]
        exact f1
  obtain ⟨v, h1, a1, b1⟩ := pick b hb s 10 (by omega)
  have c1 := b1 (by omega)
  obtain ⟨n', l', q', f1, f2⟩ := loop v.toNat v 0 [] (s + 1) (by omega) (by omega) (Shl.nil _) (by omega) (by omega)
  refine ⟨n', l', q', ?_, f2⟩
  unfold spec_l15Cat.f
  refine bd h1 ?_
  exact f1
theorem drawAnyCat (b : List Int) (hb : Code b) (s : Int) (hs : 0 ≤ s ∧ s ≤ 100000) : ∃ n l q, Ev (fun k => spec_l15AnyCat.f k b s) (n, l, q) ∧ Shl 11 l ∧ 0 ≤ q ∧ q ≤ s + 5000 := by
  obtain ⟨n, l, q, e0, hl, q0, q1⟩ := drawCat b hb s (by omega)
  have hl1 := hl.1
  have tr : ∀ p : Int, 0 ≤ p → p ≤ s + 5000 → ∃ n' l' q', Ev (fun k => spec_l15AnyCat.j0 k true b p n l) (n', l', q') ∧ Shl 11 l' ∧ 0 ≤ q' ∧ q' ≤ s + 5000 := by
    intro p p0 p1
    refine ⟨n, l, p, up ?_, hl.le (by omega), p0, p1⟩
    simp only [spec_l15AnyCat.j0, if_true]
    exact Ev.now _
  by_cases z : (l.length : Int) = 0
  · obtain ⟨n', l', q', f1, f2⟩ := tr q q0 (by omega)
    refine ⟨n', l', q', ?_, f2⟩
    unfold spec_l15AnyCat.f
    refine bd e0 ?_
    simp only [if_pos z]
    exact f1
  · obtain ⟨v1, h1, a1, b1⟩ := pick b hb q 12 (by omega)
    have body : ∃ n' l' q', Ev (fun k => spec_l15AnyCat.j0 k (decide (v1 > 0)) b (q + 1) n l) (n', l', q') ∧ Shl 11 l' ∧ 0 ≤ q' ∧ q' ≤ s + 5000 := by
      by_cases cv : v1 > 0
      · rw [decide_eq_true cv]; exact tr _ (by omega) (by omega)
      · rw [decide_eq_false cv]
        obtain ⟨i, h2, i0, b2⟩ := pick b hb (q + 1) (l.length : Int) (by omega)
        have i1 := b2 (by omega)
        obtain ⟨c, h3, a3, b3⟩ := pick b hb (q + 1 + 1) 6 (by omega)
        have c3 := b3 (by omega)
        have hi := hl.2 _ (rd36_mem l i i0 i1)
        have hl11 : Shl 11 l := hl.le (by omega)
        by_cases k0 : c = 0
        · refine ⟨n, _, q + 1 + 1 + 1, up ?_, hl11.set i.toNat ⟨2, (rd_T36 l i).f1, (rd_T36 l i).f2, (rd_T36 l i).f3⟩ hi, by omega, by omega⟩
          simp only [spec_l15AnyCat.j0, Bool.false_eq_true, if_false, copy36 n l (by omega), Option.bind_some]
          refine bd h2 ?_
          refine bd h3 ?_
          simp only [if_pos k0, if_pos i0, if_pos i1]
          exact Ev.now _
        · by_cases k1 : c = 1
          · obtain ⟨nm, h4, m4⟩ := ofPick b hb (q + 1 + 1 + 1) [(⟨#[]⟩ : ByteArray), (⟨#[122, 122]⟩ : ByteArray)] (by omega) (by simp)
            have hnm : nm.size ≤ 400 := by
              simp only [List.mem_cons, List.not_mem_nil, or_false] at m4
              rcases m4 with rfl | rfl <;> decide
            refine ⟨n, _, q + 1 + 1 + 1 + 1, up ?_, hl11.set i.toNat ⟨(rd_T36 l i).f0, nm, (rd_T36 l i).f2, (rd_T36 l i).f3⟩ ⟨hnm, hi.2⟩, by omega, by omega⟩
            simp only [spec_l15AnyCat.j0, Bool.false_eq_true, if_false, copy36 n l (by omega), Option.bind_some]
            refine bd h2 ?_
            refine bd h3 ?_
            simp only [if_neg k0, if_pos k1]
            refine bd h4 ?_
            simp only [if_pos i0, if_pos i1]
            exact Ev.now _
          · by_cases k2 : c = 2
            · obtain ⟨v4, h4, a4, b4⟩ := pick b hb (q + 1 + 1 + 1) 3 (by omega)
              have c4 := b4 (by omega)
              have z0 : (0 : Int) < (l.length : Int) := by omega
              have g4 : v4 < ((([0, wrap64 (n + 1), (rd_T36 l 0).f2] : List Int).length : Nat) : Int) := by simp; omega
              refine ⟨n, _, q + 1 + 1 + 1 + 1, up ?_, hl11.set i.toNat ⟨(rd_T36 l i).f0, (rd_T36 l i).f1, rd ([0, wrap64 (n + 1), (rd_T36 l 0).f2] : List Int) v4, (rd_T36 l i).f3⟩ ⟨hi.1, hi.2⟩, by omega, by omega⟩
              simp only [spec_l15AnyCat.j0, Bool.false_eq_true, if_false, copy36 n l (by omega), Option.bind_some]
              refine bd h2 ?_
              refine bd h3 ?_
              simp only [if_neg k0, if_neg k1, if_pos k2, if_pos z0]
              refine bd h4 ?_
              simp only [if_pos a4, if_pos g4, if_pos i0, if_pos i1]
              exact Ev.now _
            · by_cases k3 : c = 3
              · obtain ⟨v4, h4, a4, b4⟩ := pick b hb (q + 1 + 1 + 1) 3 (by omega)
                have c4 := b4 (by omega)
                have g4 : v4 < ((([0, 301, 300] : List Int).length : Nat) : Int) := by simp; omega
                have hr : 0 ≤ rd ([0, 301, 300] : List Int) v4 ∧ rd ([0, 301, 300] : List Int) v4 ≤ 301 := rd_mem (P := fun x => 0 ≤ x ∧ x ≤ 301) (by intro x hx; simp at hx; omega) v4 a4 g4
                obtain ⟨tx, e5, s5⟩ := many 10 (rd ([0, 301, 300] : List Int) v4).toNat (⟨#[116]⟩ : ByteArray) (⟨#[]⟩ : ByteArray) (by omega) (by omega) (by decide) (by show 0 + _ * 1 ≤ _; omega)
                have s5' : tx.size ≤ 400 := by
                  have : tx.size = 0 + (rd ([0, 301, 300] : List Int) v4).toNat * 1 := s5
                  omega
                rw [show (((rd ([0, 301, 300] : List Int) v4).toNat : Nat) : Int) = rd ([0, 301, 300] : List Int) v4 by omega] at e5
                refine ⟨n, _, q + 1 + 1 + 1 + 1, up ?_, hl11.set i.toNat ⟨(rd_T36 l i).f0, (rd_T36 l i).f1, (rd_T36 l i).f2, tx⟩ ⟨hi.1, s5'⟩, by omega, by omega⟩
                simp only [spec_l15AnyCat.j0, Bool.false_eq_true, if_false, copy36 n l (by omega), Option.bind_some]
                refine bd h2 ?_
                refine bd h3 ?_
                simp only [if_neg k0, if_neg k1, if_neg k2, if_pos k3]
                refine bd h4 ?_
                simp only [if_pos a4, if_pos g4]
                unfold spec_l1Many.f
                refine bd e5 ?_
                simp only [if_pos i0, if_pos i1]
                exact Ev.now _
              · by_cases k4 : c = 4
                · refine ⟨0, l, q + 1 + 1 + 1, up ?_, hl11, by omega, by omega⟩
                  simp only [spec_l15AnyCat.j0, Bool.false_eq_true, if_false, copy36 n l (by omega), Option.bind_some]
                  refine bd h2 ?_
                  refine bd h3 ?_
                  simp only [if_neg k0, if_neg k1, if_neg k2, if_neg k3, if_pos k4]
                  exact Ev.now _
                · have gl : l.length < 2932031007402 := by omega
                  refine ⟨n, l ++ [(⟨(rd_T36 l i).f0, (rd_T36 l i).f1, (rd_T36 l i).f2, (rd_T36 l i).f3⟩ : S36)], q + 1 + 1 + 1, up ?_, ⟨by simp; omega, fun x hx => ?_⟩, by omega, by omega⟩
                  · simp only [spec_l15AnyCat.j0, Bool.false_eq_true, if_false, copy36 n l (by omega), Option.bind_some]
                    refine bd h2 ?_
                    refine bd h3 ?_
                    simp only [if_neg k0, if_neg k1, if_neg k2, if_neg k3, if_neg k4, if_pos i0, if_pos i1, if_pos gl]
                    exact Ev.now _
                  · rcases List.mem_append.1 hx with y | y
                    · exact hl.2 x y
                    · rw [List.mem_singleton] at y; rw [y]; exact hi
    obtain ⟨n', l', q', f1, f2⟩ := body
    refine ⟨n', l', q', ?_, f2⟩
    unfold spec_l15AnyCat.f
    refine bd e0 ?_
    simp only [if_neg z]
    refine bd h1 ?_
    exact f1

theorem byt_other (last : Int) (l : List S36) (h : Int) (hp : CatP last l) (hh : ¬ (0 ≤ h ∧ h ≤ 1)) : byt l h = 0 := by
  have main : ∀ n : Nat, n ≤ l.length → bytTo l h n = 0 := by
    intro n
    induction n with
    | zero => intro _; rfl
    | succ n ih =>
      intro hn
      have := (hp.it (n : Int) (by omega) (by omega)).1
      unfold bytTo
      rw [ih (by omega), if_neg (by omega)]
  exact main l.length (by omega)
theorem FnCatBytes (l0 : List (Int)) (h0 : l0.length ≤ 9223372036854775807 ∧ ∀ x ∈ l0, (Lit.int .u8 x).wf = true) :
    ∃ k, laws_FnCatBytes.f k l0 = some true := by
  have hw := h0.2
  refine ex ?_
  unfold laws_FnCatBytes.f
  by_cases hl : (l0.length : Int) > 1048576
  · simp only [if_pos hl]; exact Ev.now _
  · simp only [if_neg hl]
    obtain ⟨n, l, r, hD, hlen⟩ : ∃ n l r, Ev (fun k => spec_DrawCatBytes.f k l0) (n, l, r) ∧ Shl 11 l := by
      have hb := Code.of hw
      generalize hB : l0.take 2000 = b at hb
      obtain ⟨n, l, q, e0, hl, q0, q1⟩ := drawAnyCat b hb 0 (by omega)
      obtain ⟨h, h1, a1, b1⟩ := pick b hb q 3 (by omega)
      refine ⟨n, l, h, ?_, hl⟩
      unfold spec_DrawCatBytes.f
      simp only [open_f, Option.bind_some, hB]
      refine bd e0 ?_
      refine bd h1 ?_
      exact Ev.now _
    have hs := hlen.small
    have hl2 : l.length ≤ 1048576 := by have := hlen.1; omega
    refine bd hD ?_
    refine bd (implCatBytes n l r hs hl2) ?_
    refine bd (specCatBytes n l r hs hl2) ?_
    simp only [if_true]
    refine bd (specCatOk n l hs hl2) ?_
    refine up ?_
    cases ok : catB n l with
    | false =>
      simp only [laws_FnCatBytes.j0, Bool.not_false, if_true, Bool.false_eq_true, if_false]
      refine bd (specCatBytes n l r hs hl2) ?_
      rw [ok]
      simp only [Bool.false_eq_true, if_false, if_true]
      refine bd (implCatOk n l hs hl2) ?_
      refine bd (specCatOk n l hs hl2) ?_
      rw [ok]
      exact Ev.now _
    | true =>
      have hp := catB_iff.1 ok
      have h500 : byt l r ≤ 500 := by
        by_cases c : 0 ≤ r ∧ r ≤ 1
        · by_cases z : r = 0
          · rw [z]; exact hp.b0
          · rw [show r = 1 by omega]; exact hp.b1
        · rw [byt_other n l r hp c]; omega
      simp only [laws_FnCatBytes.j0, Bool.not_true, Bool.false_eq_true, if_false, if_true]
      have main : ∀ (d m : Nat), m + d = l.length → Ev (fun k => laws_FnCatBytes.l0 k r (byt l r : Int) (bytTo l r m : Int) (m : Int) n l) true := by
        intro d
        induction d with
        | zero =>
          intro m hm
          have g : ¬ (m : Int) < (l.length : Int) := by omega
          obtain rfl : m = l.length := by omega
          refine up ?_
          have e : (byt l r : Int) = (bytTo l r l.length : Int) := rfl
          simp only [laws_FnCatBytes.l0, if_neg g, if_pos e]
          rw [decide_eq_true (by omega)]
          exact Ev.now _
        | succ d ih =>
          intro m hm
          have g : (m : Int) < (l.length : Int) := by omega
          have g0 : 0 ≤ (m : Int) := by omega
          have hwm : wrap64 ((m : Int) + 1) = ((m + 1 : Nat) : Int) := by rw [wz (by omega)]; omega
          have hb := bytTo_le l r hs m (by omega)
          have hx := (hs (m : Int) g0 g).2
          have nx := ih (m + 1) (by omega)
          refine up ?_
          by_cases c : (rd_T36 l (m : Int)).f0 = r
          · have hw2 : wrap64 ((bytTo l r m : Int) + ((rd_T36 l (m : Int)).f3.size : Int)) = (bytTo l r (m + 1) : Int) := by rw [wz (by omega)]; simp [bytTo, c]
            simp only [laws_FnCatBytes.l0, if_pos g, if_pos g0, if_pos c, hwm, hw2]
            exact nx
          · have hw2 : bytTo l r (m + 1) = bytTo l r m := by simp [bytTo, c]
            rw [hw2] at nx
            simp only [laws_FnCatBytes.l0, if_pos g, if_pos g0, if_neg c, hwm]
            exact nx
      exact main l.length 0 (by omega)

end Go.Proofs.Ytbpmfdpbgcpjeaa.Pure
