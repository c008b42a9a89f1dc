import Derived.Test.YtmieklaakjabaaaGreatGAbs25
import Derived.Lib.AtoiTie
import Derived.Lib.ItoaMem
import Derived.Lib.Bytealg
set_option linter.unusedSimpArgs false
set_option linter.unusedVariables false
/-! Numbers in decimals, and texts cut at a byte: plain Lean. -/
namespace Go.Abs
open Go
def isDg (c : UInt8) : Bool := decide (48 ≤ c.toNat) && decide (c.toNat ≤ 57)
theorem isDg_iff {c : UInt8} : isDg c = true ↔ 48 ≤ c.toNat ∧ c.toNat ≤ 57 := by unfold isDg; simp
def valL (l : List UInt8) : Nat := l.foldl (fun a c => a * 10 + (c.toNat - 48)) 0
theorem valL_snoc (l : List UInt8) (c : UInt8) : valL (l ++ [c]) = valL l * 10 + (c.toNat - 48) := by unfold valL; rw [List.foldl_append]; rfl
/-- Figures, at least one, and no nought ahead of another one. -/
structure Plain (l : List UInt8) : Prop where
  ne : l ≠ []
  dg : ∀ c ∈ l, isDg c = true
  hd : 1 < l.length → l.head? ≠ some 48
def figB (l : List UInt8) : Bool := !l.isEmpty && (l.all isDg && (decide (l.length ≤ 1) || l.head? != some 48))
theorem figB_iff {l : List UInt8} : figB l = true ↔ Plain l := by
  unfold figB
  constructor
  · intro h
    simp only [Bool.and_eq_true, Bool.or_eq_true, List.all_eq_true, Bool.not_eq_true', decide_eq_true_eq, bne_iff_ne] at h
    refine ⟨fun q => by rw [q] at h; simp at h, h.2.1, fun q => ?_⟩
    rcases h.2.2 with h | h
    · omega
    · exact h
  · intro h
    simp only [Bool.and_eq_true, Bool.or_eq_true, List.all_eq_true, Bool.not_eq_true', decide_eq_true_eq, bne_iff_ne]
    refine ⟨by have := h.ne; cases l <;> simp_all, h.dg, ?_⟩
    by_cases q : l.length ≤ 1
    · exact .inl q
    · exact .inr (h.hd (by omega))
theorem dig_toNat {n : Nat} (h : n < 10) : (UInt8.ofNat (48 + n)).toNat = 48 + n := by
  rw [UInt8.toNat_ofNat']; omega
theorem decDigits_big {n : Nat} (h : ¬ n < 10) : Lib.decDigits n = Lib.decDigits (n / 10) ++ [UInt8.ofNat (48 + n % 10)] := by
  rw [Lib.decDigits, dif_neg h]
theorem head_append {l : List UInt8} (h : l ≠ []) (c : UInt8) : (l ++ [c]).head? = l.head? := by
  cases l with
  | nil => exact absurd rfl h
  | cons x r => rfl
theorem decDigits_plain (n : Nat) : Plain (Lib.decDigits n) ∧ valL (Lib.decDigits n) = n ∧ (0 < n → (Lib.decDigits n).head? ≠ some 48) := by
  induction n using Nat.strongRecOn with
  | _ n ih =>
  by_cases h : n < 10
  · rw [Lib.decDigits_one h]
    have e := dig_toNat h
    refine ⟨⟨by simp, ?_, by simp⟩, ?_, ?_⟩
    · intro c hc
      rw [List.mem_singleton.1 hc, isDg_iff, e]; omega
    · show 0 * 10 + ((UInt8.ofNat (48 + n)).toNat - 48) = n
      rw [e]; omega
    · intro h0 q
      simp only [List.head?_cons, Option.some.injEq] at q
      have := congrArg UInt8.toNat q
      rw [e] at this
      have e48 : (48 : UInt8).toNat = 48 := rfl
      omega
  · rw [decDigits_big h]
    obtain ⟨⟨i1, i2, i3⟩, i4, i5⟩ := ih (n / 10) (by omega)
    have e := dig_toNat (n := n % 10) (by omega)
    have hh : (Lib.decDigits (n / 10) ++ [UInt8.ofNat (48 + n % 10)]).head? ≠ some 48 := by rw [head_append i1]; exact i5 (by omega)
    refine ⟨⟨by simp, ?_, fun _ => hh⟩, ?_, fun _ => hh⟩
    · intro c hc
      rcases List.mem_append.1 hc with hc | hc
      · exact i2 c hc
      · rw [List.mem_singleton.1 hc, isDg_iff, e]; omega
    · rw [valL_snoc, i4, e]; omega
theorem plain_dec : ∀ (k : Nat) {l : List UInt8}, l.length = k → Plain l → Lib.decDigits (valL l) = l := by
  intro k
  induction k with
  | zero => intro l hl h; exact absurd (List.length_eq_zero_iff.1 hl) h.ne
  | succ k ih =>
    intro l hl h
    have hs : l = l.dropLast ++ [l.getLast h.ne] := (List.dropLast_concat_getLast h.ne).symm
    have hm : l.getLast h.ne ∈ l := List.getLast_mem h.ne
    generalize l.getLast h.ne = c at hs hm
    have hd := isDg_iff.1 (h.dg c hm)
    have hd1 : l.dropLast.length = k := by rw [List.length_dropLast]; omega
    by_cases hk : k = 0
    · have : l.dropLast = [] := List.length_eq_zero_iff.1 (by omega)
      rw [this] at hs
      rw [hs]
      have ev : valL ([] ++ [c]) = c.toNat - 48 := by rw [valL_snoc]; show 0 * 10 + _ = _; omega
      rw [ev, Lib.decDigits_one (by omega)]
      have : 48 + (c.toNat - 48) = c.toNat := by omega
      rw [this]; simp
    · have hne : l.dropLast ≠ [] := fun q => hk (by rw [← hd1, q]; rfl)
      have hh : l.dropLast.head? = l.head? := by
        have h1 := head_append hne c
        rw [← hs] at h1
        exact h1.symm
      have h48 : l.dropLast.head? ≠ some 48 := by rw [hh]; exact h.hd (by omega)
      have hp : Plain l.dropLast := ⟨hne, fun x hx => h.dg x (List.dropLast_subset l hx), fun _ => h48⟩
      have i := ih hd1 hp
      have hpos : valL l.dropLast ≠ 0 := fun q => by
        rw [q] at i
        apply h48
        rw [← i]
        rw [Lib.decDigits_one (by decide)]; rfl
      have ev : valL l = valL l.dropLast * 10 + (c.toNat - 48) := by
        have h1 := valL_snoc l.dropLast c
        rw [← hs] at h1
        exact h1
      rw [decDigits_big (by omega)]
      have e1 : valL l / 10 = valL l.dropLast := by omega
      have e2 : 48 + valL l % 10 = c.toNat := by omega
      rw [e1, e2, i]
      have e3 : UInt8.ofNat c.toNat = c := by simp
      rw [e3]
      exact hs.symm
/-- The number of at most six figures that a text is; none: it is no such one. -/
def numOf (l : List UInt8) : Option Nat := if figB l && decide (l.length ≤ 6) then some (valL l) else none
theorem numOf_some {l : List UInt8} {v : Nat} (h : numOf l = some v) : Plain l ∧ l.length ≤ 6 ∧ valL l = v ∧ Lib.itoa v = l := by
  unfold numOf at h
  split at h
  · rename_i q
    simp only [Bool.and_eq_true, decide_eq_true_eq] at q
    have hp := figB_iff.1 q.1
    simp only [Option.some.injEq] at h
    refine ⟨hp, q.2, h, ?_⟩
    rw [Lib.itoa_nonneg, ← h]
    exact plain_dec _ rfl hp
  · cases h
theorem decFrom_plain : ∀ {l : List UInt8} (a : Nat), (∀ c ∈ l, isDg c = true) → Lib.decFrom a l = some (l.foldl (fun a c => a * 10 + (c.toNat - 48)) a)
  | [], a, _ => rfl
  | c :: r, a, h => by
    have hc := isDg_iff.1 (h c List.mem_cons_self)
    unfold Lib.decFrom
    have : Lib.digitVal c = some (c.toNat - 48) := by unfold Lib.digitVal; rw [if_pos hc]
    rw [this]
    exact decFrom_plain (a * 10 + (c.toNat - 48)) fun x hx => h x (List.mem_cons_of_mem _ hx)
theorem atoi_plain {l : List UInt8} (h : Plain l) (hl : l.length ≤ 18) : Lib.atoiAll l = .ok (valL l : Int) := by
  rw [Lib.atoiAll_short l hl]
  have hne := h.ne
  cases l with
  | nil => exact absurd rfl hne
  | cons c r =>
    have hc := isDg_iff.1 (h.dg c List.mem_cons_self)
    have h1 : ¬ c = 45 := fun q => by rw [q] at hc; have : (45 : UInt8).toNat = 45 := rfl; omega
    have h2 : ¬ c = 43 := fun q => by rw [q] at hc; have : (43 : UInt8).toNat = 43 := rfl; omega
    have hd : Lib.decNat (c :: r) = some (valL (c :: r)) := by
      unfold Lib.decNat
      simp only [List.isEmpty_cons, Bool.false_eq_true, if_false]
      exact decFrom_plain 0 h.dg
    unfold Lib.atoi
    simp only [beq_iff_eq, h1, h2, if_false, hd, Option.map_some]
    rfl
theorem numOf_none {l : List UInt8} (h : numOf l = none) {v : Int} (h0 : 0 ≤ v) (hl : l.length ≤ 6) : Lib.itoa v ≠ l := by
  obtain ⟨n, rfl⟩ := Int.eq_ofNat_of_zero_le h0
  intro q
  rw [Lib.itoa_nonneg] at q
  have hp := (decDigits_plain n).1
  rw [q] at hp
  unfold numOf at h
  rw [figB_iff.2 hp, decide_eq_true hl] at h
  cases h
theorem numOf_dec {n : Nat} (h : (Lib.decDigits n).length ≤ 6) : numOf (Lib.decDigits n) = some n := by
  unfold numOf
  rw [figB_iff.2 (decDigits_plain n).1, decide_eq_true h, (decDigits_plain n).2.1]; rfl
theorem valL_lt (l : List UInt8) : (∀ c ∈ l, isDg c = true) → valL l < 10 ^ l.length := by
  suffices h : ∀ k (l : List UInt8), l.length = k → (∀ c ∈ l, isDg c = true) → valL l < 10 ^ k from h _ l rfl
  intro k
  induction k with
  | zero => intro l hl _; rw [List.length_eq_zero_iff.1 hl]; decide
  | succ k ih =>
    intro l hl h
    have hne : l ≠ [] := fun q => by rw [q] at hl; simp at hl
    have hs : l = l.dropLast ++ [l.getLast hne] := (List.dropLast_concat_getLast hne).symm
    have i := ih l.dropLast (by rw [List.length_dropLast]; omega) fun x hx => h x (List.dropLast_subset l hx)
    have hd := isDg_iff.1 (h _ (List.getLast_mem hne))
    rw [hs, valL_snoc, Nat.pow_succ]; omega
theorem numOf_lt {l : List UInt8} {v : Nat} (h : numOf l = some v) : v < 1000000 := by
  obtain ⟨hp, hl, rfl, _⟩ := numOf_some h
  have h1 := valL_lt l hp.dg
  have h2 : 10 ^ l.length ≤ 10 ^ 6 := Nat.pow_le_pow_right (by decide) hl
  have : (10 : Nat) ^ 6 = 1000000 := by decide
  omega
theorem wrap_u8 (n : Int) (h0 : 0 ≤ n) (h1 : n ≤ 255) : IntKind.u8.wrap n = n := by
  simp only [IntKind.wrap, IntKind.bits, IntKind.signed]
  simp
  omega
theorem wrap_u32 (n : Int) (h0 : 0 ≤ n) (h1 : n ≤ 4294967295) : IntKind.u32.wrap n = n := by
  simp only [IntKind.wrap, IntKind.bits, IntKind.signed]
  simp
  omega
theorem str_eq {a b : ByteArray} : (a.toList == b.toList) = true ↔ a = b := by
  rw [beq_iff_eq, Go.ByteArray.toList_eq, Go.ByteArray.toList_eq]
  constructor
  · intro h
    apply ByteArray.ext
    exact Array.ext' h
  · intro h; rw [h]
theorem str_t {a b : ByteArray} (h : a = b) : (a.toList == b.toList) = true := str_eq.2 h
theorem str_f {a b : ByteArray} (h : a ≠ b) : (a.toList == b.toList) = false := by
  cases q : (a.toList == b.toList) with
  | false => rfl
  | true => exact absurd (str_eq.1 q) h
/-! ### a byte in a text; a text cut at a byte -/
def idx (c : UInt8) : List UInt8 → Option Nat
  | [] => none
  | x :: r => if x = c then some 0 else (idx c r).map (· + 1)
theorem idx_some {c : UInt8} : ∀ {l : List UInt8} {k : Nat}, idx c l = some k → k < l.length ∧ l[k]? = some c ∧ ∀ i, i < k → l[i]? ≠ some c
  | [], k, h => by cases h
  | x :: r, k, h => by
    unfold idx at h
    split at h
    · rename_i q
      cases h
      exact ⟨by simp, by simp [q], fun i hi => by omega⟩
    · rename_i q
      cases hr : idx c r with
      | none => rw [hr] at h; cases h
      | some j =>
        rw [hr] at h
        simp only [Option.map_some, Option.some.injEq] at h
        subst h
        obtain ⟨h1, h2, h3⟩ := idx_some hr
        refine ⟨by simp; omega, by simpa using h2, fun i hi => ?_⟩
        cases i with
        | zero => simpa using q
        | succ i => simpa using h3 i (by omega)
theorem idx_none {c : UInt8} : ∀ {l : List UInt8}, idx c l = none → ∀ x ∈ l, x ≠ c
  | [], _, x, hx => by cases hx
  | y :: r, h, x, hx => by
    unfold idx at h
    split at h
    · cases h
    · rename_i q
      rcases List.mem_cons.1 hx with e | hx
      · rw [e]; exact q
      · exact idx_none (l := r) (by cases hr : idx c r with | none => rfl | some j => rw [hr] at h; cases h) x hx
theorem idx_append {c : UInt8} : ∀ {l m : List UInt8}, (∀ x ∈ l, x ≠ c) → idx c (l ++ c :: m) = some l.length
  | [], m, _ => by simp [idx]
  | x :: r, m, h => by
    show idx c (x :: (r ++ c :: m)) = _
    unfold idx
    rw [if_neg (h x List.mem_cons_self), idx_append fun y hy => h y (List.mem_cons_of_mem _ hy)]
    rfl
theorem idx_no {c : UInt8} : ∀ {l : List UInt8}, (∀ x ∈ l, x ≠ c) → idx c l = none
  | [], _ => rfl
  | x :: r, h => by
    unfold idx
    rw [if_neg (h x List.mem_cons_self), idx_no fun y hy => h y (List.mem_cons_of_mem _ hy)]
    rfl
/-- The place of a byte from a place on, as an int; -1. -/
def findB (c : UInt8) (l : List UInt8) (i : Nat) : Int := match idx c (l.drop i) with
  | some k => ((i + k : Nat) : Int)
  | none => -1
theorem drop_cons {l : List UInt8} {i : Nat} (h : i < l.length) : l.drop i = l[i] :: l.drop (i + 1) := List.drop_eq_getElem_cons h
theorem findB_hit {c : UInt8} {l : List UInt8} {i : Nat} (h : i < l.length) (e : l[i] = c) : findB c l i = i := by
  unfold findB; rw [drop_cons h]; unfold idx; rw [if_pos e]; rfl
theorem findB_next {c : UInt8} {l : List UInt8} {i : Nat} (h : i < l.length) (e : ¬ l[i] = c) : findB c l i = findB c l (i + 1) := by
  unfold findB; rw [drop_cons h]; conv => lhs; unfold idx
  rw [if_neg e]
  cases idx c (l.drop (i + 1)) with
  | none => rfl
  | some k => simp only [Option.map_some]; congr 1; omega
theorem findB_end {c : UInt8} {l : List UInt8} {i : Nat} (h : l.length ≤ i) : findB c l i = -1 := by
  unfold findB; rw [List.drop_eq_nil_of_le h]; rfl
theorem findB_rng {c : UInt8} {l : List UInt8} {i : Nat} : findB c l i = -1 ∨ ((i : Int) ≤ findB c l i ∧ findB c l i < l.length) := by
  unfold findB
  split
  · rename_i k h
    have := (idx_some h).1
    rw [List.length_drop] at this
    right; omega
  · left; rfl
/-- The pieces of a text between the bytes c. -/
def cuts (c : UInt8) : List UInt8 → List (List UInt8)
  | [] => [[]]
  | x :: r => if x = c then [] :: cuts c r else match cuts c r with
    | [] => [[x]]
    | p :: ps => (x :: p) :: ps
theorem cuts_some {c : UInt8} : ∀ {l : List UInt8} {k : Nat}, idx c l = some k → cuts c l = l.take k :: cuts c (l.drop (k + 1))
  | [], k, h => by cases h
  | x :: r, k, h => by
    unfold idx at h
    split at h
    · rename_i q
      cases h
      conv => lhs; unfold cuts
      rw [if_pos q]; rfl
    · rename_i q
      cases hr : idx c r with
      | none => rw [hr] at h; cases h
      | some j =>
        rw [hr] at h
        simp only [Option.map_some, Option.some.injEq] at h
        subst h
        conv => lhs; unfold cuts
        rw [if_neg q, cuts_some hr]; rfl
theorem cuts_none {c : UInt8} : ∀ {l : List UInt8}, idx c l = none → cuts c l = [l]
  | [], _ => rfl
  | x :: r, h => by
    unfold idx at h
    split at h
    · cases h
    · rename_i q
      have hr : idx c r = none := by cases hr : idx c r with | none => rfl | some j => rw [hr] at h; cases h
      conv => lhs; unfold cuts
      rw [if_neg q, cuts_none hr]
theorem cuts_app {c : UInt8} {l m : List UInt8} (h : ∀ x ∈ l, x ≠ c) : cuts c (l ++ c :: m) = l :: cuts c m := by
  rw [cuts_some (idx_append h)]
  have e1 : (l ++ c :: m).take l.length = l := by simp
  have e2 : (l ++ c :: m).drop (l.length + 1) = m := by rw [List.drop_append]; simp
  rw [e1, e2]
theorem cuts_length {c : UInt8} : ∀ (l : List UInt8), (cuts c l).length = l.count c + 1
  | [] => rfl
  | x :: r => by
    have ih := cuts_length (c := c) r
    unfold cuts
    split
    · rename_i q
      rw [List.length_cons, ih, q, List.count_cons_self]
    · rename_i q
      rw [List.count_cons_of_ne (by simpa using q)]
      split
      · rename_i e; rw [e] at ih; simp at ih
      · rename_i p ps e; rw [e] at ih; simpa using ih
def mkS (p : List UInt8) : ByteArray := ⟨p.toArray⟩
theorem mkS_list (p : List UInt8) : (mkS p).data.toList = p := rfl
theorem mkS_size (p : List UInt8) : (mkS p).size = p.length := by show p.toArray.size = _; simp
theorem mkS_of (s : ByteArray) : mkS s.data.toList = s := by apply ByteArray.ext; show s.data.toList.toArray = s.data; simp
theorem extract_eq (s : ByteArray) (a b : Nat) : s.extract a b = mkS ((s.data.toList.drop a).take (b - a)) := by
  apply ByteArray.ext
  apply Array.ext'
  show (s.extract a b).data.toList = ((s.data.toList.drop a).take (b - a)).toArray.toList
  rw [ByteArray.data_extract, Array.toList_extract]
@[reducible] def encS (ps : List (List UInt8)) : List (List PV) := ps.map fun p => [.lit (.string (mkS p))]
theorem encS_len (ps : List (List UInt8)) : (encS ps).length = ps.length := List.length_map ..
theorem findB_some {c : UInt8} {l : List UInt8} {f i : Nat} (h : findB c l f = i) : f ≤ i ∧ idx c (l.drop f) = some (i - f) := by
  unfold findB at h
  split at h
  · rename_i k hk
    have : i = f + k := by omega
    subst this
    exact ⟨by omega, by rw [hk]; congr 1; omega⟩
  · omega
theorem findB_neg {c : UInt8} {l : List UInt8} {f : Nat} (h : findB c l f = -1) : idx c (l.drop f) = none := by
  unfold findB at h
  split at h
  · omega
  · assumption
theorem indexByte_eq (c : UInt8) : ∀ l : List UInt8, Lib.indexByte l c = match idx c l with | some k => (k : Int) | none => -1
  | [] => rfl
  | x :: r => by
    unfold Lib.indexByte idx
    by_cases h : x = c
    · rw [if_pos h, if_pos (by simpa using h)]; rfl
    · rw [if_neg h, if_neg (by simpa using h), indexByte_eq c r]
      cases idx c r with
      | none => rfl
      | some k =>
        show (if ((k : Int) == -1) = true then -1 else (k : Int) + 1) = ((k + 1 : Nat) : Int)
        have e : ¬ ((k : Int) == -1) = true := fun q => by have := beq_iff_eq.1 q; omega
        rw [if_neg e]; omega
def idxI (c : UInt8) (s : ByteArray) : Int := match idx c s.data.toList with | some k => (k : Int) | none => -1
theorem idxI_some {c : UInt8} {s : ByteArray} {k : Nat} (h : idx c s.data.toList = some k) : idxI c s = k := by unfold idxI; rw [h]
theorem idxI_none {c : UInt8} {s : ByteArray} (h : idx c s.data.toList = none) : idxI c s = -1 := by unfold idxI; rw [h]
/-- A text cut at the first byte c. -/
def cutA (c : UInt8) (s : ByteArray) : ByteArray := match idx c s.data.toList with | some k => mkS (s.data.toList.take k) | none => s
def cutB (c : UInt8) (s : ByteArray) : ByteArray := match idx c s.data.toList with | some k => mkS (s.data.toList.drop (k + 1)) | none => ⟨#[]⟩
def cutC (c : UInt8) (s : ByteArray) : Bool := (idx c s.data.toList).isSome
theorem set_fill {α : Type} (a : List α) (n : Nat) (z x : α) : (a ++ List.replicate (n + 1) z).set a.length x = (a ++ [x]) ++ List.replicate n z := by
  rw [List.set_append_right _ _ (Nat.le_refl _), Nat.sub_self, List.replicate_succ, List.set_cons_zero]; simp
end Go.Abs
