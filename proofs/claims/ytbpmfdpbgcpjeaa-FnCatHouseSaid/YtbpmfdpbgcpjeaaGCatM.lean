import Derived.Test.YtbpmfdpbgcpjeaaGTypes
set_option linter.unusedSimpArgs false
set_option linter.unusedVariables false
namespace Go.Abs.C
open Go Go.Abs Go.Proofs
/-! ### a catalogue, without the program -/
abbrev Is := List RItem
@[reducible] def enI := encItem
def inR (n lo hi : Int) : Bool := decide (lo ≤ n) && decide (n ≤ hi)
theorem inR_iff {n lo hi : Int} : inR n lo hi = true ↔ lo ≤ n ∧ n ≤ hi := by unfold inR; simp
def ia (l : Is) (i : Nat) : RItem := l.getD i zItem
theorem ia_lt {l : Is} {i : Nat} (h : i < l.length) : ia l i = l[i] := by unfold ia; rw [List.getD_eq_getElem?_getD, List.getElem?_eq_getElem h]; rfl
/-! texts in order -/
def bl (x y : ByteArray) : Bool := Op.bytesLess x.toList y.toList
theorem bless_irrefl : ∀ l, Op.bytesLess l l = false
  | [] => rfl
  | a :: l => by simp only [Op.bytesLess]; rw [bless_irrefl l]; simp
theorem bless_trans : ∀ a b c, Op.bytesLess a b = true → Op.bytesLess b c = true → Op.bytesLess a c = true
  | _, [], _, h, _ => by simp [Op.bytesLess] at h
  | _, _ :: _, [], _, h => by simp [Op.bytesLess] at h
  | [], _ :: _, _ :: _, _, _ => rfl
  | a :: x, b :: y, c :: z, h1, h2 => by
    simp only [Op.bytesLess, Bool.or_eq_true, decide_eq_true_eq, Bool.and_eq_true, beq_iff_eq] at h1 h2 ⊢
    rcases h1 with h1 | ⟨rfl, h1⟩
    · rcases h2 with h2 | ⟨rfl, h2⟩
      · exact .inl (UInt8.lt_trans h1 h2)
      · exact .inl h1
    · rcases h2 with h2 | ⟨rfl, h2⟩
      · exact .inl h2
      · exact .inr ⟨rfl, bless_trans x y z h1 h2⟩
theorem bless_tri : ∀ a b, Op.bytesLess a b = false → Op.bytesLess b a = false → a = b
  | [], [], _, _ => rfl
  | [], _ :: _, h, _ => by simp [Op.bytesLess] at h
  | _ :: _, [], _, h => by simp [Op.bytesLess] at h
  | a :: x, b :: y, h1, h2 => by
    simp only [Op.bytesLess, Bool.or_eq_false_iff, decide_eq_false_iff_not] at h1 h2
    have e : a = b := UInt8.le_antisymm (UInt8.not_lt.1 h2.1) (UInt8.not_lt.1 h1.1)
    subst e
    have := h1.2; have h3 := h2.2
    simp only [beq_self_eq_true, Bool.true_and] at this h3
    rw [bless_tri x y this h3]
theorem bl_tri {x y : ByteArray} (h1 : bl x y = false) (h2 : bl y x = false) : x.toList = y.toList := bless_tri _ _ h1 h2
/-- Does an item stand ahead of a house and a name? -/
def less (x : RItem) (h : Int) (n : ByteArray) : Bool := decide (x.a < h) || (x.a == h && bl x.b n)
theorem less_irrefl (x : RItem) : less x x.a x.b = false := by
  unfold less bl; rw [bless_irrefl]; simp
theorem less_trans {x y z : RItem} (h1 : less x y.a y.b = true) (h2 : less y z.a z.b = true) : less x z.a z.b = true := by
  unfold less bl at h1 h2 ⊢
  simp only [Bool.or_eq_true, decide_eq_true_eq, Bool.and_eq_true, beq_iff_eq] at h1 h2 ⊢
  rcases h1 with h1 | ⟨e1, h1⟩
  · rcases h2 with h2 | ⟨e2, h2⟩
    · exact .inl (by omega)
    · exact .inl (by omega)
  · rcases h2 with h2 | ⟨e2, h2⟩
    · exact .inl (by omega)
    · exact .inr ⟨e1.trans e2, bless_trans _ _ _ h1 h2⟩
theorem less_asymm {x y : RItem} (h : less x y.a y.b = true) : less y x.a x.b = false := by
  cases q : less y x.a x.b with
  | false => rfl
  | true => have := less_trans h q; rw [less_irrefl] at this; cases this
/-- The same house and the same name. -/
def same (x : RItem) (h : Int) (n : ByteArray) : Bool := x.a == h && x.b.toList == n.toList
theorem less_tri {x y : RItem} (h1 : less x y.a y.b = false) (h2 : less y x.a x.b = false) : same x y.a y.b = true := by
  unfold less at h1 h2
  simp only [Bool.or_eq_false_iff, decide_eq_false_iff_not] at h1 h2
  have e : x.a = y.a := by omega
  have h3 := h1.2; have h4 := h2.2
  rw [e] at h3 h4
  simp only [beq_self_eq_true, Bool.true_and] at h3 h4
  unfold same
  rw [e, bl_tri h3 h4]; simp
def bytesOf : Is → Int → Nat
  | [], _ => 0
  | x :: xs, h => (if x.a = h then x.d.size else 0) + bytesOf xs h
theorem bytesOf_app (h : Int) : ∀ (a b : Is), bytesOf (a ++ b) h = bytesOf a h + bytesOf b h
  | [], b => by simp [bytesOf]
  | x :: a, b => by simp only [List.cons_append, bytesOf, bytesOf_app h a b]; omega
theorem bytesOf_snoc (h : Int) (l : Is) (i : Nat) (hi : i < l.length) : bytesOf (l.take (i + 1)) h = bytesOf (l.take i) h + (if (ia l i).a = h then (ia l i).d.size else 0) := by
  rw [List.take_succ_eq_append_getElem hi, bytesOf_app, ← ia_lt hi]; simp [bytesOf]
theorem bytesOf_le (h : Int) (n : Nat) : ∀ (l : Is), (∀ x ∈ l, x.d.size ≤ n) → bytesOf l h ≤ l.length * n
  | [], _ => by simp [bytesOf]
  | x :: xs, hx => by
    have h1 := hx x (List.mem_cons_self ..)
    have h2 := bytesOf_le h n xs fun y hy => hx y (List.mem_cons_of_mem _ hy)
    simp only [bytesOf, List.length_cons, Nat.succ_mul]
    split <;> omega
def findI (p : RItem → Bool) (l : Is) : Int := match l.findIdx? p with
  | some i => i
  | none => -1
theorem findI_at {p : RItem → Bool} {l : Is} {i : Nat} (hi : i < l.length) (h0 : ∀ k, k < i → p (ia l k) = false) (h1 : p (ia l i) = true) : findI p l = i := by
  have : l.findIdx? p = some i := by
    rw [List.findIdx?_eq_some_iff_getElem]
    refine ⟨hi, by rw [← ia_lt hi]; exact h1, fun j hj => ?_⟩
    rw [← ia_lt (by omega), h0 j hj]; simp
  unfold findI; rw [this]
theorem findI_no {p : RItem → Bool} {l : Is} (h0 : ∀ k, k < l.length → p (ia l k) = false) : findI p l = -1 := by
  have : l.findIdx? p = none := by
    rw [List.findIdx?_eq_none_iff]
    intro x hx
    obtain ⟨k, hk, rfl⟩ := List.mem_iff_getElem.1 hx
    rw [← ia_lt hk]; exact h0 k hk
  unfold findI; rw [this]
theorem findI_pos {p : RItem → Bool} {l : Is} (h : 0 ≤ findI p l) : (findI p l).toNat < l.length ∧ p (ia l (findI p l).toNat) = true ∧ ∀ k, k < (findI p l).toNat → p (ia l k) = false := by
  unfold findI at h ⊢
  cases hq : l.findIdx? p with
  | none => simp [hq] at h
  | some j =>
    simp only [Int.toNat_natCast]
    rw [List.findIdx?_eq_some_iff_getElem] at hq
    obtain ⟨h1, h2, h3⟩ := hq
    refine ⟨h1, by rw [ia_lt h1]; exact h2, fun k hk => ?_⟩
    have := h3 k hk
    rw [ia_lt (by omega)]; simpa using this
theorem findI_neg {p : RItem → Bool} {l : Is} (h : findI p l < 0) : ∀ k, k < l.length → p (ia l k) = false := by
  unfold findI at h
  cases hq : l.findIdx? p with
  | some j => simp only [hq] at h; omega
  | none =>
    rw [List.findIdx?_eq_none_iff] at hq
    intro k hk
    rw [ia_lt hk]; exact hq _ (List.getElem_mem hk)
theorem findI_ge (p : RItem → Bool) (l : Is) : -1 ≤ findI p l := by unfold findI; split <;> omega
theorem findI_lt (p : RItem → Bool) (l : Is) : findI p l < l.length := by
  by_cases h : 0 ≤ findI p l
  · have := (findI_pos h).1; omega
  · omega
def nameOk (s : ByteArray) : Bool := (List.range s.size).all (fun i => decide (97 ≤ bt s i) && decide (bt s i ≤ 122)) && inR s.size 1 6
def itemOk (x : RItem) : Bool := inR x.a 0 1 && (nameOk x.b && inR x.d.size 1 300)
structure ItemAt (l : Is) (last : Int) (i : Nat) : Prop where
  ok : itemOk (ia l i) = true
  ed : inR (ia l i).c 1 last = true
  ord : 0 < i → less (ia l (i - 1)) (ia l i).a (ia l i).b = true
  new : ∀ k, k < i → (ia l k).c ≠ (ia l i).c
structure CatP (l : Is) (last : Int) : Prop where
  lst : inR last 0 99999 = true
  len : l.length ≤ 8
  at_ : ∀ i, i < l.length → ItemAt l last i
  b0 : bytesOf l 0 ≤ 500
  b1 : bytesOf l 1 ≤ 500
noncomputable def catOk (l : Is) (last : Int) : Bool := @decide (CatP l last) (Classical.propDecidable _)
theorem catOk_true {l : Is} {last : Int} (p : CatP l last) : catOk l last = true := by unfold catOk; exact @decide_eq_true _ (Classical.propDecidable _) p
theorem catOk_false {l : Is} {last : Int} (p : ¬ CatP l last) : catOk l last = false := by unfold catOk; exact @decide_eq_false _ (Classical.propDecidable _) p
theorem catOk_of {l : Is} {last : Int} (p : catOk l last = true) : CatP l last := by unfold catOk at p; exact @of_decide_eq_true _ (Classical.propDecidable _) p
theorem CatP.small {l : Is} {last : Int} (p : CatP l last) : ∀ x ∈ l, x.d.size ≤ 300 := by
  intro x hx
  obtain ⟨k, hk, rfl⟩ := List.mem_iff_getElem.1 hx
  have := (p.at_ k hk).ok
  rw [ia_lt hk] at this
  unfold itemOk at this
  simp only [Bool.and_eq_true] at this
  have := (inR_iff.1 this.2.2).2
  omega
/-- All that stands ahead is less. -/
theorem CatP.sorted {l : Is} {last : Int} (p : CatP l last) : ∀ {j i : Nat}, j < i → i < l.length → less (ia l j) (ia l i).a (ia l i).b = true := by
  intro j i hj
  induction i with
  | zero => omega
  | succ i ih =>
    intro hi
    have h1 := (p.at_ (i + 1) hi).ord (by omega)
    rw [Nat.add_sub_cancel] at h1
    by_cases e : j = i
    · rw [e]; exact h1
    · exact less_trans (ih (by omega) (by omega)) h1
/-- A thing put in at a place. -/
def putAt (l : Is) (k : Nat) (t : RItem) : Is := l.take k ++ t :: l.drop k
theorem putAt_len {l : Is} {k : Nat} {t : RItem} (h : k ≤ l.length) : (putAt l k t).length = l.length + 1 := by
  unfold putAt; rw [List.length_append, List.length_cons, List.length_take, List.length_drop]; omega
theorem ia_putAt {l : Is} {k : Nat} {t : RItem} (h : k ≤ l.length) (i : Nat) : ia (putAt l k t) i = if i < k then ia l i else if i = k then t else ia l (i - 1) := by
  unfold ia putAt
  have hk : (l.take k).length = k := by rw [List.length_take]; omega
  rw [List.getD_eq_getElem?_getD]
  by_cases h1 : i < k
  · rw [if_pos h1, List.getElem?_append_left (by omega), List.getElem?_take, if_pos h1, List.getD_eq_getElem?_getD]
  · rw [if_neg h1, List.getElem?_append_right (by omega), hk]
    by_cases h2 : i = k
    · rw [if_pos h2, h2, Nat.sub_self]; rfl
    · rw [if_neg h2, show i - k = (i - 1 - k) + 1 by omega, List.getElem?_cons_succ, List.getElem?_drop, show k + (i - 1 - k) = i - 1 by omega, List.getD_eq_getElem?_getD]
def kOf (l : Is) (h : Int) (n : ByteArray) : Nat := (l.takeWhile fun x => less x h n).length
theorem kOf_eq (h : Int) (n : ByteArray) : ∀ {l : Is} {k : Nat}, k ≤ l.length → (∀ j, j < k → less (ia l j) h n = true) → (k < l.length → less (ia l k) h n = false) → k = kOf l h n
  | [], k, hk, _, _ => by simp [kOf] at hk ⊢; omega
  | x :: xs, 0, _, _, h2 => by
    have := h2 (by simp)
    unfold kOf
    rw [List.takeWhile_cons, show less x h n = false from this]; rfl
  | x :: xs, k + 1, hk, h1, h2 => by
    have h0 := h1 0 (by omega)
    have ih := kOf_eq h n (l := xs) (k := k) (by simpa using hk) (fun j hj => h1 (j + 1) (by omega)) (fun q => h2 (by simpa using q))
    unfold kOf at ih ⊢
    rw [List.takeWhile_cons, show less x h n = true from h0]
    simp only [if_true, List.length_cons]; omega
theorem kOf_le (l : Is) (h : Int) (n : ByteArray) : kOf l h n ≤ l.length := List.IsPrefix.length_le (List.takeWhile_prefix _)
theorem kOf_spec (h : Int) (n : ByteArray) : ∀ (l : Is), (∀ j, j < kOf l h n → less (ia l j) h n = true) ∧ (kOf l h n < l.length → less (ia l (kOf l h n)) h n = false)
  | [] => by unfold kOf; simp
  | x :: xs => by
    have ih := kOf_spec h n xs
    cases q : less x h n with
    | true =>
      have e : kOf (x :: xs) h n = kOf xs h n + 1 := by unfold kOf; rw [List.takeWhile_cons, q]; simp
      rw [e]
      refine ⟨fun j hj => ?_, fun hl => ?_⟩
      · cases j with
        | zero => exact q
        | succ j => exact ih.1 j (by omega)
      · exact ih.2 (by simpa using hl)
    | false =>
      have e : kOf (x :: xs) h n = 0 := by unfold kOf; rw [List.takeWhile_cons, q]; simp
      rw [e]
      exact ⟨fun j hj => by omega, fun _ => q⟩
theorem bytesOf_putAt {l : Is} {k : Nat} {t : RItem} (h : Int) : bytesOf (putAt l k t) h = bytesOf l h + (if t.a = h then t.d.size else 0) := by
  unfold putAt
  have : bytesOf l h = bytesOf (l.take k) h + bytesOf (l.drop k) h := by rw [← bytesOf_app, List.take_append_drop]
  rw [bytesOf_app, this]; simp only [bytesOf]; omega
theorem put_keeps {l : Is} {last : Int} (p : CatP l last) {t : RItem} (hok : itemOk t = true) (hf : ∀ k, k < l.length → same (ia l k) t.a t.b = false) (hlen : l.length < 8) (hlast : last < 99999) (hb : bytesOf l t.a + t.d.size ≤ 500) (hc : t.c = last + 1) :
    CatP (putAt l (kOf l t.a t.b) t) (last + 1) := by
  have hk := kOf_le l t.a t.b
  obtain ⟨s1, s2⟩ := kOf_spec t.a t.b l
  generalize kOf l t.a t.b = k at hk s1 s2 ⊢
  have hl0 := inR_iff.1 p.lst
  have s3 : k < l.length → less t (ia l k).a (ia l k).b = true := by
    intro hkl
    cases q : less t (ia l k).a (ia l k).b with
    | true => rfl
    | false =>
      have := less_tri (s2 hkl) q
      rw [hf k hkl] at this; cases this
  have hi := ia_putAt (t := t) hk
  refine ⟨inR_iff.2 (by omega), by rw [putAt_len hk]; omega, fun i hil => ?_, ?_, ?_⟩
  · rw [putAt_len hk] at hil
    refine ⟨?_, ?_, fun h0 => ?_, fun j hj => ?_⟩
    · rw [hi]
      split
      · exact (p.at_ i (by omega)).ok
      · split
        · exact hok
        · exact (p.at_ (i - 1) (by omega)).ok
    · rw [hi]
      split
      · have := inR_iff.1 (p.at_ i (by omega)).ed; exact inR_iff.2 (by omega)
      · split
        · exact inR_iff.2 (by omega)
        · have := inR_iff.1 (p.at_ (i - 1) (by omega)).ed; exact inR_iff.2 (by omega)
    · rw [hi, hi]
      by_cases q1 : i < k
      · rw [if_pos (show i - 1 < k by omega), if_pos q1]
        exact (p.at_ i (by omega)).ord h0
      · by_cases q2 : i = k
        · rw [if_pos (show i - 1 < k by omega), if_neg q1, if_pos q2]
          exact s1 _ (by omega)
        · rw [if_neg q1, if_neg q2]
          by_cases q3 : i - 1 = k
          · rw [if_neg (show ¬ i - 1 < k by omega), if_pos q3, q3]
            exact s3 (by omega)
          · rw [if_neg (show ¬ i - 1 < k by omega), if_neg q3]
            exact (p.at_ (i - 1) (by omega)).ord (by omega)
    · have hc' : ∀ j, j < l.length → (ia l j).c ≠ t.c := by
        intro j hj
        have := inR_iff.1 (p.at_ j hj).ed
        omega
      rw [hi, hi]
      by_cases q1 : i < k
      · rw [if_pos (show j < k by omega), if_pos q1]
        exact (p.at_ i (by omega)).new j hj
      · by_cases q2 : i = k
        · rw [if_neg q1, if_pos q2, if_pos (show j < k by omega)]
          exact hc' j (by omega)
        · rw [if_neg q1, if_neg q2]
          by_cases q3 : j < k
          · rw [if_pos q3]; exact (p.at_ (i - 1) (by omega)).new j (by omega)
          · rw [if_neg q3]
            by_cases q4 : j = k
            · rw [if_pos q4]; exact fun e => hc' (i - 1) (by omega) e.symm
            · rw [if_neg q4]; exact (p.at_ (i - 1) (by omega)).new (j - 1) (by omega)
  · rw [bytesOf_putAt]; have := p.b0; split
    · rename_i e; rw [e] at hb; omega
    · omega
  · rw [bytesOf_putAt]; have := p.b1; split
    · rename_i e; rw [e] at hb; omega
    · omega
/-- A thing taken out at a place. -/
def delAt (l : Is) (k : Nat) : Is := l.take k ++ l.drop (k + 1)
theorem delAt_len {l : Is} {k : Nat} (h : k < l.length) : (delAt l k).length = l.length - 1 := by
  unfold delAt; rw [List.length_append, List.length_take, List.length_drop]; omega
theorem ia_delAt {l : Is} {k : Nat} (h : k < l.length) (i : Nat) : ia (delAt l k) i = if i < k then ia l i else ia l (i + 1) := by
  unfold ia delAt
  have hk : (l.take k).length = k := by rw [List.length_take]; omega
  rw [List.getD_eq_getElem?_getD]
  by_cases h1 : i < k
  · rw [if_pos h1, List.getElem?_append_left (by omega), List.getElem?_take, if_pos h1, List.getD_eq_getElem?_getD]
  · rw [if_neg h1, List.getElem?_append_right (by omega), hk, List.getElem?_drop, show k + 1 + (i - k) = i + 1 by omega, List.getD_eq_getElem?_getD]
theorem bytesOf_delAt {l : Is} {k : Nat} (h : Int) : bytesOf (delAt l k) h ≤ bytesOf l h := by
  unfold delAt
  have : bytesOf l h = bytesOf (l.take k) h + bytesOf (l.drop k) h := by rw [← bytesOf_app, List.take_append_drop]
  have h2 : bytesOf (l.drop (k + 1)) h ≤ bytesOf (l.drop k) h := by
    rw [← List.tail_drop]
    cases l.drop k with
    | nil => exact Nat.le_refl _
    | cons x xs => simp only [List.tail_cons, bytesOf]; omega
  rw [bytesOf_app, this]; omega
theorem del_keeps {l : Is} {last : Int} (p : CatP l last) {k : Nat} (hk : k < l.length) : CatP (delAt l k) last := by
  have hi := ia_delAt hk
  refine ⟨p.lst, by rw [delAt_len hk]; have := p.len; omega, fun i hil => ?_, Nat.le_trans (bytesOf_delAt 0) p.b0, Nat.le_trans (bytesOf_delAt 1) p.b1⟩
  rw [delAt_len hk] at hil
  refine ⟨?_, ?_, fun h0 => ?_, fun j hj => ?_⟩
  · rw [hi]; split
    · exact (p.at_ i (by omega)).ok
    · exact (p.at_ (i + 1) (by omega)).ok
  · rw [hi]; split
    · exact (p.at_ i (by omega)).ed
    · exact (p.at_ (i + 1) (by omega)).ed
  · rw [hi, hi]
    exact (by
      by_cases q1 : i < k
      · rw [if_pos q1, if_pos (show i - 1 < k by omega)]; exact p.sorted (by omega) (by omega)
      · rw [if_neg q1]
        by_cases q2 : i - 1 < k
        · rw [if_pos q2]; exact p.sorted (by omega) (by omega)
        · rw [if_neg q2]; exact p.sorted (by omega) (by omega))
  · rw [hi, hi]
    by_cases q1 : i < k
    · rw [if_pos q1, if_pos (show j < k by omega)]; exact (p.at_ i (by omega)).new j hj
    · rw [if_neg q1]
      by_cases q2 : j < k
      · rw [if_pos q2]; exact (p.at_ (i + 1) (by omega)).new j (by omega)
      · rw [if_neg q2]; exact (p.at_ (i + 1) (by omega)).new (j + 1) (by omega)
theorem same_less {x : RItem} {h : Int} {n : ByteArray} (h1 : less x h n = true) : same x h n = false := by
  cases q : same x h n with
  | false => rfl
  | true =>
    unfold same at q
    simp only [Bool.and_eq_true, beq_iff_eq] at q
    unfold less bl at h1
    rw [q.1, q.2, bless_irrefl] at h1
    simp at h1
theorem same_self (x : RItem) : same x x.a x.b = true := by unfold same; simp
theorem find_self {l : Is} {last : Int} (p : CatP l last) {j : Nat} (hj : j < l.length) : findI (fun x => same x (ia l j).a (ia l j).b) l = j :=
  findI_at hj (fun k hk => same_less (p.sorted hk hj)) (same_self _)
theorem edit_self {l : Is} {last : Int} (p : CatP l last) {j : Nat} (hj : j < l.length) : findI (fun x => x.c == (ia l j).c) l = j :=
  findI_at hj (fun k hk => by rw [beq_eq_false_iff_ne]; exact (p.at_ j hj).new k hk) (by simp)
def putC (l : Is) (last h : Int) (n t : ByteArray) : Is × Int × Int := match itemOk ⟨h, n, 0, t⟩ with
  | false => (l, last, 1)
  | true => match decide (findI (fun x => same x h n) l ≥ 0) with
    | true => (l, last, 2)
    | false => match decide (l.length ≥ 8) || (decide (last ≥ 99999) || decide (bytesOf l h + t.size > 500)) with
      | true => (l, last, 4)
      | false => (putAt l (kOf l h n) ⟨h, n, last + 1, t⟩, last + 1, 0)
def takeC (l : Is) (last h : Int) (n : ByteArray) : Is × Int × Int := match decide (findI (fun x => same x h n) l < 0) with
  | true => (l, last, 3)
  | false => (delAt l (findI (fun x => same x h n) l).toNat, last, 0)
/-- What a put that went well leaves. -/
structure Putted (l : Is) (last h : Int) (n t : ByteArray) (T : Is × Int × Int) : Prop where
  ok : CatP T.1 (last + 1)
  lst : T.2.1 = last + 1
  len : T.1.length = l.length + 1
  k : ∃ k, k ≤ l.length ∧ T.1 = putAt l k ⟨h, n, last + 1, t⟩
  nope : ∀ k, k < l.length → same (ia l k) h n = false
  it : itemOk ⟨h, n, 0, t⟩ = true
theorem putC_good {l : Is} {last h : Int} {n t : ByteArray} (p : CatP l last) (hc : (putC l last h n t).2.2 = 0) : Putted l last h n t (putC l last h n t) := by
  unfold putC at hc ⊢
  split at hc
  · simp at hc
  · rename_i g1
    split at hc
    · simp at hc
    · rename_i g2
      split at hc
      · simp at hc
      · rename_i g3
        simp only [Bool.or_eq_false_iff, decide_eq_false_iff_not] at g3
        have g2' := of_decide_eq_false g2
        have hno := findI_neg (p := fun x => same x h n) (l := l) (by omega)
        have hk := kOf_le l h n
        refine ⟨?_, rfl, putAt_len hk, ⟨_, hk, rfl⟩, hno, g1⟩
        exact put_keeps (t := ⟨h, n, last + 1, t⟩) p g1 hno (by omega) (by omega) (by show bytesOf l h + t.size ≤ 500; omega) rfl
theorem putC_bad {l : Is} {last h : Int} {n t : ByteArray} (hc : (putC l last h n t).2.2 ≠ 0) : putC l last h n t = (l, last, (putC l last h n t).2.2) ∧ 1 ≤ (putC l last h n t).2.2 ∧ (putC l last h n t).2.2 ≤ 4 := by
  unfold putC at hc ⊢
  split
  · exact ⟨rfl, by simp⟩
  · rename_i g1
    simp only [g1] at hc
    split
    · exact ⟨rfl, by simp⟩
    · rename_i g2
      simp only [g2] at hc
      split
      · exact ⟨rfl, by simp⟩
      · rename_i g3; simp only [g3] at hc; exact absurd rfl hc
theorem putC_keeps {l : Is} {last h : Int} {n t : ByteArray} (p : CatP l last) : CatP (putC l last h n t).1 (putC l last h n t).2.1 := by
  by_cases hc : (putC l last h n t).2.2 = 0
  · have := putC_good p hc; rw [this.lst]; exact this.ok
  · have := (putC_bad hc).1; rw [this]; exact p
theorem takeC_keeps {l : Is} {last h : Int} {n : ByteArray} (p : CatP l last) : CatP (takeC l last h n).1 (takeC l last h n).2.1 := by
  unfold takeC
  split
  · exact p
  · rename_i g
    exact del_keeps p (findI_pos (by have := of_decide_eq_false g; omega)).1
end Go.Abs.C
