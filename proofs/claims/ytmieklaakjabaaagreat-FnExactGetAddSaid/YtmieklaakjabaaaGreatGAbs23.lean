import Derived.Test.YtmieklaakjabaaaGreatGAbs22
set_option linter.unusedSimpArgs false
set_option linter.unusedVariables false
namespace Go.Abs
/-- A table, row by row. -/
def tab {α : Type} (n : Nat) (f : Nat → α) : List α := (List.range n).map f
section
variable {α : Type} {n : Nat} {f g : Nat → α}
theorem tab_length : (tab n f).length = n := by simp [tab]
theorem tab_getD {i : Nat} (d : α) (h : i < n) : (tab n f).getD i d = f i := by
  unfold tab
  rw [List.getD_eq_getElem?_getD, List.getElem?_map, List.getElem?_range h]
  rfl
theorem tab_get? {i : Nat} : (tab n f)[i]? = if i < n then some (f i) else none := by
  unfold tab
  rw [List.getElem?_map]
  by_cases h : i < n
  · rw [List.getElem?_range h, if_pos h]; rfl
  · rw [List.getElem?_eq_none (by simp; omega), if_neg h]; rfl
theorem tab_congr (h : ∀ i, i < n → f i = g i) : tab n f = tab n g := by
  apply List.ext_getElem?
  intro i
  rw [tab_get?, tab_get?]
  split
  · rename_i hi; rw [h i hi]
  · rfl
theorem tab_of {β : Type} (l : List β) (e : β → α) (z : β) : l.map e = tab l.length fun k => e (l.getD k z) := by
  apply List.ext_getElem?
  intro i
  rw [tab_get?, List.getElem?_map]
  by_cases h : i < l.length
  · rw [if_pos h, List.getElem?_eq_getElem h, List.getD_eq_getElem?_getD, List.getElem?_eq_getElem h]; rfl
  · rw [if_neg h, List.getElem?_eq_none (by omega)]; rfl
/-- The first i rows are done, the others stand as they stood. -/
def mid (n i : Nat) (f g : Nat → α) : List α := tab n fun k => if k < i then f k else g k
theorem mid_length {i : Nat} : (mid n i f g).length = n := tab_length
theorem mid_zero : mid n 0 f g = tab n g := tab_congr fun i _ => by rw [if_neg (Nat.not_lt_zero i)]
theorem mid_all : mid n n f g = tab n f := tab_congr fun i h => by rw [if_pos h]
theorem mid_getD {i j : Nat} (d : α) (e : j = i) (h : i < n) : (mid n i f g).getD j d = g i := by
  subst e
  unfold mid
  rw [tab_getD d h, if_neg (Nat.lt_irrefl _)]
theorem mid_set {i j : Nat} {r : α} (e : j = i) (hr : r = f i) (h : i < n) : (mid n i f g).set j r = mid n (i + 1) f g := by
  subst e
  have hr' := hr; clear hr
  apply List.ext_getElem?
  intro k
  unfold mid
  rw [tab_get?]
  by_cases e : j = k
  · subst e
    rw [List.getElem?_set_self (by rw [tab_length]; exact h), if_pos h, if_pos (Nat.lt_succ_self _), hr']
  · rw [List.getElem?_set_ne e, tab_get?]
    by_cases hj : k < n
    · rw [if_pos hj, if_pos hj]
      by_cases h1 : k < j
      · rw [if_pos h1, if_pos (by omega)]
      · rw [if_neg h1, if_neg (by omega)]
    · rw [if_neg hj, if_neg hj]
end
theorem rows_len {β : Type} {l : List (List β)} {n : Nat} (h : (l.all fun e => Nat.beq e.length n) = true) : ∀ e ∈ l, e.length = n :=
  fun e he => Nat.eq_of_beq_eq_true (List.all_eq_true.1 h e he)
theorem getD_set_self {α : Type} (L : List α) (i : Nat) (r d : α) (h : i < L.length) : (L.set i r).getD i d = r := by
  rw [List.getD_eq_getElem?_getD, List.getElem?_set_self h]; rfl
end Go.Abs
