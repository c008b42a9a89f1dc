import Derived.Test.YtmieklaakjabaaaGreatGAbs18
set_option linter.unusedSimpArgs false
set_option linter.unusedVariables false
namespace Go.Abs
open Go Go.RowKit
variable {P : Program}
/-! ### the region's form, checked -/
def idxO : Nat → List Oper → List (Nat × Oper)
  | _, [] => []
  | i, o :: os => (i, o) :: idxO (i + 1) os
theorem idxO_mem : ∀ {os : List Oper} {i j : Nat} {o : Oper}, os[j]? = some o → (i + j, o) ∈ idxO i os
  | [], i, j, o, h => by simp at h
  | x :: xs, i, 0, o, h => by
    simp only [List.getElem?_cons_zero, Option.some.injEq] at h
    subst h
    exact List.mem_cons_self ..
  | x :: xs, i, j + 1, o, h => by
    simp only [List.getElem?_cons_succ] at h
    have := idxO_mem (i := i + 1) h
    rw [show i + (j + 1) = i + 1 + j by omega]
    exact List.mem_cons_of_mem _ this
theorem idx_mem {ops : Array Oper} {i : Nat} {o : Oper} (h : ops[i]? = some o) : (i, o) ∈ idxO 0 ops.toList := by
  have := idxO_mem (i := 0) (os := ops.toList) (j := i) (o := o) (by simpa using h)
  rwa [Nat.zero_add] at this
def orE (an : List Nat) : List Edge → Nat
  | [] => 0
  | e :: es => match Region.binds .any e with
    | true => (2 ^ e.on ||| an.getD e.on 0) ||| orE an es
    | false => orE an es
theorem orE_bit {an : List Nat} {j : Nat} : ∀ {es : List Edge}, (orE an es).testBit j = true → ∃ e ∈ es, Region.binds .any e = true ∧ (e.on = j ∨ (an.getD e.on 0).testBit j = true)
  | [], h => by simp [orE] at h
  | e :: es, h => by
    simp only [orE] at h
    split at h
    · rename_i hb
      simp only [Nat.testBit_or, Bool.or_eq_true, Nat.testBit_two_pow, decide_eq_true_eq] at h
      rcases h with (h | h) | h
      · exact ⟨e, List.mem_cons_self .., hb, .inl h⟩
      · exact ⟨e, List.mem_cons_self .., hb, .inr h⟩
      · obtain ⟨e', h1, h2⟩ := orE_bit h
        exact ⟨e', List.mem_cons_of_mem _ h1, h2⟩
    · obtain ⟨e', h1, h2⟩ := orE_bit h
      exact ⟨e', List.mem_cons_of_mem _ h1, h2⟩
def pairB (R : Reg) (i : Nat) (o : Oper) (j : Nat) (o' : Oper) : Bool := match inc R.an i j with
  | false => true
  | true => (match o'.dst with
    | none => true
    | some d => !(sees o).contains d && !(o.dst == some d)) &&
    (!(R.loud.contains i && R.loud.contains j) || ((R.W' i).all fun b => !R.mayW j b) && (R.W' j).all fun b => !R.mayW i b)
def oneB (R : Reg) (i : Nat) (o : Oper) : Bool := Nat.blt (R.an.getD i 0) (2 ^ i) && Nat.beq (R.an.getD i 0) (orE R.an o.after.toList) && o.after.toList.all fun e => !Region.binds .any e || Nat.blt e.on i
def regB (ops : Array Oper) (R : Reg) : Bool := (idxO 0 ops.toList).all fun (i, o) => oneB R i o && (idxO 0 ops.toList).all fun (j, o') => pairB R i o j o'
theorem regB_good {ops : Array Oper} {R : Reg} (h : regB ops R = true) : R.Good ops := by
  have key : ∀ i o, ops[i]? = some o → oneB R i o = true ∧ ∀ j o', ops[j]? = some o' → pairB R i o j o' = true := by
    intro i o ho
    have := List.all_eq_true.1 h (i, o) (idx_mem ho)
    simp only [Bool.and_eq_true] at this
    exact ⟨this.1, fun j o' ho' => List.all_eq_true.1 this.2 (j, o') (idx_mem ho')⟩
  have one : ∀ i o, ops[i]? = some o → R.an.getD i 0 < 2 ^ i ∧ R.an.getD i 0 = orE R.an o.after.toList ∧ ∀ e ∈ o.after, Region.binds .any e = true → e.on < i := by
    intro i o ho
    have := (key i o ho).1
    unfold oneB at this
    simp only [Bool.and_eq_true, Nat.blt_eq, Nat.beq_eq, List.all_eq_true, Bool.or_eq_true, Bool.not_eq_true'] at this
    exact ⟨this.1.1, this.1.2, fun e he hb => (this.2 e (by simpa using he)).resolve_left (by rw [hb]; simp)⟩
  refine ⟨?_, ?_, ?_, ?_, ?_, ?_⟩
  · intro i hi j hj
    have := (one i _ (Array.getElem?_eq_getElem hi)).1
    rcases Nat.lt_or_ge j i with h' | h'
    · exact h'
    · have h2 : R.an.getD i 0 < 2 ^ j := Nat.lt_of_lt_of_le this (Nat.pow_le_pow_right (by omega) h')
      rw [Nat.testBit_lt_two_pow h2] at hj
      cases hj
  · intro i o ho j hj
    rw [(one i o ho).2.1] at hj
    obtain ⟨e, h1, h2⟩ := orE_bit hj
    exact ⟨e, by simpa using h1, h2⟩
  · intro i o ho e he hb
    exact (one i o ho).2.2 e he hb
  · intro i j o o' ho ho' hinc d hd
    have := (key i o ho).2 j o' ho'
    unfold pairB at this
    simp only [hinc, hd, Bool.and_eq_true, Bool.not_eq_true'] at this
    intro hm
    rw [List.contains_iff_mem.2 hm] at this
    cases this.1.1
  · intro i j o o' ho ho' hinc d hd
    have := (key i o ho).2 j o' ho'
    unfold pairB at this
    intro hd'
    simp only [hinc, hd', hd, Bool.and_eq_true, Bool.not_eq_true', beq_self_eq_true] at this
    cases this.1.2
  · intro i j hi hj hinc b hb
    have := (key i _ (Array.getElem?_eq_getElem hi)).2 j _ (Array.getElem?_eq_getElem hj)
    unfold pairB at this
    simp only [hinc, Bool.and_eq_true] at this
    have h2 := this.2
    cases hq : R.mayW j b with
    | false => rfl
    | true =>
      exfalso
      have hl1 : R.loud.contains i = true := by unfold Reg.mayW at hb; simp only [Bool.and_eq_true] at hb; exact hb.1
      have hl2 : R.loud.contains j = true := by unfold Reg.mayW at hq; simp only [Bool.and_eq_true] at hq; exact hq.1
      rw [hl1, hl2] at h2
      simp only [Bool.and_self, Bool.not_true, Bool.false_or, Bool.and_eq_true, List.all_eq_true, Bool.not_eq_true'] at h2
      by_cases q1 : (R.W' i).contains b = true
      · have := h2.1 b (List.contains_iff_mem.1 q1)
        rw [hq] at this; cases this
      · by_cases q2 : (R.W' j).contains b = true
        · have := h2.2 b (List.contains_iff_mem.1 q2)
          rw [hb] at this; cases this
        · unfold Reg.mayW at hb hq
          rw [Bool.eq_false_iff.2 q1] at hb
          rw [Bool.eq_false_iff.2 q2] at hq
          simp only [Bool.and_eq_true, Bool.false_or] at hb hq
          unfold slotB at hb hq
          simp only [Bool.and_eq_true, Nat.blt_eq, Nat.ble_eq] at hb hq
          have : i = j := by omega
          unfold inc at hinc
          simp [this] at hinc
end Go.Abs
