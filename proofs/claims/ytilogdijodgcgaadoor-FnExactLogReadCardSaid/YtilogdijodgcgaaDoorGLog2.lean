import Derived.Test.YtilogdijodgcgaaDoorGLog1
set_option linter.unusedSimpArgs false
set_option linter.unusedVariables false
namespace Go.Abs.E
open Go Go.Abs Go.Proofs Go.RowKit
attribute [local irreducible] IntKind.wrap
attribute [local irreducible] lineS hashS
def lineL (n : Nat) (r : ByteArray) : List UInt8 := (lineS n r).data.toList
theorem lineL_len (n : Nat) (r : ByteArray) : (lineL n r).length = (dn n).length + (dn r.size).length + r.size + 20 := by unfold lineL; rw [szl, lineS_size]
/-- The log has at a byte the line of a record of a number. -/
structure IsRec (log : ByteArray) (at_ n : Nat) (r : ByteArray) : Prop where
  pos : 1 ≤ r.size
  max : r.size ≤ 500
  pre : ∃ t, log.data.toList.drop at_ = lineL n r ++ t
theorem sum_len (n : Nat) (r : ByteArray) : (sum16 n r).data.toList.length = 16 := by rw [szl, sum16_size]
section
variable {log : ByteArray} {at_ n : Nat} {r : ByteArray}
theorem IsRec.eq (h : IsRec log at_ n r) : ∃ t, log.data.toList.drop at_ = dn n ++ 32 :: (dn r.size ++ 32 :: ((sum16 n r).data.toList ++ 32 :: (r.data.toList ++ 10 :: t))) := by
  obtain ⟨t, e⟩ := h.pre
  refine ⟨t, ?_⟩
  rw [e]
  unfold lineL
  rw [lineS_list]
  simp
theorem IsRec.fits (h : IsRec log at_ n r) : at_ + (lineS n r).size ≤ log.size := by
  obtain ⟨t, e⟩ := h.pre
  have := congrArg List.length e
  rw [List.length_drop, szl, List.length_append] at this
  have h2 : (lineL n r).length = (lineS n r).size := szl _
  have h3 := lineL_len n r
  omega
theorem IsRec.idx1 (h : IsRec log at_ n r) : idx 32 (log.data.toList.drop at_) = some (dn n).length := by
  obtain ⟨t, e⟩ := h.eq
  rw [e]; exact idx_append (dn_no n)
theorem IsRec.take1 (h : IsRec log at_ n r) : (log.data.toList.drop at_).take (dn n).length = dn n := by
  obtain ⟨t, e⟩ := h.eq
  rw [e, List.take_left' rfl]
theorem IsRec.drop1 (h : IsRec log at_ n r) : ∃ t, (log.data.toList.drop at_).drop ((dn n).length + 1) = dn r.size ++ 32 :: ((sum16 n r).data.toList ++ 32 :: (r.data.toList ++ 10 :: t)) := by
  obtain ⟨t, e⟩ := h.eq
  refine ⟨t, ?_⟩
  rw [e, List.drop_append]; simp
theorem IsRec.idx2 (h : IsRec log at_ n r) : idx 32 ((log.data.toList.drop at_).drop ((dn n).length + 1)) = some (dn r.size).length := by
  obtain ⟨t, e⟩ := h.drop1
  rw [e]; exact idx_append (dn_no _)
theorem IsRec.take2 (h : IsRec log at_ n r) : ((log.data.toList.drop at_).drop ((dn n).length + 1)).take (dn r.size).length = dn r.size := by
  obtain ⟨t, e⟩ := h.drop1
  rw [e, List.take_left' rfl]
theorem IsRec.body (h : IsRec log at_ n r) : ((log.data.toList.drop (at_ + ((dn n).length + 1 + (dn r.size).length + 18))).take r.size) = r.data.toList := by
  obtain ⟨t, e⟩ := h.eq
  rw [← List.drop_drop, e]
  have e2 : dn n ++ 32 :: (dn r.size ++ 32 :: ((sum16 n r).data.toList ++ 32 :: (r.data.toList ++ 10 :: t))) = (dn n ++ 32 :: (dn r.size ++ 32 :: ((sum16 n r).data.toList ++ [32]))) ++ (r.data.toList ++ 10 :: t) := by simp
  have hl : (dn n).length + 1 + (dn r.size).length + 18 = (dn n ++ 32 :: (dn r.size ++ 32 :: ((sum16 n r).data.toList ++ [32]))).length := by
    have := sum_len n r
    simp only [List.length_append, List.length_cons, List.length_nil]; omega
  rw [e2, hl, List.drop_left' rfl, ← szl r, List.take_left' rfl]
theorem IsRec.bodyS (h : IsRec log at_ n r) : log.extract (at_ + ((dn n).length + 1 + (dn r.size).length + 18)) (at_ + ((dn n).length + 1 + (dn r.size).length + 18) + r.size) = r := by
  rw [extract_eq, Nat.add_sub_cancel_left, h.body, mkS_of]
theorem IsRec.uniq (h : IsRec log at_ n r) {r' : ByteArray} (h' : IsRec log at_ n r') : r = r' := by
  have h1 := h.take2; have h2 := h'.take2
  have i1 := h.idx2; have i2 := h'.idx2
  rw [i1] at i2
  rw [← Option.some.inj i2, h1] at h2
  have hm : r.size = r'.size := by
    have a1 := h.max; have a2 := h'.max
    have n1 := numS_dn (n := r.size) (by omega); have n2 := numS_dn (n := r'.size) (by omega)
    rw [h2, n2] at n1
    omega
  have b1 := h.bodyS; have b2 := h'.bodyS
  rw [← b1, ← b2, hm]
theorem IsRec.line (h : IsRec log at_ n r) : log.extract at_ (at_ + (lineS n r).size) = lineS n r := by
  obtain ⟨t, e⟩ := h.pre
  rw [extract_eq, Nat.add_sub_cancel_left, e]
  have : (lineS n r).size = (lineL n r).length := (szl _).symm
  rw [this, List.take_left' rfl]
  unfold lineL
  exact mkS_of _
end
theorem isRec_of {log : ByteArray} {at_ n : Nat} {r : ByteArray} (h1 : 1 ≤ r.size) (h2 : r.size ≤ 500) (h : ∃ t, (mkS (log.data.toList.drop at_)).data.toList = (lineS n r).data.toList ++ t) : IsRec log at_ n r := ⟨h1, h2, h⟩
/-- Records one behind the other, from the log's beginning to a byte. -/
inductive Chain (log : ByteArray) : List ByteArray → Nat → Prop
  | nil : Chain log [] 0
  | snoc {rs : List ByteArray} {at_ : Nat} {r : ByteArray} (h : Chain log rs at_) (hr : IsRec log at_ rs.length r) : Chain log (rs ++ [r]) (at_ + (lineS rs.length r).size)
section
variable {log : ByteArray}
theorem Chain.le {rs : List ByteArray} {at_ : Nat} (h : Chain log rs at_) : at_ ≤ log.size ∧ 23 * rs.length ≤ at_ := by
  induction h with
  | nil => exact ⟨Nat.zero_le _, Nat.le_refl _⟩
  | snoc h hr ih =>
    have h1 := hr.fits
    have h2 := lineS_size _ _ ▸ h1
    have h3 := hr.pos
    rename_i rs at_ r
    have h4 := lineS_size rs.length r
    have h5 : 1 ≤ (dn rs.length).length := by
      have : (dn rs.length).length ≠ 0 := fun q => (decDigits_plain _).1.ne (List.length_eq_zero_iff.1 q)
      omega
    have h6 : 1 ≤ (dn r.size).length := by
      have : (dn r.size).length ≠ 0 := fun q => (decDigits_plain _).1.ne (List.length_eq_zero_iff.1 q)
      omega
    rw [List.length_append]
    show _ ∧ 23 * (rs.length + 1) ≤ _
    omega
theorem Chain.same {rs : List ByteArray} {at_ : Nat} (h : Chain log rs at_) : ∀ {rs' : List ByteArray} {at' : Nat}, Chain log rs' at' → rs.length = rs'.length → rs = rs' ∧ at_ = at' := by
  induction h with
  | nil =>
    intro rs' at' h' e
    cases h' with
    | nil => exact ⟨rfl, rfl⟩
    | snoc h hr => simp at e
  | snoc h hr ih =>
    intro rs' at' h' e
    cases h' with
    | nil => simp at e
    | snoc h2 hr2 =>
      rename_i rs at_ r rs2 at2 r2
      simp only [List.length_append, List.length_cons, List.length_nil, Nat.add_right_cancel_iff] at e
      obtain ⟨rfl, rfl⟩ := ih h2 e
      obtain rfl := hr.uniq hr2
      exact ⟨rfl, rfl⟩
theorem Chain.take {rs : List ByteArray} {at_ : Nat} (h : Chain log rs at_) : ∀ k, k < rs.length → ∃ at' r, Chain log (rs.take k) at' ∧ rs[k]? = some r ∧ IsRec log at' k r ∧ (rs.take k).length = k := by
  induction h with
  | nil => intro k hk; simp at hk
  | snoc h hr ih =>
    intro k hk
    rename_i rs at_ r
    rw [List.length_append] at hk
    by_cases q : k < rs.length
    · obtain ⟨at', r', h1, h2, h3, h4⟩ := ih k q
      exact ⟨at', r', by rw [List.take_append_of_le_length (by omega)]; exact h1, by rw [List.getElem?_append_left q]; exact h2, h3, by rw [List.take_append_of_le_length (by omega)]; exact h4⟩
    · have : k = rs.length := by simp at hk; omega
      subst this
      exact ⟨at_, r, by rw [List.take_left' rfl]; exact h, by simp, hr, by simp⟩
/-- All records that the log has. -/
structure Fin (log : ByteArray) (rs : List ByteArray) (at_ : Nat) : Prop where
  ch : Chain log rs at_
  no : ∀ r, ¬ IsRec log at_ rs.length r
theorem fin_ex (log : ByteArray) : ∃ rs at_, Fin log rs at_ := by
  suffices h : ∀ k rs at_, Chain log rs at_ → log.size - at_ ≤ k → ∃ rs at_, Fin log rs at_ from h _ [] 0 .nil (Nat.le_refl _)
  intro k
  induction k with
  | zero =>
    intro rs at_ h hk
    refine ⟨rs, at_, h, fun r hr => ?_⟩
    have h1 := hr.fits; have h2 := lineS_size rs.length r; have h3 := h.le
    omega
  | succ k ih =>
    intro rs at_ h hk
    by_cases q : ∃ r, IsRec log at_ rs.length r
    · obtain ⟨r, hr⟩ := q
      have h1 := hr.fits; have h2 := lineS_size rs.length r
      exact ih _ _ (h.snoc hr) (by omega)
    · exact ⟨rs, at_, h, fun r hr => q ⟨r, hr⟩⟩
theorem Fin.more {rs rs0 : List ByteArray} {at_ at0 : Nat} (f : Fin log rs at_) (h : Chain log rs0 at0) (hl : rs0.length ≤ rs.length) {r : ByteArray} (hr : IsRec log at0 rs0.length r) : rs0.length + 1 ≤ rs.length := by
  by_cases q : rs0.length = rs.length
  · obtain ⟨rfl, rfl⟩ := h.same f.ch q
    exact (f.no r hr).elim
  · omega
theorem Fin.done {rs rs0 : List ByteArray} {at_ at0 : Nat} (f : Fin log rs at_) (h : Chain log rs0 at0) (hl : rs0.length ≤ rs.length) (hn : ∀ r, ¬ IsRec log at0 rs0.length r) : rs0 = rs ∧ at0 = at_ := by
  by_cases q : rs0.length = rs.length
  · exact h.same f.ch q
  · obtain ⟨at', r, h1, h2, h3, h4⟩ := f.ch.take rs0.length (by omega)
    obtain ⟨e1, rfl⟩ := h1.same h h4
    exact (hn r h3).elim
theorem Fin.uniq {rs rs' : List ByteArray} {at_ at' : Nat} (f : Fin log rs at_) (f' : Fin log rs' at') : rs = rs' ∧ at_ = at' := by
  rcases Nat.le_total rs.length rs'.length with h | h
  · exact f'.done f.ch h f.no
  · obtain ⟨h1, h2⟩ := f.done f'.ch h f'.no
    exact ⟨h1.symm, h2.symm⟩
end
end Go.Abs.E
