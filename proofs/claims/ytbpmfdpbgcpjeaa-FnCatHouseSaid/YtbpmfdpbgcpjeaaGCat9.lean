import Derived.Test.YtbpmfdpbgcpjeaaGCat8
set_option linter.unusedSimpArgs false
set_option linter.unusedVariables false
namespace Go.Abs.C
open Go Go.Abs Go.Proofs
attribute [local irreducible] IntKind.wrap
@[reducible] def noCat : AV := .agg [.p (.lit (.int .i64 0)), .p (.lit (.slice none 0 0))]
@[reducible] def badC : AV := .tup [noCat, vint 1]
set_option maxHeartbeats 16000000 in
set_option maxRecDepth 100000 in
theorem implPut_bad (l : Is) (last h : Int) (n t : ByteArray) (hl : l.length < 1100000) (hs : ∀ x ∈ l, x.b.size ≤ 9223372036854775807) (hp : catOk l last = false) : Good Try.prog 31 [cat l last, vint h, vstr n, vstr t] [] badC [] := by
  refine good_e sM Try.func31 rfl rfl ?_
  conv => whnf
  refine .mk _ _ false Try.call16 (implOk_ok l last hl hs) (Nat.le_of_ble_eq_true rfl) (.inl rfl) ?_
  rw [hp]
  conv => whnf
  refine ⟨⟨⟨by decide +kernel, Nat.le_of_ble_eq_true rfl⟩, trivial⟩, ?_⟩
  conv => whnf
  exact ⟨rfl, rfl⟩
set_option maxHeartbeats 16000000 in
set_option maxRecDepth 100000 in
theorem implPut_ok (l : Is) (last h : Int) (n t : ByteArray) (hs : ∀ x ∈ l, x.b.size ≤ 9223372036854775807) (hn : n.size ≤ 9223372036854775807) (p : CatP l last) : Good Try.prog 31 [cat l last, vint h, vstr n, vstr t] [] (putR (putC l last h n t)) (putB (putC l last h n t)) := by
  have hl8 := p.len
  refine good_e sM Try.func31 rfl rfl ?_
  conv => whnf
  refine .mk _ _ false Try.call16 (implOk_ok l last (by omega) hs) (Nat.le_of_ble_eq_true rfl) (.inl rfl) ?_
  rw [catOk_true p]
  conv => whnf
  refine .mk _ _ false Try.call60 (put_ok l last h n t p hn) (Nat.le_of_ble_eq_true rfl) (.inl rfl) ?_
  conv => whnf
  refine ⟨⟨⟨by decide +kernel, Nat.le_of_ble_eq_true rfl⟩, trivial⟩, ?_⟩
  conv => whnf
  exact ⟨rfl, rfl⟩
set_option maxHeartbeats 16000000 in
set_option maxRecDepth 100000 in
theorem specPut_bad (l : Is) (last h : Int) (n t : ByteArray) (hl : l.length < 1100000) (hs : ∀ x ∈ l, x.b.size ≤ 9223372036854775807) (hp : catOk l last = false) : Good Try.prog 32 [cat l last, vint h, vstr n, vstr t] [] badC [] := by
  refine good_e sM Try.func32 rfl rfl ?_
  conv => whnf
  refine .mk _ _ false Try.call14 (specOk_ok l last hl hs) (Nat.le_of_ble_eq_true rfl) (.inl rfl) ?_
  rw [hp]
  conv => whnf
  refine ⟨⟨⟨by decide +kernel, Nat.le_of_ble_eq_true rfl⟩, trivial⟩, ?_⟩
  conv => whnf
  exact ⟨rfl, rfl⟩
set_option maxHeartbeats 16000000 in
set_option maxRecDepth 100000 in
theorem specPut_ok (l : Is) (last h : Int) (n t : ByteArray) (hs : ∀ x ∈ l, x.b.size ≤ 9223372036854775807) (hn : n.size ≤ 9223372036854775807) (p : CatP l last) : Good Try.prog 32 [cat l last, vint h, vstr n, vstr t] [] (putR (putC l last h n t)) (putB (putC l last h n t)) := by
  have hl8 := p.len
  have hlast := inR_iff.1 p.lst
  have hm : (l.map encItem).length = l.length := by rw [List.length_map]
  refine good_e sM Try.func32 rfl rfl ?_
  conv => whnf
  refine .mk _ _ false Try.call14 (specOk_ok l last (by omega) hs) (Nat.le_of_ble_eq_true rfl) (.inl rfl) ?_
  rw [catOk_true p]
  conv => whnf
  refine .mk _ _ false Try.call37 (l9Ok_ok ⟨h, n, 0, t⟩ hn) (Nat.le_of_ble_eq_true rfl) (.inl rfl) ?_
  conv => whnf
  generalize hT : putC l last h n t = T
  unfold putC at hT
  cases h1 : itemOk ⟨h, n, 0, t⟩ with
  | false =>
    rw [h1] at hT
    simp only at hT
    subst hT
    conv => whnf
    refine .mk _ _ false Try.call53 (l9Copy_ok l last (by omega)) (Nat.le_of_ble_eq_true rfl) (.inl rfl) ?_
    conv => whnf
    refine ⟨⟨⟨by decide +kernel, Nat.le_of_ble_eq_true rfl⟩, trivial⟩, ?_⟩
    conv => whnf
    exact ⟨rfl, rfl⟩
  | true =>
    rw [h1] at hT
    simp only at hT
    have ht300 : t.size ≤ 300 := by
      unfold itemOk at h1
      simp only [Bool.and_eq_true] at h1
      have := (inR_iff.1 h1.2.2).2
      omega
    conv => whnf
    refine .mk _ _ false Try.call48 (l9At_ok l last h n (by omega)) (Nat.le_of_ble_eq_true rfl) (.inl rfl) ?_
    conv => whnf
    split
    · rename_i h2
      rw [h2] at hT
      try simp only at hT
      subst hT
      conv => whnf
      refine .mk _ _ false Try.call53 (l9Copy_ok l last (by omega)) (Nat.le_of_ble_eq_true rfl) (.inl rfl) ?_
      conv => whnf
      refine ⟨⟨⟨by decide +kernel, Nat.le_of_ble_eq_true rfl⟩, trivial⟩, ?_⟩
      conv => whnf
      exact ⟨rfl, rfl⟩
    · rename_i h2
      rw [h2] at hT
      try simp only at hT
      have hbo : bytesOf l h ≤ 8 * 300 := Nat.le_trans (bytesOf_le h 300 l p.small) (Nat.mul_le_mul_right _ hl8)
      conv => whnf
      split
      · rename_i h3
        have h3 := of_decide_eq_true h3
        rw [decide_eq_true (p := l.length ≥ 8) (by omega)] at hT
        simp only [Bool.true_or] at hT
        subst hT
        conv => whnf
        refine .mk _ _ false Try.call53 (l9Copy_ok l last (by omega)) (Nat.le_of_ble_eq_true rfl) (.inl rfl) ?_
        conv => whnf
        refine ⟨⟨⟨by decide +kernel, Nat.le_of_ble_eq_true rfl⟩, trivial⟩, ?_⟩
        conv => whnf
        exact ⟨rfl, rfl⟩
      · rename_i h3
        have h3 := of_decide_eq_false h3
        rw [decide_eq_false (p := l.length ≥ 8) (by omega)] at hT
        simp only [Bool.false_or] at hT
        conv => whnf
        split
        · rename_i h4
          rw [h4] at hT
          simp only [Bool.true_or] at hT
          subst hT
          conv => whnf
          refine .mk _ _ false Try.call53 (l9Copy_ok l last (by omega)) (Nat.le_of_ble_eq_true rfl) (.inl rfl) ?_
          conv => whnf
          refine ⟨⟨⟨by decide +kernel, Nat.le_of_ble_eq_true rfl⟩, trivial⟩, ?_⟩
          conv => whnf
          exact ⟨rfl, rfl⟩
        · rename_i h4
          rw [h4] at hT
          simp only [Bool.false_or] at hT
          conv => whnf
          refine .mk _ _ false Try.call39 (l9Bytes_ok l h (by omega) (fun x hx => Nat.le_trans (p.small x hx) (by decide))) (Nat.le_of_ble_eq_true rfl) (.inl rfl) ?_
          conv => whnf
          have hwb : IntKind.i64.wrap ((bytesOf l h : Int) + (t.size : Int)) = bytesOf l h + t.size := wi _ (by omega) (by omega)
          split
          · rename_i h5
            have h5' := of_decide_eq_true h5
            rw [hwb] at h5'
            rw [decide_eq_true (p := bytesOf l h + t.size > 500) (by omega)] at hT
            simp only at hT
            subst hT
            conv => whnf
            refine .mk _ _ false Try.call53 (l9Copy_ok l last (by omega)) (Nat.le_of_ble_eq_true rfl) (.inl rfl) ?_
            conv => whnf
            refine ⟨⟨⟨by decide +kernel, Nat.le_of_ble_eq_true rfl⟩, trivial⟩, ?_⟩
            conv => whnf
            exact ⟨rfl, rfl⟩
          · rename_i h5
            have h5' := of_decide_eq_false h5
            rw [hwb] at h5'
            rw [decide_eq_false (p := bytesOf l h + t.size > 500) (by omega)] at hT
            simp only at hT
            subst hT
            conv => whnf
            refine .mk _ _ false Try.call61 (l9Put_ok l last ⟨h, n, 0, t⟩ p) (Nat.le_of_ble_eq_true rfl) (.inl rfl) ?_
            conv => whnf
            refine ⟨⟨⟨by decide +kernel, Nat.le_of_ble_eq_true rfl⟩, trivial⟩, ?_⟩
            conv => whnf
            exact ⟨rfl, rfl⟩
end Go.Abs.C
