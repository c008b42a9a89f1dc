import Derived.Test.YtlfnjkcgefcidaaGPool2
set_option linter.unusedSimpArgs false
set_option linter.unusedVariables false
namespace Go.Abs.B
open Go Go.Abs Go.Proofs
attribute [local irreducible] IntKind.wrap
set_option maxHeartbeats 4000000 in
set_option maxRecDepth 100000 in
theorem l10Ok_ok (x : RFrame) : Good Try.prog 42 [.agg ((encFrame x).map .p)] [] (vbool (frOk x)) [] := by
  refine good_e noM Try.func42 rfl rfl ?_
  conv => whnf
  split
  · rename_i h1
    conv => whnf
    refine ⟨by decide +kernel, by decide +kernel, ?_⟩
    conv => whnf
    refine ⟨trivial, ?_⟩
    conv => whnf
    exact ⟨vbool_c (frOk_zero h1).symm, rfl⟩
  rename_i h1
  have hfr := frOk_full h1
  conv => whnf
  refine .mk _ _ false Try.call41 (l1In_ok _ _ _) (Nat.le_of_ble_eq_true rfl) (.inl rfl) ?_
  conv => whnf
  split
  case h_2 h2 =>
    conv => whnf
    refine ⟨trivial, ?_⟩
    conv => whnf
    exact ⟨vbool_c (by rw [hfr, h2]; rfl), rfl⟩
  rename_i h2
  conv => whnf
  refine .mk _ _ false Try.call41 (l1In_ok _ _ _) (Nat.le_of_ble_eq_true rfl) (.inl rfl) ?_
  conv => whnf
  split
  case h_2 h3 =>
    conv => whnf
    refine ⟨trivial, ?_⟩
    conv => whnf
    exact ⟨vbool_c (by rw [hfr, h2, h3]; rfl), rfl⟩
  rename_i h3
  conv => whnf
  refine .mk _ _ false Try.call41 (l1In_ok _ _ _) (Nat.le_of_ble_eq_true rfl) (.inl rfl) ?_
  conv => whnf
  split
  case h_2 h4 =>
    conv => whnf
    refine ⟨trivial, ?_⟩
    conv => whnf
    exact ⟨vbool_c (by rw [hfr, h2, h3, h4]; rfl), rfl⟩
  rename_i h4
  conv => whnf
  refine .mk _ _ false Try.call41 (l1In_ok _ _ _) (Nat.le_of_ble_eq_true rfl) (.inl rfl) ?_
  conv => whnf
  refine ⟨trivial, ?_⟩
  conv => whnf
  exact ⟨vbool_c (by rw [hfr, h2, h3, h4]; rfl), rfl⟩
set_option maxHeartbeats 4000000 in
set_option maxRecDepth 100000 in
theorem specOk_ok (l : Fs) (hand : Int) (hl : l.length < 1000) : Good Try.prog 16 [pool l hand] [] (vbool (poolOk l hand)) [] := by
  refine good_e noM Try.func16 rfl rfl ?_
  conv => whnf
  split
  · rename_i h
    conv => whnf
    refine ⟨trivial, ?_⟩
    conv => whnf
    refine ⟨vbool_c (poolOk_false fun p => ?_).symm, rfl⟩
    have := p.len
    rw [List.length_map] at h
    rw [this] at h
    cases h
  rename_i h
  conv => whnf
  refine .mk _ _ false Try.call41 (l1In_ok _ _ _) (Nat.le_of_ble_eq_true rfl) (.inl rfl) ?_
  conv => whnf
  split
  · rename_i h2
    conv => whnf
    refine ⟨trivial, ?_⟩
    conv => whnf
    refine ⟨vbool_c (poolOk_false fun p => ?_).symm, rfl⟩
    rw [p.hand] at h2; cases h2
  rename_i h2
  have hlen : l.length = 8 := by simp at h; omega
  have hh : inR hand 0 7 = true := by simpa using h2
  clear h h2
  conv => whnf
  refine VLoop.enter [1, 3] ?_
  conv => whnf
  refine VLoop.ind1 (n0 := 1) (α := Int) noM [1, 3] (fun a => ⟨80, 0, [(1, .one (.hp 0 0 0)), (3, vint a)], [(0, some (.box [.p (.sl (l.map encFrame)), .p (.lit (.int .i64 hand))]))]⟩)
    (fun a => ∃ i : Nat, a = i ∧ i ≤ 8 ∧ ∀ k, k < i → GoodAt l k) (fun a => (8 - a).toNat) ?_ 0 ⟨0, rfl, by omega, fun k hk => absurd hk (by omega)⟩
  rintro _ ⟨i, rfl, hi, hgood⟩
  conv => whnf
  split
  · rename_i h
    conv => whnf
    simp only [List.length_map, decide_eq_true_eq] at h
    have w : ∀ x : Int, 0 ≤ x → x < 200000 → IntKind.i64.wrap x = x := fun x h1 h2 => wrap_in _ (by omega) (by omega)
    have fin : GoodAt l i → ∃ k : Nat, IntKind.i64.wrap ((i : Int) + 1) = k ∧ k ≤ 8 ∧ ∀ j, j < k → GoodAt l j := by
      intro hv
      refine ⟨i + 1, by rw [w _ (by omega) (by omega)]; simp, by omega, fun j hj => ?_⟩
      by_cases q : j = i
      · rw [q]; exact hv
      · exact hgood j (by omega)
    have hm : (8 - IntKind.i64.wrap ((i : Int) + 1)).toNat < (8 - (i : Int)).toNat := by rw [w _ (by omega) (by omega)]; omega
    have ends : (GoodAt l i → False) → vbool false = vbool (poolOk l hand) ∧ ([] : List Blk) = [] := fun q => ⟨vbool_c (poolOk_false fun p => q (p.good i (by omega))).symm, rfl⟩
    refine ⟨by omega, by simp; omega, _, getD_map encFrame l _ zFrame (by omega), ?_⟩
    conv => whnf
    refine .mk _ _ false Try.call42 (l10Ok_ok _) (Nat.le_of_ble_eq_true rfl) (.inl rfl) ?_
    conv => whnf
    split
    · rename_i h1
      conv => whnf
      refine ⟨trivial, ?_⟩
      conv => whnf
      refine ends fun q => ?_
      have h1' : (!frOk (at' l i)) = true := h1
      rw [q.fr] at h1'; cases h1'
    rename_i h1
    have hfr : frOk (at' l i) = true := by have h1' : (!frOk (at' l i)) = false := h1; simpa using h1'
    conv => whnf
    refine VLoop.enter [1, 3, 4] ?_
    conv => whnf
    refine VLoop.ind1 (n0 := 1) (α := Int) noM [1, 3, 4] (fun a => ⟨80, 0, [(1, .one (.hp 0 0 0)), (3, vint i), (4, vint a)], [(0, some (.box [.p (.sl (l.map encFrame)), .p (.lit (.int .i64 hand))]))]⟩)
      (fun a => ∃ j : Nat, a = j ∧ j ≤ i ∧ ∀ k, k < j → (at' l i).b > 0 → ¬ ((at' l i).b = (at' l k).b ∧ (at' l i).c = (at' l k).c)) (fun a => (i - a).toNat) ?_ 0 ⟨0, rfl, by omega, fun k hk => absurd hk (by omega)⟩
    rintro _ ⟨j, rfl, hj, hnew⟩
    conv => whnf
    split
    · rename_i h3
      conv => whnf
      have h3' := of_decide_eq_true h3
      have finj : ¬ ((at' l i).b > 0 ∧ (at' l i).b = (at' l j).b ∧ (at' l i).c = (at' l j).c) → ∃ k : Nat, IntKind.i64.wrap ((j : Int) + 1) = k ∧ k ≤ i ∧ ∀ m, m < k → (at' l i).b > 0 → ¬ ((at' l i).b = (at' l m).b ∧ (at' l i).c = (at' l m).c) := by
        intro hv
        refine ⟨j + 1, by rw [w _ (by omega) (by omega)]; simp, by omega, fun m hm0 hb hx => ?_⟩
        by_cases q : m = j
        · subst q; exact hv ⟨hb, hx⟩
        · exact hnew m (by omega) hb hx
      have hmj : ((i : Int) - IntKind.i64.wrap ((j : Int) + 1)).toNat < ((i : Int) - (j : Int)).toNat := by rw [w _ (by omega) (by omega)]; omega
      refine VDraw.go ⟨_, [0, 1, 0, 7, 15, 31, 63, 127, 255, 511, 255, 2047, 4095, 8191, 255, 16639, 255, 114943, 246015, 508159, 1048575, 2097151, 4194303, 8388607, 16777215, 8388607, 67108863, 134217727, 268435455, 8388607, 545259519, 8388607, 3766484991, 8061452287, 16651386879, 34359738367, 68719476735], [], []⟩ rfl rfl (by decide +kernel) ?_
      conv => whnf
      refine ⟨by omega, by simp; omega, _, getD_map encFrame l _ zFrame (by omega), ?_⟩
      conv => whnf
      split
      case h_2 h4 =>
        conv => whnf
        exact ⟨_, rfl, rfl, finj (fun q => of_decide_eq_false h4 q.1), hmj⟩
      rename_i h4
      conv => whnf
      refine ⟨by omega, by simp; omega, _, getD_map encFrame l _ zFrame (by omega), ?_⟩
      conv => whnf
      refine ⟨by omega, by simp; omega, _, getD_map encFrame l _ zFrame (by omega), ?_⟩
      conv => whnf
      split
      case h_2 h5 =>
        conv => whnf
        exact ⟨_, rfl, rfl, finj (fun q => ne_of_beq_false h5 q.2.1), hmj⟩
      rename_i h5
      conv => whnf
      refine ⟨by omega, by simp; omega, _, getD_map encFrame l _ zFrame (by omega), ?_⟩
      conv => whnf
      refine ⟨by omega, by simp; omega, _, getD_map encFrame l _ zFrame (by omega), ?_⟩
      conv => whnf
      split
      case h_2 h6 =>
        conv => whnf
        exact ⟨_, rfl, rfl, finj (fun q => ne_of_beq_false h6 q.2.2), hmj⟩
      rename_i h6
      conv => whnf
      refine ⟨trivial, ?_⟩
      conv => whnf
      refine ends fun q => ?_
      exact q.new j (by omega) (of_decide_eq_true h4) ⟨eq_of_beq h5, eq_of_beq h6⟩
    · rename_i h3
      conv => whnf
      have h3' := of_decide_eq_false h3
      obtain rfl : j = i := by omega
      exact ⟨_, rfl, rfl, fin ⟨hfr, hnew⟩, hm⟩
  · rename_i h
    simp [hlen] at h
    obtain rfl : i = 8 := by omega
    have e1 : IntKind.i64.wrap (0 + 1) = 1 := by rw [wrap_in _ (by omega) (by omega)]; rfl
    have e2 : IntKind.i64.wrap (IntKind.i64.wrap (0 + 1) + 1) = 2 := by rw [e1, wrap_in _ (by omega) (by omega)]; rfl
    conv => whnf
    refine VLoop.step noM ?_
    conv => whnf
    refine .mk _ _ false Try.call43 (l10Of_ok l hand _ (by omega)) (Nat.le_of_ble_eq_true rfl) (.inl rfl) ?_
    conv => whnf
    split
    · rename_i h1
      conv => whnf
      refine ⟨trivial, ?_⟩
      conv => whnf
      refine ⟨vbool_c (poolOk_false fun p => ?_).symm, rfl⟩
      have h1' := of_decide_eq_true h1
      have := p.c0
      omega
    rename_i h1
    conv => whnf
    refine VLoop.step noM ?_
    conv => whnf
    split
    case h_2 h2 => rw [e1] at h2; simp at h2
    conv => whnf
    refine .mk _ _ false Try.call43 (l10Of_ok l hand _ (by omega)) (Nat.le_of_ble_eq_true rfl) (.inl rfl) ?_
    conv => whnf
    split
    · rename_i h3
      conv => whnf
      refine ⟨trivial, ?_⟩
      conv => whnf
      refine ⟨vbool_c (poolOk_false fun p => ?_).symm, rfl⟩
      have h1' := of_decide_eq_true h3
      rw [e1] at h1'
      have := p.c1
      omega
    rename_i h3
    conv => whnf
    refine VLoop.step noM ?_
    conv => whnf
    split
    case h_1 h4 => rw [e2] at h4; simp at h4
    conv => whnf
    refine ⟨trivial, ?_⟩
    conv => whnf
    refine ⟨vbool_c (poolOk_true ⟨hlen, hh, hgood, ?_, ?_⟩).symm, rfl⟩
    · have := of_decide_eq_false h1; omega
    · have := of_decide_eq_false h3; rw [e1] at this; omega
end Go.Abs.B
