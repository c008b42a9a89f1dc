import Derived.Test.YtilogdijodgcgaaDoorGLog5
set_option linter.unusedSimpArgs false
set_option linter.unusedVariables false
namespace Go.Abs.E
open Go Go.Abs Go.Proofs Go.RowKit
attribute [local irreducible] IntKind.wrap
attribute [local irreducible] lineS hashS
set_option maxHeartbeats 16000000 in
set_option maxRecDepth 100000 in
theorem mend_law (s : ByteArray) (hs : s.size ≤ 9223372036854775807) : ∃ r out, r = vbool true ∧ Good Tryd.prog 3 [vstr s] [] r out := by
  refine good_v noM Tryd.func3 rfl rfl ?_
  conv => whnf
  split
  · conv => whnf
    refine ⟨trivial, ?_⟩
    conv => whnf
    rfl
  rename_i q
  have q' := of_decide_eq_false q
  obtain ⟨rs, at_, f⟩ := fin_ex s
  conv => whnf
  refine .mk _ _ false Tryd.call11 (specMend_ok s (by omega) rs at_ f) (Nat.le_of_ble_eq_true rfl) (.inl rfl) ?_
  conv => whnf
  refine .mk _ _ false Tryd.call12 (implMend_ok s (by omega) rs at_ f) (Nat.le_of_ble_eq_true rfl) (.inl rfl) ?_
  conv => whnf
  rw [str_t rfl]
  conv => whnf
  refine ⟨trivial, ?_⟩
  conv => whnf
  rfl
set_option maxHeartbeats 16000000 in
set_option maxRecDepth 100000 in
theorem ok_law (s : ByteArray) (hs : s.size ≤ 9223372036854775807) : ∃ r out, r = vbool true ∧ Good Tryd.prog 4 [vstr s] [] r out := by
  refine good_v noM Tryd.func4 rfl rfl ?_
  conv => whnf
  split
  · conv => whnf
    refine ⟨trivial, ?_⟩
    conv => whnf
    rfl
  rename_i q
  have q' := of_decide_eq_false q
  obtain ⟨rs, at_, f⟩ := fin_ex s
  conv => whnf
  refine .mk _ _ false Tryd.call13 (specOk_ok s (by omega) rs at_ f) (Nat.le_of_ble_eq_true rfl) (.inl rfl) ?_
  conv => whnf
  refine .mk _ _ false Tryd.call14 (implOk_ok s (by omega) rs at_ f) (Nat.le_of_ble_eq_true rfl) (.inl rfl) ?_
  conv => whnf
  rw [show (okB s at_ == okB s at_) = true by simp]
  conv => whnf
  refine ⟨trivial, ?_⟩
  conv => whnf
  rfl
set_option maxHeartbeats 16000000 in
set_option maxRecDepth 100000 in
theorem add_law (s r : ByteArray) (hs : s.size ≤ 9223372036854775807) (hr : r.size ≤ 9223372036854775807) : ∃ v out, v = vbool true ∧ Good Tryd.prog 5 [vstr s, vstr r] [] v out := by
  refine good_v noM Tryd.func5 rfl rfl ?_
  conv => whnf
  split
  · conv => whnf
    refine ⟨trivial, ?_⟩
    conv => whnf
    rfl
  rename_i q
  have q' := of_decide_eq_false q
  obtain ⟨rs, at_, f⟩ := fin_ex s
  conv => whnf
  split
  · conv => whnf
    refine ⟨trivial, ?_⟩
    conv => whnf
    rfl
  conv => whnf
  refine .mk _ _ false Tryd.call15 (specAdd_ok s (by omega) rs at_ f r) (Nat.le_of_ble_eq_true rfl) (.inl rfl) ?_
  conv => whnf
  refine .mk _ _ false Tryd.call16 (implAdd_ok s (by omega) rs at_ f r) (Nat.le_of_ble_eq_true rfl) (.inl rfl) ?_
  conv => whnf
  rw [str_t rfl]
  conv => whnf
  rw [show ((addO s rs.length at_ r).isSome == (addO s rs.length at_ r).isSome) = true by simp]
  conv => whnf
  refine ⟨trivial, ?_⟩
  conv => whnf
  rfl
end Go.Abs.E
