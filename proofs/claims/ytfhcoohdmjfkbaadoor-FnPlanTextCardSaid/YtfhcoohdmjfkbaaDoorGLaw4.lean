import Derived.Test.YtfhcoohdmjfkbaaDoorGWR2
set_option linter.unusedSimpArgs false
set_option linter.unusedVariables false
namespace Go.Abs.D
open Go Go.Abs Go.Proofs Go.RowKit
attribute [local irreducible] IntKind.wrap
set_option maxHeartbeats 16000000 in
set_option maxRecDepth 100000 in
theorem eqWord_same (w : RWord) : Good Tryd.prog 14 [word w, word w] [] (vbool true) [] := by
  have n : ∀ a : Int, (a != a) = false := fun a => by simp
  refine good_e noM Tryd.func14 rfl rfl ?_
  conv => whnf
  rw [n]
  conv => whnf
  rw [n]
  conv => whnf
  rw [n]
  conv => whnf
  rw [n]
  conv => whnf
  rw [n]
  conv => whnf
  rw [str_t rfl]
  conv => whnf
  rw [str_t rfl]
  conv => whnf
  refine ⟨trivial, ?_⟩
  conv => whnf
  exact ⟨rfl, rfl⟩
set_option maxHeartbeats 16000000 in
set_option maxRecDepth 100000 in
theorem exactRead_law (s : ByteArray) (hs : s.size ≤ 9223372036854775807) : ∃ r out, r = vbool true ∧ Good Tryd.prog 4 [vstr s] [] r out := by
  refine good_v noM Tryd.func4 rfl rfl ?_
  conv => whnf
  split
  · rename_i q
    conv => whnf
    refine ⟨trivial, ?_⟩
    conv => whnf
    rfl
  rename_i q
  have q' := of_decide_eq_false q
  obtain ⟨o, ho⟩ := reads_ex s
  conv => whnf
  refine .mk _ _ false Tryd.call12 (specRead_ok s (by omega) o ho) (Nat.le_of_ble_eq_true rfl) (.inl rfl) ?_
  conv => whnf
  refine .mk _ _ false Tryd.call13 (implRead_ok s (by omega) o ho) (Nat.le_of_ble_eq_true rfl) (.inl rfl) ?_
  conv => whnf
  refine .mk _ _ false Tryd.call14 (eqWord_same (o.getD w0)) (Nat.le_of_ble_eq_true rfl) (.inl rfl) ?_
  conv => whnf
  split
  · rename_i q; simp at q
  conv => whnf
  refine ⟨trivial, ?_⟩
  conv => whnf
  rfl
theorem fnExactWordRead_good (s : ByteArray) (ok : s.size ≤ 9223372036854775807) : ∃ r out, r = vbool true ∧ Good Tryd.prog 4 [vstr s] [] r out := exactRead_law s ok
end Go.Abs.D
