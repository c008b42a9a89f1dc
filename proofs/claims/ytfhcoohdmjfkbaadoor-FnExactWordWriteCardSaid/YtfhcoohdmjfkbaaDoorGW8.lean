import Derived.Test.YtfhcoohdmjfkbaaDoorGW7
set_option linter.unusedSimpArgs false
set_option linter.unusedVariables false
namespace Go.Abs.D
open Go Go.Abs Go.Proofs
attribute [local irreducible] IntKind.wrap
theorem wb (x : Int) (h1 : -9223372036854775808 ≤ x) (h2 : x ≤ 9223372036854775807) : IntKind.i64.wrap x = x := wrap_in _ h1 h2
set_option maxHeartbeats 16000000 in
set_option maxRecDepth 100000 in
theorem szWord_ex (w : RWord) (hf : w.f.size ≤ 9223372036854775807) (hg : w.g.size ≤ 9223372036854775807) : ∃ r out, (∃ v, r = vint v ∧ out = []) ∧ Good Tryd.prog 8 [word w, vint 1048576] [] r out := by
  refine good_v noM Tryd.func8 rfl rfl ?_
  conv => whnf
  split
  · conv => whnf
    refine ⟨trivial, ?_⟩
    conv => whnf
    exact ⟨_, rfl, rfl⟩
  · conv => whnf
    split
    · conv => whnf
      refine ⟨trivial, ?_⟩
      conv => whnf
      exact ⟨_, rfl, rfl⟩
    · conv => whnf
      refine ⟨trivial, ?_⟩
      conv => whnf
      exact ⟨_, rfl, rfl⟩
set_option maxHeartbeats 16000000 in
set_option maxRecDepth 100000 in
theorem toWord_ok (w : RWord) : Good Tryd.prog 10 [word w] [] (word w) [] := by
  refine good_e noM Tryd.func10 rfl rfl ?_
  conv => whnf
  refine ⟨⟨⟨by decide +kernel, Nat.le_of_ble_eq_true rfl⟩, trivial⟩, ?_⟩
  conv => whnf
  exact ⟨rfl, rfl⟩
set_option maxHeartbeats 16000000 in
set_option maxRecDepth 100000 in
theorem exactWrite_law (w : RWord) (hf : w.f.size ≤ 9223372036854775807) (hg : w.g.size ≤ 9223372036854775807) : ∃ r out, r = vbool true ∧ Good Tryd.prog 3 [word w] [] r out := by
  refine good_v noM Tryd.func3 rfl rfl ?_
  conv => whnf
  obtain ⟨_, _, ⟨v, rfl, rfl⟩, hs⟩ := szWord_ex w hf hg
  refine .mk _ _ false Tryd.call8 hs (Nat.le_of_ble_eq_true rfl) (.inl rfl) ?_
  conv => whnf
  split
  · conv => whnf
    refine ⟨trivial, ?_⟩
    conv => whnf
    rfl
  conv => whnf
  refine .mk _ _ false Tryd.call10 (toWord_ok w) (Nat.le_of_ble_eq_true rfl) (.inl rfl) ?_
  conv => whnf
  refine .mk _ _ false Tryd.call9 (specWrite_ok w hf) (Nat.le_of_ble_eq_true rfl) (.inl rfl) ?_
  conv => whnf
  refine .mk _ _ false Tryd.call10 (toWord_ok w) (Nat.le_of_ble_eq_true rfl) (.inl rfl) ?_
  conv => whnf
  refine .mk _ _ false Tryd.call11 (implWrite_ok w hf) (Nat.le_of_ble_eq_true rfl) (.inl rfl) ?_
  conv => whnf
  split
  · rename_i q; simp at q
  conv => whnf
  refine ⟨trivial, ?_⟩
  conv => whnf
  rfl
theorem fnExactWordWrite_good (w : RWord) (ok : (Lit.int .i64 w.a).wf = true ∧ ((Lit.int .i64 w.b).wf = true ∧ ((Lit.int .i64 w.c).wf = true ∧ ((Lit.int .i64 w.d).wf = true ∧ ((Lit.int .i64 w.e).wf = true ∧ (w.f.size ≤ 9223372036854775807 ∧ w.g.size ≤ 9223372036854775807)))))) :
    ∃ r out, r = vbool true ∧ Good Tryd.prog 3 [word w] [] r out := exactWrite_law w ok.2.2.2.2.2.1 ok.2.2.2.2.2.2
end Go.Abs.D
