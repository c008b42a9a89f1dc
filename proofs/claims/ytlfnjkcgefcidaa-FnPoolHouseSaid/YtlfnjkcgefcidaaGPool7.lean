import Derived.Test.YtlfnjkcgefcidaaGPool6
set_option linter.unusedSimpArgs false
set_option linter.unusedVariables false
namespace Go.Abs.B
open Go Go.Abs Go.Proofs
attribute [local irreducible] IntKind.wrap
def takeP (l : Fs) (h : Nat) (ho e b : Int) : Fs × Nat × Int × Int := match inR ho 0 1 && inR e 1 99999 && inR b 0 23 with
  | false => (l, h, 0, 3)
  | true => takeS l h ho e b
theorem PoolOkP.room {l : Fs} {h : Int} (p : PoolOkP l h) : Room l := by
  refine ⟨p.len, fun k hk => ?_⟩
  have := (p.good k hk).fr
  cases hb : (at' l k).b == 0 with
  | true =>
    rw [frOk_zero hb] at this
    unfold zeroB at this
    simp only [Bool.and_eq_true, beq_iff_eq] at this
    omega
  | false =>
    rw [frOk_full hb] at this
    unfold inR at this
    simp only [Bool.and_eq_true, decide_eq_true_eq] at this
    omega
theorem PoolOkP.hand8 {l : Fs} {h : Nat} (p : PoolOkP l h) : h < 8 := by
  have := p.hand
  unfold inR at this
  simp only [Bool.and_eq_true, decide_eq_true_eq] at this
  omega
@[reducible] def badR : AV := .tup [.agg [.p (.lit (.slice none 0 0)), .p (.lit (.int .i64 0))], vint 0, vint 3]
set_option maxHeartbeats 8000000 in
set_option maxRecDepth 100000 in
theorem specTake_bad (l : Fs) (h ho e b : Int) (hl : l.length < 1000) (hp : poolOk l h = false) : Good Try.prog 34 [pool l h, vint ho, vint e, vint b] [] badR [] := by
  refine good_e noM Try.func34 rfl rfl ?_
  conv => whnf
  refine .mk _ _ false Try.call16 (specOk_ok l h hl) (Nat.le_of_ble_eq_true rfl) (.inl rfl) ?_
  rw [hp]
  conv => whnf
  refine ⟨⟨⟨by decide +kernel, Nat.le_of_ble_eq_true rfl⟩, trivial⟩, ?_⟩
  conv => whnf
  exact ⟨rfl, rfl⟩
set_option maxHeartbeats 8000000 in
set_option maxRecDepth 100000 in
theorem implTake_bad (l : Fs) (h ho e b : Int) (hl : l.length < 1000) (hp : poolOk l h = false) : Good Try.prog 32 [pool l h, vint ho, vint e, vint b] [] badR [] := by
  refine good_e noM Try.func32 rfl rfl ?_
  conv => whnf
  refine .mk _ _ false Try.call18 (implOk_ok l h hl) (Nat.le_of_ble_eq_true rfl) (.inl rfl) ?_
  rw [hp]
  conv => whnf
  refine ⟨⟨⟨by decide +kernel, Nat.le_of_ble_eq_true rfl⟩, trivial⟩, ?_⟩
  conv => whnf
  exact ⟨rfl, rfl⟩
set_option maxHeartbeats 8000000 in
set_option maxRecDepth 100000 in
theorem specTake_ok (l : Fs) (h : Nat) (ho e b : Int) (hp : PoolOkP l h) : Good Try.prog 34 [pool l h, vint ho, vint e, vint b] [] (tookR (takeP l h ho e b)) (tookB (takeP l h ho e b)) := by
  have hlen := hp.len
  refine good_e noM Try.func34 rfl rfl ?_
  conv => whnf
  refine .mk _ _ false Try.call16 (specOk_ok l h (by omega)) (Nat.le_of_ble_eq_true rfl) (.inl rfl) ?_
  rw [poolOk_true hp]
  conv => whnf
  refine .mk _ _ false Try.call41 (l1In_ok _ _ _) (Nat.le_of_ble_eq_true rfl) (.inl rfl) ?_
  conv => whnf
  have bad : (inR ho 0 1 && inR e 1 99999 && inR b 0 23) = false → takeP l h ho e b = (l, h, 0, 3) := fun q => by unfold takeP; rw [q]
  have good : (inR ho 0 1 && inR e 1 99999 && inR b 0 23) = true → takeP l h ho e b = takeS l h ho e b := fun q => by unfold takeP; rw [q]
  generalize takeP l h ho e b = T at bad good ⊢
  split
  · rename_i h1
    have h1' : (!inR ho 0 1) = true := h1
    conv => whnf
    refine .mk _ _ false Try.call54 (l10Copy8 hlen _) (Nat.le_of_ble_eq_true rfl) (.inl rfl) ?_
    conv => whnf
    refine ⟨⟨⟨by decide +kernel, Nat.le_of_ble_eq_true rfl⟩, trivial⟩, ?_⟩
    conv => whnf
    rw [bad (by rw [Bool.not_eq_true'] at h1'; rw [h1']; rfl)]
    exact ⟨rfl, rfl⟩
  rename_i h1
  have h1' : (!inR ho 0 1) = false := h1
  rw [Bool.not_eq_false'] at h1'
  conv => whnf
  refine .mk _ _ false Try.call41 (l1In_ok _ _ _) (Nat.le_of_ble_eq_true rfl) (.inl rfl) ?_
  conv => whnf
  split
  · rename_i h2
    have h2' : (!inR e 1 99999) = true := h2
    conv => whnf
    refine .mk _ _ false Try.call54 (l10Copy8 hlen _) (Nat.le_of_ble_eq_true rfl) (.inl rfl) ?_
    conv => whnf
    refine ⟨⟨⟨by decide +kernel, Nat.le_of_ble_eq_true rfl⟩, trivial⟩, ?_⟩
    conv => whnf
    rw [bad (by rw [Bool.not_eq_true'] at h2'; rw [h1', h2']; rfl)]
    exact ⟨rfl, rfl⟩
  rename_i h2
  have h2' : (!inR e 1 99999) = false := h2
  rw [Bool.not_eq_false'] at h2'
  conv => whnf
  refine .mk _ _ false Try.call41 (l1In_ok _ _ _) (Nat.le_of_ble_eq_true rfl) (.inl rfl) ?_
  conv => whnf
  split
  · rename_i h3
    have h3' : (!inR b 0 23) = true := h3
    conv => whnf
    refine .mk _ _ false Try.call54 (l10Copy8 hlen _) (Nat.le_of_ble_eq_true rfl) (.inl rfl) ?_
    conv => whnf
    refine ⟨⟨⟨by decide +kernel, Nat.le_of_ble_eq_true rfl⟩, trivial⟩, ?_⟩
    conv => whnf
    rw [bad (by rw [Bool.not_eq_true'] at h3'; rw [h1', h2', h3']; rfl)]
    exact ⟨rfl, rfl⟩
  rename_i h3
  have h3' : (!inR b 0 23) = false := h3
  rw [Bool.not_eq_false'] at h3'
  conv => whnf
  refine .mk _ _ false Try.call60 (l10Take_ok l h ho e b hp.room hp.hand8) (Nat.le_of_ble_eq_true rfl) (.inl rfl) ?_
  conv => whnf
  refine ⟨⟨⟨by decide +kernel, Nat.le_of_ble_eq_true rfl⟩, trivial⟩, ?_⟩
  conv => whnf
  rw [good (by rw [h1', h2', h3']; rfl)]
  exact ⟨rfl, rfl⟩
end Go.Abs.B
