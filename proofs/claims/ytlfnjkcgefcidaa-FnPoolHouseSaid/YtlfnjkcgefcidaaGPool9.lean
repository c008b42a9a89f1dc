import Derived.Test.YtlfnjkcgefcidaaGPool8
set_option linter.unusedSimpArgs false
set_option linter.unusedVariables false
namespace Go.Abs.B
open Go Go.Abs Go.Proofs
attribute [local irreducible] IntKind.wrap
set_option maxHeartbeats 8000000 in
set_option maxRecDepth 100000 in
theorem implTake_ok (l : Fs) (h : Nat) (ho e b : Int) (hp : PoolOkP l h) : Good Try.prog 32 [pool l h, vint ho, vint e, vint b] [] (tookR (takeP l h ho e b)) (tookB (takeP l h ho e b)) := by
  have hlen := hp.len
  refine good_e noM Try.func32 rfl rfl ?_
  conv => whnf
  refine .mk _ _ false Try.call18 (implOk_ok l h (by omega)) (Nat.le_of_ble_eq_true rfl) (.inl rfl) ?_
  rw [poolOk_true hp]
  conv => whnf
  refine .mk _ _ false Try.call59 (take_ok l h ho e b hp) (Nat.le_of_ble_eq_true rfl) (.inl rfl) ?_
  conv => whnf
  refine ⟨⟨⟨by decide +kernel, Nat.le_of_ble_eq_true rfl⟩, trivial⟩, ?_⟩
  conv => whnf
  exact ⟨rfl, rfl⟩
noncomputable def ofP (l : Fs) (h ho : Int) : Int := match poolOk l h with
  | true => cnt ho l
  | false => 0
set_option maxHeartbeats 8000000 in
set_option maxRecDepth 100000 in
theorem implOf_ok (l : Fs) (h ho : Int) (hl : l.length < 1000) : Good Try.prog 21 [pool l h, vint ho] [] (vint (ofP l h ho)) [] := by
  refine good_e noM Try.func21 rfl rfl ?_
  conv => whnf
  refine .mk _ _ false Try.call18 (implOk_ok l h hl) (Nat.le_of_ble_eq_true rfl) (.inl rfl) ?_
  unfold ofP
  cases poolOk l h
  · conv => whnf
    refine ⟨trivial, ?_⟩
    conv => whnf
    exact ⟨rfl, rfl⟩
  · conv => whnf
    refine .mk _ _ false Try.call48 (of_ok l h ho hl) (Nat.le_of_ble_eq_true rfl) (.inl rfl) ?_
    conv => whnf
    refine ⟨trivial, ?_⟩
    conv => whnf
    exact ⟨rfl, rfl⟩
set_option maxHeartbeats 8000000 in
set_option maxRecDepth 100000 in
theorem specOf_ok (l : Fs) (h ho : Int) (hl : l.length < 1000) : Good Try.prog 20 [pool l h, vint ho] [] (vint (ofP l h ho)) [] := by
  refine good_e noM Try.func20 rfl rfl ?_
  conv => whnf
  refine .mk _ _ false Try.call16 (specOk_ok l h hl) (Nat.le_of_ble_eq_true rfl) (.inl rfl) ?_
  unfold ofP
  cases poolOk l h
  · conv => whnf
    refine ⟨trivial, ?_⟩
    conv => whnf
    exact ⟨rfl, rfl⟩
  · conv => whnf
    refine .mk _ _ false Try.call43 (l10Of_ok l h ho hl) (Nat.le_of_ble_eq_true rfl) (.inl rfl) ?_
    conv => whnf
    refine ⟨trivial, ?_⟩
    conv => whnf
    exact ⟨rfl, rfl⟩
def eased (x : RFrame) : RFrame := { x with d := x.d - 1 }
def letP (l : Fs) (f : Int) : Fs × Bool := match inR f 0 7 && !((at' l f.toNat).d == 0) with
  | true => (l.set f.toNat (eased (at' l f.toNat)), true)
  | false => (l, false)
set_option maxHeartbeats 8000000 in
set_option maxRecDepth 100000 in
theorem specLet_ok (l : Fs) (h : Nat) (f : Int) (hp : PoolOkP l h) : Good Try.prog 24 [pool l h, vint f] [] (.tup [own8 h, vbool (letP l f).2]) [.arr 5 ((letP l f).1.map encFrame)] := by
  have hlen := hp.len
  refine good_e noM Try.func24 rfl rfl ?_
  conv => whnf
  refine .mk _ _ false Try.call16 (specOk_ok l h (by omega)) (Nat.le_of_ble_eq_true rfl) (.inl rfl) ?_
  rw [poolOk_true hp]
  conv => whnf
  refine .mk _ _ false Try.call54 (l10Copy8 hlen _) (Nat.le_of_ble_eq_true rfl) (.inl rfl) ?_
  conv => whnf
  refine .mk _ _ false Try.call41 (l1In_ok _ _ _) (Nat.le_of_ble_eq_true rfl) (.inl rfl) ?_
  conv => whnf
  have no : (inR f 0 7 && !((at' l f.toNat).d == 0)) = false → letP l f = (l, false) := fun q => by unfold letP; rw [q]
  have yes : (inR f 0 7 && !((at' l f.toNat).d == 0)) = true → letP l f = (l.set f.toNat (eased (at' l f.toNat)), true) := fun q => by unfold letP; rw [q]
  generalize letP l f = T at no yes ⊢
  split
  · rename_i h1
    have h1' : (!inR f 0 7) = true := h1
    rw [Bool.not_eq_true'] at h1'
    conv => whnf
    refine ⟨⟨⟨by decide +kernel, Nat.le_of_ble_eq_true rfl⟩, trivial⟩, ?_⟩
    conv => whnf
    rw [no (by rw [h1']; rfl)]
    exact ⟨rfl, rfl⟩
  rename_i h1
  have h1' : (!inR f 0 7) = false := h1
  rw [Bool.not_eq_false'] at h1'
  have hf : 0 ≤ f ∧ f ≤ 7 := by unfold inR at h1'; simpa using h1'
  have ek : 0 + f.toNat = f.toNat := by omega
  have hd := hp.room.held f.toNat (by omega)
  conv => whnf
  refine ⟨by omega, by omega, by rw [List.length_map]; omega, ?_⟩
  conv => whnf
  refine ⟨_, getD_at l ek (by omega), ?_⟩
  conv => whnf
  split
  · rename_i h2
    have h2' : ((at' l f.toNat).d == 0) = true := h2
    conv => whnf
    refine ⟨⟨⟨by decide +kernel, Nat.le_of_ble_eq_true rfl⟩, trivial⟩, ?_⟩
    conv => whnf
    rw [no (by rw [h1', h2']; rfl)]
    exact ⟨rfl, rfl⟩
  rename_i h2
  have h2' : ((at' l f.toNat).d == 0) = false := h2
  conv => whnf
  refine VDraw.go ⟨176, [0, 1, 0, 0, 8, 0, 56, 120, 248, 504, 1023, 2047, 4095], [12], [(12, [56])]⟩ rfl rfl (by decide +kernel) ?_
  conv => whnf
  refine ⟨by omega, by omega, by rw [List.length_map]; omega, ?_⟩
  conv => whnf
  refine ⟨_, getD_at l ek (by omega), ?_⟩
  conv => whnf
  refine ⟨by omega, by omega, by rw [List.length_map]; omega, ?_⟩
  conv => whnf
  refine ⟨_, getD_at l ek (by omega), by rw [List.length_map]; omega, ?_⟩
  conv => whnf
  refine ⟨⟨⟨by decide +kernel, Nat.le_of_ble_eq_true rfl⟩, trivial⟩, ?_⟩
  conv => whnf
  rw [yes (by rw [h1', h2']; rfl)]
  refine ⟨rfl, ?_⟩
  show [Blk.arr 5 ((l.map encFrame).set _ _)] = [Blk.arr 5 ((l.set f.toNat (eased (at' l f.toNat))).map encFrame)]
  rw [ek, ← set_enc]
  congr 3
  show ([.lit (.int .i64 _), .lit (.int .i64 _), .lit (.int .i64 _), .lit (.int .i64 (IntKind.i64.wrap ((at' l f.toNat).d - 1))), .lit (.bool _)] : List PV) = _
  rw [wrap_in _ (by omega) (by omega)]
  rfl
end Go.Abs.B
