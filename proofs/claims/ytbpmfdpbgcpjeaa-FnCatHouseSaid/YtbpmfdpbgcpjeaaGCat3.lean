import Derived.Test.YtbpmfdpbgcpjeaaGCat2
set_option linter.unusedSimpArgs false
set_option linter.unusedVariables false
namespace Go.Abs.C
open Go Go.Abs Go.Proofs
attribute [local irreducible] IntKind.wrap
def cmpI (a b : Int) : Int := match decide (a < b) with | true => -1 | false => match decide (a > b) with | true => 1 | false => 0
def cmpS (a b : ByteArray) : Int := match bl a b with | true => -1 | false => match !(bl a b || (a.toList == b.toList)) with | true => 1 | false => 0
def ordI (x y : RItem) : Int := match cmpI x.a y.a != 0 with | true => cmpI x.a y.a | false => match cmpS x.b y.b != 0 with | true => cmpS x.b y.b | false => 0
theorem ordI_neg {x y : RItem} : ordI x y < 0 ↔ less x y.a y.b = true := by
  unfold ordI less
  have hS : cmpS x.b y.b < 0 ↔ bl x.b y.b = true := by
    unfold cmpS
    cases bl x.b y.b with
    | true => simp
    | false => simp only [Bool.false_or]; split <;> simp
  by_cases h1 : x.a < y.a
  · have : cmpI x.a y.a = -1 := by unfold cmpI; rw [decide_eq_true h1]
    rw [this, decide_eq_true h1]; simp
  · by_cases h2 : x.a > y.a
    · have : cmpI x.a y.a = 1 := by unfold cmpI; rw [decide_eq_false h1, decide_eq_true h2]
      have h3 : (x.a == y.a) = false := by rw [beq_eq_false_iff_ne]; omega
      rw [this, decide_eq_false h1, h3]; simp
    · have : cmpI x.a y.a = 0 := by unfold cmpI; rw [decide_eq_false h1, decide_eq_false h2]
      have h3 : (x.a == y.a) = true := by rw [beq_iff_eq]; omega
      rw [this, decide_eq_false h1, h3]
      simp only [bne_self_eq_false, Bool.false_or, Bool.true_and]
      rw [← hS]
      cases h4 : cmpS x.b y.b != 0 with
      | true => rfl
      | false => simp only [bne_eq_false_iff_eq] at h4; rw [h4]
set_option maxHeartbeats 4000000 in
set_option maxRecDepth 100000 in
theorem nanI_ok (n : Int) : Good Try.prog 78 [vint n] [] (vbool false) [] := by
  refine good_e noM Try.func78 rfl rfl ?_
  conv => whnf
  refine ⟨trivial, ?_⟩
  conv => whnf
  refine ⟨congrArg vbool ?_, rfl⟩
  exact bne_self_eq_false _
set_option maxHeartbeats 4000000 in
set_option maxRecDepth 100000 in
theorem nanS_ok (n : ByteArray) : Good Try.prog 79 [vstr n] [] (vbool false) [] := by
  refine good_e noM Try.func79 rfl rfl ?_
  conv => whnf
  refine ⟨trivial, ?_⟩
  conv => whnf
  refine ⟨congrArg vbool ?_, rfl⟩
  show (!(n.toList == n.toList)) = false
  simp
set_option maxHeartbeats 4000000 in
set_option maxRecDepth 100000 in
theorem cmpI_ok (a b : Int) : Good Try.prog 70 [vint a, vint b] [] (vint (cmpI a b)) [] := by
  refine good_e noM Try.func70 rfl rfl ?_
  conv => whnf
  refine .mk _ _ false Try.call78 (nanI_ok _) (Nat.le_of_ble_eq_true rfl) (.inl rfl) ?_
  conv => whnf
  refine .mk _ _ false Try.call78 (nanI_ok _) (Nat.le_of_ble_eq_true rfl) (.inl rfl) ?_
  conv => whnf
  unfold cmpI
  split
  · rename_i q; rw [q]
    conv => whnf
    refine ⟨trivial, ?_⟩
    conv => whnf
    exact ⟨rfl, rfl⟩
  · rename_i q; rw [q]
    conv => whnf
    split
    · rename_i q2; rw [q2]
      conv => whnf
      refine ⟨trivial, ?_⟩
      conv => whnf
      exact ⟨rfl, rfl⟩
    · rename_i q2; rw [q2]
      conv => whnf
      refine ⟨trivial, ?_⟩
      conv => whnf
      exact ⟨rfl, rfl⟩
set_option maxHeartbeats 4000000 in
set_option maxRecDepth 100000 in
theorem cmpS_ok (a b : ByteArray) : Good Try.prog 71 [vstr a, vstr b] [] (vint (cmpS a b)) [] := by
  refine good_e noM Try.func71 rfl rfl ?_
  conv => whnf
  refine .mk _ _ false Try.call79 (nanS_ok _) (Nat.le_of_ble_eq_true rfl) (.inl rfl) ?_
  conv => whnf
  refine .mk _ _ false Try.call79 (nanS_ok _) (Nat.le_of_ble_eq_true rfl) (.inl rfl) ?_
  conv => whnf
  unfold cmpS bl
  split
  · rename_i q; rw [q]
    conv => whnf
    refine ⟨trivial, ?_⟩
    conv => whnf
    exact ⟨rfl, rfl⟩
  · rename_i q; rw [q]
    conv => whnf
    split
    · rename_i q2; rw [q] at q2; rw [q2]
      conv => whnf
      refine ⟨trivial, ?_⟩
      conv => whnf
      exact ⟨rfl, rfl⟩
    · rename_i q2; rw [q] at q2; rw [q2]
      conv => whnf
      refine ⟨trivial, ?_⟩
      conv => whnf
      exact ⟨rfl, rfl⟩
set_option maxHeartbeats 4000000 in
set_option maxRecDepth 100000 in
theorem or_ok (a b : Int) : Good Try.prog 69 [.one (.p (.sl [[.lit (.int .i64 a)], [.lit (.int .i64 b)]]))] [] (vint (match a != 0 with | true => a | false => match b != 0 with | true => b | false => 0)) [] := by
  refine good_e noM Try.func69 rfl rfl ?_
  conv => whnf
  have w1 : IntKind.i64.wrap (0 + 1) = 1 := wi _ (by omega) (by omega)
  have w2 : IntKind.i64.wrap (1 + 1) = 2 := wi _ (by omega) (by omega)
  refine VLoop.step noM ?_
  conv => whnf
  refine ⟨show (0 : Int) ≤ 0 by decide, show (0 : Int) < 2 by decide, _, rfl, ?_⟩
  conv => whnf
  split
  · rename_i q; rw [q]
    conv => whnf
    refine ⟨trivial, ?_⟩
    conv => whnf
    exact ⟨rfl, rfl⟩
  · rename_i q; rw [q]
    conv => whnf
    refine VLoop.step noM ?_
    conv => whnf
    rw [w1]
    conv => whnf
    refine ⟨show (0 : Int) ≤ 1 by decide, show (1 : Int) < 2 by decide, _, rfl, ?_⟩
    conv => whnf
    split
    · rename_i q2; rw [q2]
      conv => whnf
      refine ⟨trivial, ?_⟩
      conv => whnf
      exact ⟨rfl, rfl⟩
    · rename_i q2; rw [q2]
      conv => whnf
      refine VLoop.step noM ?_
      conv => whnf
      rw [w2]
      conv => whnf
      refine ⟨trivial, ?_⟩
      conv => whnf
      exact ⟨rfl, rfl⟩
set_option maxHeartbeats 4000000 in
set_option maxRecDepth 100000 in
theorem order_ok (x y : RItem) : Good Try.prog 44 [.agg ((encItem x).map .p), .agg ((encItem y).map .p)] [] (vint (ordI x y)) [] := by
  refine good_e noM Try.func44 rfl rfl ?_
  conv => whnf
  refine VDraw.go ⟨_, [0, 1, 0, 4, 15, 0, 32, 0, 128, 511, 1023, 2047, 4095], [4, 9, 10, 11], []⟩ rfl rfl (by decide +kernel) ?_
  conv => whnf
  refine .mk _ _ false Try.call70 (cmpI_ok _ _) (Nat.le_of_ble_eq_true rfl) (.inl rfl) ?_
  conv => whnf
  refine .mk _ _ false Try.call71 (cmpS_ok _ _) (Nat.le_of_ble_eq_true rfl) (.inl rfl) ?_
  conv => whnf
  refine ⟨Nat.le_refl 2, ?_⟩
  conv => whnf
  refine .mk _ _ false Try.call69 (or_ok _ _) (Nat.le_of_ble_eq_true rfl) (.inr ⟨AV.nsB_iff rfl, fun k hk => by cases hk⟩) ?_
  conv => whnf
  refine ⟨trivial, ?_⟩
  conv => whnf
  exact ⟨rfl, rfl⟩
end Go.Abs.C
