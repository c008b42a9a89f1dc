import Derived.Test.YtlfnjkcgefcidaaGAbs23
import Derived.Test.YtlfnjkcgefcidaaProg
set_option linter.unusedSimpArgs false
set_option linter.unusedVariables false
namespace Go.Abs.B
open Go Go.Abs Go.Proofs
attribute [local irreducible] IntKind.wrap
def mM : FuncId → Bool := fun f => [26, 38, 55, 67, 68, 69, 82].contains f
structure RFrame where
  a : Int
  b : Int
  c : Int
  d : Int
  e : Bool
def encFrame (x : RFrame) : List PV := [.lit (.int .i64 x.a), .lit (.int .i64 x.b), .lit (.int .i64 x.c), .lit (.int .i64 x.d), .lit (.bool x.e)]
def zFrame : RFrame := ⟨0, 0, 0, 0, false⟩
def mrowFrame (n : Int) : RFrame := ⟨n, n + 1, n + 2, n + 3, (n + 4).tmod 3 == 0⟩
set_option maxHeartbeats 8000000 in
set_option maxRecDepth 100000 in
theorem eqFrame_ok (x : RFrame) : Good Try.prog 74 [.agg ((encFrame x).map .p), .agg ((encFrame x).map .p)] [] (vbool true) [] := by
  refine good_e noM Try.func74 rfl rfl ?_
  conv => whnf
  split
  · rename_i h; simp at h
  conv => whnf
  split
  · rename_i h; simp at h
  conv => whnf
  split
  · rename_i h; simp at h
  conv => whnf
  split
  · rename_i h; simp at h
  conv => whnf
  split
  · rename_i h; simp at h
  conv => whnf
  refine ⟨trivial, ?_⟩
  conv => whnf
  exact ⟨rfl, rfl⟩
set_option maxHeartbeats 8000000 in
set_option maxRecDepth 100000 in
theorem eqFrameS_ok (l : List RFrame) (hl : l.length ≤ 9223372036854775807) : Good Try.prog 49 [.one (.p (.sl (l.map encFrame))), .one (.p (.sl (l.map encFrame)))] [] (vbool true) [] := by
  refine good_e noM Try.func49 rfl rfl ?_
  conv => whnf
  split
  · rename_i h; simp at h
  conv => whnf
  refine VLoop.enter [0, 1, 5] ?_
  conv => whnf
  refine VLoop.ind1 (n0 := 0) (α := Int) noM [0, 1, 5] (fun a => ⟨27, 0, [(0, .one (.p (.sl (l.map encFrame)))), (1, .one (.p (.sl (l.map encFrame)))), (5, vint a)], []⟩)
    (fun a => ∃ i : Nat, a = i ∧ i ≤ l.length) (fun a => (l.length - a).toNat) ?_ 0 ⟨0, rfl, by omega⟩
  rintro _ ⟨i, rfl, hi⟩
  conv => whnf
  split
  · rename_i h
    conv => whnf
    simp only [List.length_map, decide_eq_true_eq] at h
    refine VDraw.go ⟨_, [0, 0, 3, 7, 0, 0, 48, 112, 255, 511], [8], []⟩ rfl rfl (by decide +kernel) ?_
    conv => whnf
    refine ⟨by omega, by simp; omega, _, getD_map encFrame l _ zFrame (by omega), ?_⟩
    conv => whnf
    refine ⟨by omega, by simp; omega, _, getD_map encFrame l _ zFrame (by omega), ?_⟩
    conv => whnf
    refine .mk _ _ false Try.call74 (eqFrame_ok _) (Nat.le_of_ble_eq_true rfl) (.inl rfl) ?_
    conv => whnf
    refine ⟨_, rfl, rfl, ⟨i + 1, ?_, by omega⟩, ?_⟩
    · rw [wrap_in _ (by omega) (by omega)]; simp
    · show (_ - IntKind.i64.wrap _).toNat < _
      rw [wrap_in _ (by omega) (by omega)]; omega
  · conv => whnf
    refine ⟨trivial, ?_⟩
    conv => whnf
    exact ⟨rfl, rfl⟩
set_option maxHeartbeats 8000000 in
set_option maxRecDepth 100000 in
theorem markFrameS_ok (l : List RFrame) (n : Int) (hl : l.length < 1000) (h0 : 0 ≤ n) (h1 : n < 100000) : Good Try.prog 55 [.one (.hs 0 0 l.length), vint n] [.arr 5 (l.map encFrame)] (vint (n + 5 * l.length)) [.arr 5 (tab l.length fun k => encFrame (mrowFrame (n + 5 * k)))] := by
  refine good_e mM Try.func55 rfl rfl ?_
  conv => whnf
  refine VLoop.enter [0, 1, 5] ?_
  conv => whnf
  refine VLoop.ind3 (n0 := 1) (α := Int) (β := Int) (γ := List (List PV)) mM [0, 1, 5] (fun a b L => ⟨50, 1, [(0, .one (.hs 0 0 l.length)), (1, vint b), (5, vint a)], [(0, some (.arr 5 L))]⟩)
    (fun a b L => ∃ i : Nat, a = i ∧ i ≤ l.length ∧ b = n + 5 * i ∧ L = mid l.length i (fun k => encFrame (mrowFrame (n + 5 * k))) (fun k => encFrame (l.getD k zFrame))) (fun a _ _ => (l.length - a).toNat) ?_ 0 n _ ⟨0, rfl, by omega, by simp, by rw [mid_zero]; exact tab_of l encFrame zFrame⟩
  rintro _ _ _ ⟨i, rfl, hi, rfl, rfl⟩
  conv => whnf
  split
  · rename_i h
    conv => whnf
    simp only [decide_eq_true_eq] at h
    have e0 : 0 + (i : Int).toNat = i := by simp
    have w : ∀ x : Int, 0 ≤ x → x < 200000 → IntKind.i64.wrap x = x := fun x h1 h2 => wrap_in _ (by omega) (by omega)
    refine ⟨by omega, by omega, by simp [mid_length], ?_⟩
    conv => whnf
    refine ⟨_, mid_getD [] e0 (by omega), by simp [mid_length]; omega, ?_⟩
    conv => whnf
    refine ⟨by omega, by omega, by simp [mid_length], ?_⟩
    conv => whnf
    refine ⟨_, getD_set_self _ _ _ _ (by simp [mid_length]; omega), by simp [mid_length]; omega, ?_⟩
    conv => whnf
    refine ⟨by omega, by omega, by simp [mid_length], ?_⟩
    conv => whnf
    refine ⟨_, getD_set_self _ _ _ _ (by simp [mid_length]; omega), by simp [mid_length]; omega, ?_⟩
    conv => whnf
    refine ⟨by omega, by omega, by simp [mid_length], ?_⟩
    conv => whnf
    refine ⟨_, getD_set_self _ _ _ _ (by simp [mid_length]; omega), by simp [mid_length]; omega, ?_⟩
    conv => whnf
    refine ⟨by omega, by omega, by simp [mid_length], ?_⟩
    conv => whnf
    refine ⟨_, getD_set_self _ _ _ _ (by simp [mid_length]; omega), by simp [mid_length]; omega, ?_⟩
    conv => whnf
    refine ⟨_, _, _, rfl, rfl, ⟨i + 1, ?_, by omega, ?_, ?_⟩, ?_⟩
    · rw [w _ (by omega) (by omega)]; simp
    · simp (disch := omega) only [w]; omega
    · simp only [List.set_set]
      refine mid_set e0 ?_ (by omega)
      show ([.lit (.int .i64 (n + 5 * i)), .lit (.int .i64 _), .lit (.int .i64 _), .lit (.int .i64 _), .lit (.bool _)] : List PV) = _
      simp (disch := omega) only [w]
      simp only [encFrame, mrowFrame, Int.add_assoc]
      rfl
    · show (_ - IntKind.i64.wrap _).toNat < _
      rw [w _ (by omega) (by omega)]; omega
  · conv => whnf
    rename_i h
    simp at h
    obtain rfl : i = l.length := by omega
    refine ⟨trivial, ?_⟩
    conv => whnf
    exact ⟨rfl, by rw [mid_all]; rfl⟩
set_option maxHeartbeats 8000000 in
set_option maxRecDepth 100000 in
theorem heldFrameS_ok (len : Nat) (n : Int) (hl : len < 1000) (h0 : 0 ≤ n) (h1 : n < 100000) : Good Try.prog 56 [.one (.p (.sl (tab len fun k => encFrame (mrowFrame (n + 5 * k))))), vint n] [] (vint (n + 5 * len)) [] := by
  refine good_e noM Try.func56 rfl rfl ?_
  conv => whnf
  refine VLoop.enter [0, 1, 5] ?_
  conv => whnf
  refine VLoop.ind2 (n0 := 0) (α := Int) (β := Int) noM [0, 1, 5] (fun a b => ⟨60, 0, [(0, .one (.p (.sl (tab len fun k => encFrame (mrowFrame (n + 5 * k)))))), (1, vint b), (5, vint a)], []⟩)
    (fun a b => ∃ i : Nat, a = i ∧ i ≤ len ∧ b = n + 5 * i) (fun a _ => (len - a).toNat) ?_ 0 n ⟨0, rfl, by omega, by simp⟩
  rintro _ _ ⟨i, rfl, hi, rfl⟩
  conv => whnf
  split
  · rename_i h
    simp [tab_length] at h
    have w : ∀ x : Int, 0 ≤ x → x < 200000 → IntKind.i64.wrap x = x := fun x h1 h2 => wrap_in _ (by omega) (by omega)
    conv => whnf
    refine ⟨by omega, by simp [tab_length]; omega, _, tab_getD [] (by simp; omega), ?_⟩
    conv => whnf
    split
    · rename_i h; exfalso; simp (disch := omega) [w, mrowFrame, Int.add_assoc] at h <;> omega
    conv => whnf
    refine ⟨by omega, by simp [tab_length]; omega, _, tab_getD [] (by simp; omega), ?_⟩
    conv => whnf
    split
    · rename_i h; exfalso; simp (disch := omega) [w, mrowFrame, Int.add_assoc] at h <;> omega
    conv => whnf
    refine ⟨by omega, by simp [tab_length]; omega, _, tab_getD [] (by simp; omega), ?_⟩
    conv => whnf
    split
    · rename_i h; exfalso; simp (disch := omega) [w, mrowFrame, Int.add_assoc] at h <;> omega
    conv => whnf
    refine ⟨by omega, by simp [tab_length]; omega, _, tab_getD [] (by simp; omega), ?_⟩
    conv => whnf
    split
    · rename_i h; exfalso; simp (disch := omega) [w, mrowFrame, Int.add_assoc] at h <;> omega
    conv => whnf
    refine ⟨by omega, by simp [tab_length]; omega, _, tab_getD [] (by simp; omega), ?_⟩
    conv => whnf
    split
    · rename_i h; exfalso; simp (disch := omega) [w, mrowFrame, Int.add_assoc] at h <;> omega
    conv => whnf
    refine ⟨_, _, rfl, rfl, ⟨i + 1, ?_, by omega, ?_⟩, ?_⟩
    · rw [w _ (by omega) (by omega)]; simp
    · simp (disch := omega) only [w]; omega
    · show (_ - IntKind.i64.wrap _).toNat < _
      rw [w _ (by omega) (by omega)]; omega
  · rename_i h
    simp [tab_length] at h
    conv => whnf
    obtain rfl : i = len := by omega
    refine ⟨trivial, ?_⟩
    conv => whnf
    exact ⟨rfl, rfl⟩

structure RBucket where
  a : Int
  b : Int
  c : Int
  d : Int
def encBucket (x : RBucket) : List PV := [.lit (.int .i64 x.a), .lit (.int .i64 x.b), .lit (.int .i64 x.c), .lit (.int .i64 x.d)]
def zBucket : RBucket := ⟨0, 0, 0, 0⟩
def mrowBucket (n : Int) : RBucket := ⟨n, n + 1, n + 2, n + 3⟩
set_option maxHeartbeats 8000000 in
set_option maxRecDepth 100000 in
theorem eqBucket_ok (x : RBucket) : Good Try.prog 80 [.agg ((encBucket x).map .p), .agg ((encBucket x).map .p)] [] (vbool true) [] := by
  refine good_e noM Try.func80 rfl rfl ?_
  conv => whnf
  split
  · rename_i h; simp at h
  conv => whnf
  split
  · rename_i h; simp at h
  conv => whnf
  split
  · rename_i h; simp at h
  conv => whnf
  split
  · rename_i h; simp at h
  conv => whnf
  refine ⟨trivial, ?_⟩
  conv => whnf
  exact ⟨rfl, rfl⟩
set_option maxHeartbeats 8000000 in
set_option maxRecDepth 100000 in
theorem eqBucketS_ok (l : List RBucket) (hl : l.length ≤ 9223372036854775807) : Good Try.prog 65 [.one (.p (.sl (l.map encBucket))), .one (.p (.sl (l.map encBucket)))] [] (vbool true) [] := by
  refine good_e noM Try.func65 rfl rfl ?_
  conv => whnf
  split
  · rename_i h; simp at h
  conv => whnf
  refine VLoop.enter [0, 1, 5] ?_
  conv => whnf
  refine VLoop.ind1 (n0 := 0) (α := Int) noM [0, 1, 5] (fun a => ⟨27, 0, [(0, .one (.p (.sl (l.map encBucket)))), (1, .one (.p (.sl (l.map encBucket)))), (5, vint a)], []⟩)
    (fun a => ∃ i : Nat, a = i ∧ i ≤ l.length) (fun a => (l.length - a).toNat) ?_ 0 ⟨0, rfl, by omega⟩
  rintro _ ⟨i, rfl, hi⟩
  conv => whnf
  split
  · rename_i h
    conv => whnf
    simp only [List.length_map, decide_eq_true_eq] at h
    refine VDraw.go ⟨_, [0, 0, 3, 7, 0, 0, 48, 112, 255, 511], [8], []⟩ rfl rfl (by decide +kernel) ?_
    conv => whnf
    refine ⟨by omega, by simp; omega, _, getD_map encBucket l _ zBucket (by omega), ?_⟩
    conv => whnf
    refine ⟨by omega, by simp; omega, _, getD_map encBucket l _ zBucket (by omega), ?_⟩
    conv => whnf
    refine .mk _ _ false Try.call80 (eqBucket_ok _) (Nat.le_of_ble_eq_true rfl) (.inl rfl) ?_
    conv => whnf
    refine ⟨_, rfl, rfl, ⟨i + 1, ?_, by omega⟩, ?_⟩
    · rw [wrap_in _ (by omega) (by omega)]; simp
    · show (_ - IntKind.i64.wrap _).toNat < _
      rw [wrap_in _ (by omega) (by omega)]; omega
  · conv => whnf
    refine ⟨trivial, ?_⟩
    conv => whnf
    exact ⟨rfl, rfl⟩
set_option maxHeartbeats 8000000 in
set_option maxRecDepth 100000 in
theorem markBucketS_ok (l : List RBucket) (n : Int) (hl : l.length < 1000) (h0 : 0 ≤ n) (h1 : n < 100000) : Good Try.prog 68 [.one (.hs 0 0 l.length), vint n] [.arr 4 (l.map encBucket)] (vint (n + 4 * l.length)) [.arr 4 (tab l.length fun k => encBucket (mrowBucket (n + 4 * k)))] := by
  refine good_e mM Try.func68 rfl rfl ?_
  conv => whnf
  refine VLoop.enter [0, 1, 5] ?_
  conv => whnf
  refine VLoop.ind3 (n0 := 1) (α := Int) (β := Int) (γ := List (List PV)) mM [0, 1, 5] (fun a b L => ⟨41, 1, [(0, .one (.hs 0 0 l.length)), (1, vint b), (5, vint a)], [(0, some (.arr 4 L))]⟩)
    (fun a b L => ∃ i : Nat, a = i ∧ i ≤ l.length ∧ b = n + 4 * i ∧ L = mid l.length i (fun k => encBucket (mrowBucket (n + 4 * k))) (fun k => encBucket (l.getD k zBucket))) (fun a _ _ => (l.length - a).toNat) ?_ 0 n _ ⟨0, rfl, by omega, by simp, by rw [mid_zero]; exact tab_of l encBucket zBucket⟩
  rintro _ _ _ ⟨i, rfl, hi, rfl, rfl⟩
  conv => whnf
  split
  · rename_i h
    conv => whnf
    simp only [decide_eq_true_eq] at h
    have e0 : 0 + (i : Int).toNat = i := by simp
    have w : ∀ x : Int, 0 ≤ x → x < 200000 → IntKind.i64.wrap x = x := fun x h1 h2 => wrap_in _ (by omega) (by omega)
    refine ⟨by omega, by omega, by simp [mid_length], ?_⟩
    conv => whnf
    refine ⟨_, mid_getD [] e0 (by omega), by simp [mid_length]; omega, ?_⟩
    conv => whnf
    refine ⟨by omega, by omega, by simp [mid_length], ?_⟩
    conv => whnf
    refine ⟨_, getD_set_self _ _ _ _ (by simp [mid_length]; omega), by simp [mid_length]; omega, ?_⟩
    conv => whnf
    refine ⟨by omega, by omega, by simp [mid_length], ?_⟩
    conv => whnf
    refine ⟨_, getD_set_self _ _ _ _ (by simp [mid_length]; omega), by simp [mid_length]; omega, ?_⟩
    conv => whnf
    refine ⟨by omega, by omega, by simp [mid_length], ?_⟩
    conv => whnf
    refine ⟨_, getD_set_self _ _ _ _ (by simp [mid_length]; omega), by simp [mid_length]; omega, ?_⟩
    conv => whnf
    refine ⟨_, _, _, rfl, rfl, ⟨i + 1, ?_, by omega, ?_, ?_⟩, ?_⟩
    · rw [w _ (by omega) (by omega)]; simp
    · simp (disch := omega) only [w]; omega
    · simp only [List.set_set]
      refine mid_set e0 ?_ (by omega)
      show ([.lit (.int .i64 (n + 4 * i)), .lit (.int .i64 _), .lit (.int .i64 _), .lit (.int .i64 _)] : List PV) = _
      simp (disch := omega) only [w]
      simp only [encBucket, mrowBucket, Int.add_assoc]
      rfl
    · show (_ - IntKind.i64.wrap _).toNat < _
      rw [w _ (by omega) (by omega)]; omega
  · conv => whnf
    rename_i h
    simp at h
    obtain rfl : i = l.length := by omega
    refine ⟨trivial, ?_⟩
    conv => whnf
    exact ⟨rfl, by rw [mid_all]; rfl⟩
set_option maxHeartbeats 8000000 in
set_option maxRecDepth 100000 in
theorem heldBucketS_ok (len : Nat) (n : Int) (hl : len < 1000) (h0 : 0 ≤ n) (h1 : n < 100000) : Good Try.prog 71 [.one (.p (.sl (tab len fun k => encBucket (mrowBucket (n + 4 * k))))), vint n] [] (vint (n + 4 * len)) [] := by
  refine good_e noM Try.func71 rfl rfl ?_
  conv => whnf
  refine VLoop.enter [0, 1, 5] ?_
  conv => whnf
  refine VLoop.ind2 (n0 := 0) (α := Int) (β := Int) noM [0, 1, 5] (fun a b => ⟨49, 0, [(0, .one (.p (.sl (tab len fun k => encBucket (mrowBucket (n + 4 * k)))))), (1, vint b), (5, vint a)], []⟩)
    (fun a b => ∃ i : Nat, a = i ∧ i ≤ len ∧ b = n + 4 * i) (fun a _ => (len - a).toNat) ?_ 0 n ⟨0, rfl, by omega, by simp⟩
  rintro _ _ ⟨i, rfl, hi, rfl⟩
  conv => whnf
  split
  · rename_i h
    simp [tab_length] at h
    have w : ∀ x : Int, 0 ≤ x → x < 200000 → IntKind.i64.wrap x = x := fun x h1 h2 => wrap_in _ (by omega) (by omega)
    conv => whnf
    refine ⟨by omega, by simp [tab_length]; omega, _, tab_getD [] (by simp; omega), ?_⟩
    conv => whnf
    split
    · rename_i h; exfalso; simp (disch := omega) [w, mrowBucket, Int.add_assoc] at h <;> omega
    conv => whnf
    refine ⟨by omega, by simp [tab_length]; omega, _, tab_getD [] (by simp; omega), ?_⟩
    conv => whnf
    split
    · rename_i h; exfalso; simp (disch := omega) [w, mrowBucket, Int.add_assoc] at h <;> omega
    conv => whnf
    refine ⟨by omega, by simp [tab_length]; omega, _, tab_getD [] (by simp; omega), ?_⟩
    conv => whnf
    split
    · rename_i h; exfalso; simp (disch := omega) [w, mrowBucket, Int.add_assoc] at h <;> omega
    conv => whnf
    refine ⟨by omega, by simp [tab_length]; omega, _, tab_getD [] (by simp; omega), ?_⟩
    conv => whnf
    split
    · rename_i h; exfalso; simp (disch := omega) [w, mrowBucket, Int.add_assoc] at h <;> omega
    conv => whnf
    refine ⟨_, _, rfl, rfl, ⟨i + 1, ?_, by omega, ?_⟩, ?_⟩
    · rw [w _ (by omega) (by omega)]; simp
    · simp (disch := omega) only [w]; omega
    · show (_ - IntKind.i64.wrap _).toNat < _
      rw [w _ (by omega) (by omega)]; omega
  · rename_i h
    simp [tab_length] at h
    conv => whnf
    obtain rfl : i = len := by omega
    refine ⟨trivial, ?_⟩
    conv => whnf
    exact ⟨rfl, rfl⟩

structure RServe where
  a : Int
  b : Int
  c : Int
  d : Int
  e : Int
  f : Int
def encServe (x : RServe) : List PV := [.lit (.int .i64 x.a), .lit (.int .i64 x.b), .lit (.int .i64 x.c), .lit (.int .i64 x.d), .lit (.int .i64 x.e), .lit (.int .i64 x.f)]
def zServe : RServe := ⟨0, 0, 0, 0, 0, 0⟩
def mrowServe (n : Int) : RServe := ⟨n, n + 1, n + 2, n + 3, n + 4, n + 5⟩
set_option maxHeartbeats 8000000 in
set_option maxRecDepth 100000 in
theorem eqServe_ok (x : RServe) : Good Try.prog 81 [.agg ((encServe x).map .p), .agg ((encServe x).map .p)] [] (vbool true) [] := by
  refine good_e noM Try.func81 rfl rfl ?_
  conv => whnf
  split
  · rename_i h; simp at h
  conv => whnf
  split
  · rename_i h; simp at h
  conv => whnf
  split
  · rename_i h; simp at h
  conv => whnf
  split
  · rename_i h; simp at h
  conv => whnf
  split
  · rename_i h; simp at h
  conv => whnf
  split
  · rename_i h; simp at h
  conv => whnf
  refine ⟨trivial, ?_⟩
  conv => whnf
  exact ⟨rfl, rfl⟩
set_option maxHeartbeats 8000000 in
set_option maxRecDepth 100000 in
theorem eqServeS_ok (l : List RServe) (hl : l.length ≤ 9223372036854775807) : Good Try.prog 66 [.one (.p (.sl (l.map encServe))), .one (.p (.sl (l.map encServe)))] [] (vbool true) [] := by
  refine good_e noM Try.func66 rfl rfl ?_
  conv => whnf
  split
  · rename_i h; simp at h
  conv => whnf
  refine VLoop.enter [0, 1, 5] ?_
  conv => whnf
  refine VLoop.ind1 (n0 := 0) (α := Int) noM [0, 1, 5] (fun a => ⟨27, 0, [(0, .one (.p (.sl (l.map encServe)))), (1, .one (.p (.sl (l.map encServe)))), (5, vint a)], []⟩)
    (fun a => ∃ i : Nat, a = i ∧ i ≤ l.length) (fun a => (l.length - a).toNat) ?_ 0 ⟨0, rfl, by omega⟩
  rintro _ ⟨i, rfl, hi⟩
  conv => whnf
  split
  · rename_i h
    conv => whnf
    simp only [List.length_map, decide_eq_true_eq] at h
    refine VDraw.go ⟨_, [0, 0, 3, 7, 0, 0, 48, 112, 255, 511], [8], []⟩ rfl rfl (by decide +kernel) ?_
    conv => whnf
    refine ⟨by omega, by simp; omega, _, getD_map encServe l _ zServe (by omega), ?_⟩
    conv => whnf
    refine ⟨by omega, by simp; omega, _, getD_map encServe l _ zServe (by omega), ?_⟩
    conv => whnf
    refine .mk _ _ false Try.call81 (eqServe_ok _) (Nat.le_of_ble_eq_true rfl) (.inl rfl) ?_
    conv => whnf
    refine ⟨_, rfl, rfl, ⟨i + 1, ?_, by omega⟩, ?_⟩
    · rw [wrap_in _ (by omega) (by omega)]; simp
    · show (_ - IntKind.i64.wrap _).toNat < _
      rw [wrap_in _ (by omega) (by omega)]; omega
  · conv => whnf
    refine ⟨trivial, ?_⟩
    conv => whnf
    exact ⟨rfl, rfl⟩
set_option maxHeartbeats 8000000 in
set_option maxRecDepth 100000 in
theorem markServeS_ok (l : List RServe) (n : Int) (hl : l.length < 1000) (h0 : 0 ≤ n) (h1 : n < 100000) : Good Try.prog 69 [.one (.hs 0 0 l.length), vint n] [.arr 6 (l.map encServe)] (vint (n + 6 * l.length)) [.arr 6 (tab l.length fun k => encServe (mrowServe (n + 6 * k)))] := by
  refine good_e mM Try.func69 rfl rfl ?_
  conv => whnf
  refine VLoop.enter [0, 1, 5] ?_
  conv => whnf
  refine VLoop.ind3 (n0 := 1) (α := Int) (β := Int) (γ := List (List PV)) mM [0, 1, 5] (fun a b L => ⟨55, 1, [(0, .one (.hs 0 0 l.length)), (1, vint b), (5, vint a)], [(0, some (.arr 6 L))]⟩)
    (fun a b L => ∃ i : Nat, a = i ∧ i ≤ l.length ∧ b = n + 6 * i ∧ L = mid l.length i (fun k => encServe (mrowServe (n + 6 * k))) (fun k => encServe (l.getD k zServe))) (fun a _ _ => (l.length - a).toNat) ?_ 0 n _ ⟨0, rfl, by omega, by simp, by rw [mid_zero]; exact tab_of l encServe zServe⟩
  rintro _ _ _ ⟨i, rfl, hi, rfl, rfl⟩
  conv => whnf
  split
  · rename_i h
    conv => whnf
    simp only [decide_eq_true_eq] at h
    have e0 : 0 + (i : Int).toNat = i := by simp
    have w : ∀ x : Int, 0 ≤ x → x < 200000 → IntKind.i64.wrap x = x := fun x h1 h2 => wrap_in _ (by omega) (by omega)
    refine ⟨by omega, by omega, by simp [mid_length], ?_⟩
    conv => whnf
    refine ⟨_, mid_getD [] e0 (by omega), by simp [mid_length]; omega, ?_⟩
    conv => whnf
    refine ⟨by omega, by omega, by simp [mid_length], ?_⟩
    conv => whnf
    refine ⟨_, getD_set_self _ _ _ _ (by simp [mid_length]; omega), by simp [mid_length]; omega, ?_⟩
    conv => whnf
    refine ⟨by omega, by omega, by simp [mid_length], ?_⟩
    conv => whnf
    refine ⟨_, getD_set_self _ _ _ _ (by simp [mid_length]; omega), by simp [mid_length]; omega, ?_⟩
    conv => whnf
    refine ⟨by omega, by omega, by simp [mid_length], ?_⟩
    conv => whnf
    refine ⟨_, getD_set_self _ _ _ _ (by simp [mid_length]; omega), by simp [mid_length]; omega, ?_⟩
    conv => whnf
    refine ⟨by omega, by omega, by simp [mid_length], ?_⟩
    conv => whnf
    refine ⟨_, getD_set_self _ _ _ _ (by simp [mid_length]; omega), by simp [mid_length]; omega, ?_⟩
    conv => whnf
    refine ⟨by omega, by omega, by simp [mid_length], ?_⟩
    conv => whnf
    refine ⟨_, getD_set_self _ _ _ _ (by simp [mid_length]; omega), by simp [mid_length]; omega, ?_⟩
    conv => whnf
    refine ⟨_, _, _, rfl, rfl, ⟨i + 1, ?_, by omega, ?_, ?_⟩, ?_⟩
    · rw [w _ (by omega) (by omega)]; simp
    · simp (disch := omega) only [w]; omega
    · simp only [List.set_set]
      refine mid_set e0 ?_ (by omega)
      show ([.lit (.int .i64 (n + 6 * i)), .lit (.int .i64 _), .lit (.int .i64 _), .lit (.int .i64 _), .lit (.int .i64 _), .lit (.int .i64 _)] : List PV) = _
      simp (disch := omega) only [w]
      simp only [encServe, mrowServe, Int.add_assoc]
      rfl
    · show (_ - IntKind.i64.wrap _).toNat < _
      rw [w _ (by omega) (by omega)]; omega
  · conv => whnf
    rename_i h
    simp at h
    obtain rfl : i = l.length := by omega
    refine ⟨trivial, ?_⟩
    conv => whnf
    exact ⟨rfl, by rw [mid_all]; rfl⟩
set_option maxHeartbeats 8000000 in
set_option maxRecDepth 100000 in
theorem heldServeS_ok (len : Nat) (n : Int) (hl : len < 1000) (h0 : 0 ≤ n) (h1 : n < 100000) : Good Try.prog 72 [.one (.p (.sl (tab len fun k => encServe (mrowServe (n + 6 * k))))), vint n] [] (vint (n + 6 * len)) [] := by
  refine good_e noM Try.func72 rfl rfl ?_
  conv => whnf
  refine VLoop.enter [0, 1, 5] ?_
  conv => whnf
  refine VLoop.ind2 (n0 := 0) (α := Int) (β := Int) noM [0, 1, 5] (fun a b => ⟨67, 0, [(0, .one (.p (.sl (tab len fun k => encServe (mrowServe (n + 6 * k)))))), (1, vint b), (5, vint a)], []⟩)
    (fun a b => ∃ i : Nat, a = i ∧ i ≤ len ∧ b = n + 6 * i) (fun a _ => (len - a).toNat) ?_ 0 n ⟨0, rfl, by omega, by simp⟩
  rintro _ _ ⟨i, rfl, hi, rfl⟩
  conv => whnf
  split
  · rename_i h
    simp [tab_length] at h
    have w : ∀ x : Int, 0 ≤ x → x < 200000 → IntKind.i64.wrap x = x := fun x h1 h2 => wrap_in _ (by omega) (by omega)
    conv => whnf
    refine ⟨by omega, by simp [tab_length]; omega, _, tab_getD [] (by simp; omega), ?_⟩
    conv => whnf
    split
    · rename_i h; exfalso; simp (disch := omega) [w, mrowServe, Int.add_assoc] at h <;> omega
    conv => whnf
    refine ⟨by omega, by simp [tab_length]; omega, _, tab_getD [] (by simp; omega), ?_⟩
    conv => whnf
    split
    · rename_i h; exfalso; simp (disch := omega) [w, mrowServe, Int.add_assoc] at h <;> omega
    conv => whnf
    refine ⟨by omega, by simp [tab_length]; omega, _, tab_getD [] (by simp; omega), ?_⟩
    conv => whnf
    split
    · rename_i h; exfalso; simp (disch := omega) [w, mrowServe, Int.add_assoc] at h <;> omega
    conv => whnf
    refine ⟨by omega, by simp [tab_length]; omega, _, tab_getD [] (by simp; omega), ?_⟩
    conv => whnf
    split
    · rename_i h; exfalso; simp (disch := omega) [w, mrowServe, Int.add_assoc] at h <;> omega
    conv => whnf
    refine ⟨by omega, by simp [tab_length]; omega, _, tab_getD [] (by simp; omega), ?_⟩
    conv => whnf
    split
    · rename_i h; exfalso; simp (disch := omega) [w, mrowServe, Int.add_assoc] at h <;> omega
    conv => whnf
    refine ⟨by omega, by simp [tab_length]; omega, _, tab_getD [] (by simp; omega), ?_⟩
    conv => whnf
    split
    · rename_i h; exfalso; simp (disch := omega) [w, mrowServe, Int.add_assoc] at h <;> omega
    conv => whnf
    refine ⟨_, _, rfl, rfl, ⟨i + 1, ?_, by omega, ?_⟩, ?_⟩
    · rw [w _ (by omega) (by omega)]; simp
    · simp (disch := omega) only [w]; omega
    · show (_ - IntKind.i64.wrap _).toNat < _
      rw [w _ (by omega) (by omega)]; omega
  · rename_i h
    simp [tab_length] at h
    conv => whnf
    obtain rfl : i = len := by omega
    refine ⟨trivial, ?_⟩
    conv => whnf
    exact ⟨rfl, rfl⟩

end Go.Abs.B
