import Derived.Test.YtbpmfdpbgcpjeaaGCatM
set_option linter.unusedSimpArgs false
set_option linter.unusedVariables false
namespace Go.Abs.C
open Go Go.Abs Go.Proofs
attribute [local irreducible] IntKind.wrap
@[reducible] def cat (l : Is) (last : Int) : AV := .agg [.p (.lit (.int .i64 last)), .p (.sl (l.map encItem))]
theorem ia_at (l : Is) {j i : Nat} (e : j = i) (h : i < l.length) : (l.map encItem).getD j [] = encItem (ia l i) := by rw [e]; exact getD_map encItem l _ zItem h
theorem wi (x : Int) (h1 : -100000000 ≤ x) (h2 : x < 2000000000) : IntKind.i64.wrap x = x := wrap_in _ (by omega) (by omega)
set_option maxHeartbeats 4000000 in
set_option maxRecDepth 100000 in
theorem within_ok (n lo hi : Int) : Good Try.prog 41 [vint n, vint lo, vint hi] [] (vbool (inR n lo hi)) [] := by
  refine good_e noM Try.func41 rfl rfl ?_
  conv => whnf
  split
  all_goals
    rename_i h
    unfold inR
    rw [h]
    conv => whnf
    refine ⟨trivial, ?_⟩
    conv => whnf
    exact ⟨rfl, rfl⟩
set_option maxHeartbeats 4000000 in
set_option maxRecDepth 100000 in
theorem l1In_ok (n lo hi : Int) : Good Try.prog 36 [vint n, vint lo, vint hi] [] (vbool (inR n lo hi)) [] := by
  refine good_e noM Try.func36 rfl rfl ?_
  conv => whnf
  split
  all_goals
    rename_i h
    unfold inR
    rw [h]
    conv => whnf
    refine ⟨trivial, ?_⟩
    conv => whnf
    exact ⟨rfl, rfl⟩
set_option maxHeartbeats 4000000 in
set_option maxRecDepth 100000 in
theorem house_ok (n : Int) : Good Try.prog 65 [vint n] [] (vbool (inR n 0 1)) [] := by
  refine good_e noM Try.func65 rfl rfl ?_
  conv => whnf
  refine .mk _ _ false Try.call41 (within_ok _ _ _) (Nat.le_of_ble_eq_true rfl) (.inl rfl) ?_
  conv => whnf
  refine ⟨trivial, ?_⟩
  conv => whnf
  exact ⟨rfl, rfl⟩
def letterAt (s : ByteArray) (i : Nat) : Bool := decide (97 ≤ bt s i) && decide (bt s i ≤ 122)
theorem nameOk_no {s : ByteArray} {i : Nat} (hi : i < s.size) (h : letterAt s i = false) : nameOk s = false := by
  unfold nameOk
  have : (List.range s.size).all (fun i => decide (97 ≤ bt s i) && decide (bt s i ≤ 122)) = false := by
    rw [List.all_eq_false]
    exact ⟨i, List.mem_range.2 hi, by unfold letterAt at h; rw [h]; simp⟩
  rw [this]; rfl
theorem nameOk_yes {s : ByteArray} (h : ∀ i, i < s.size → letterAt s i = true) : nameOk s = inR s.size 1 6 := by
  unfold nameOk
  have : (List.range s.size).all (fun i => decide (97 ≤ bt s i) && decide (bt s i ≤ 122)) = true := by
    rw [List.all_eq_true]
    exact fun i hi => h i (List.mem_range.1 hi)
  rw [this]; rfl
set_option maxHeartbeats 4000000 in
set_option maxRecDepth 100000 in
theorem implName_ok (s : ByteArray) (hs : s.size ≤ 9223372036854775807) : Good Try.prog 66 [vstr s] [] (vbool (nameOk s)) [] := by
  refine good_e noM Try.func66 rfl rfl ?_
  conv => whnf
  refine VLoop.enter [0, 5, 6] ?_
  conv => whnf
  refine VLoop.ind1 (n0 := 0) (α := Int) noM [0, 5, 6] (fun a => ⟨23, 0, [(0, vstr s), (5, vint s.size), (6, vint a)], []⟩)
    (fun a => ∃ i : Nat, a = i ∧ i ≤ s.size ∧ ∀ k, k < i → letterAt s k = true) (fun a => ((s.size : Int) - a).toNat) ?_ 0 ⟨0, rfl, by omega, fun k hk => by omega⟩
  rintro _ ⟨i, rfl, hi, hl⟩
  conv => whnf
  split
  · rename_i q
    have q' := of_decide_eq_true q
    have hw : IntKind.i64.wrap ((i : Int) + 1) = i + 1 := wrap_in _ (by omega) (by omega)
    have en : (i : Int).toNat = i := Int.toNat_natCast i
    conv => whnf
    refine ⟨by omega, by omega, ?_⟩
    conv => whnf
    split
    · rename_i k1
      have k1' := of_decide_eq_true k1
      rw [en] at k1'
      conv => whnf
      refine ⟨trivial, ?_⟩
      conv => whnf
      rw [nameOk_no (i := i) (by omega) (by unfold letterAt; rw [decide_eq_false (by omega)]; rfl)]
      exact ⟨rfl, rfl⟩
    · rename_i k1
      have k1' := of_decide_eq_false k1
      rw [en] at k1'
      conv => whnf
      refine ⟨by omega, by omega, ?_⟩
      conv => whnf
      split
      · rename_i k2
        have k2' := of_decide_eq_true k2
        rw [en] at k2'
        conv => whnf
        refine ⟨trivial, ?_⟩
        conv => whnf
        rw [nameOk_no (i := i) (by omega) (by unfold letterAt; rw [decide_eq_false (p := bt s i ≤ 122) (by omega), Bool.and_false])]
        exact ⟨rfl, rfl⟩
      · rename_i k2
        have k2' := of_decide_eq_false k2
        rw [en] at k2'
        conv => whnf
        refine ⟨_, rfl, rfl, ⟨i + 1, by rw [hw]; simp, by omega, fun k hk => ?_⟩, by rw [hw]; omega⟩
        by_cases e : k = i
        · subst e; unfold letterAt; rw [decide_eq_true (by omega), decide_eq_true (by omega)]; rfl
        · exact hl k (by omega)
  · rename_i q
    have q' := of_decide_eq_false q
    conv => whnf
    refine .mk _ _ false Try.call41 (within_ok _ _ _) (Nat.le_of_ble_eq_true rfl) (.inl rfl) ?_
    conv => whnf
    refine ⟨trivial, ?_⟩
    conv => whnf
    rw [nameOk_yes fun k hk => hl k (by omega)]
    exact ⟨rfl, rfl⟩
set_option maxHeartbeats 4000000 in
set_option maxRecDepth 100000 in
theorem specName_ok (s : ByteArray) (hs : s.size ≤ 9223372036854775807) : Good Try.prog 63 [vstr s] [] (vbool (nameOk s)) [] := by
  refine good_e noM Try.func63 rfl rfl ?_
  conv => whnf
  refine VLoop.enter [0, 3] ?_
  conv => whnf
  refine VLoop.ind1 (n0 := 0) (α := Int) noM [0, 3] (fun a => ⟨23, 0, [(0, vstr s), (3, vint a)], []⟩)
    (fun a => ∃ i : Nat, a = i ∧ i ≤ s.size ∧ ∀ k, k < i → letterAt s k = true) (fun a => ((s.size : Int) - a).toNat) ?_ 0 ⟨0, rfl, by omega, fun k hk => by omega⟩
  rintro _ ⟨i, rfl, hi, hl⟩
  conv => whnf
  split
  · rename_i q
    have q' := of_decide_eq_true q
    have hw : IntKind.i64.wrap ((i : Int) + 1) = i + 1 := wrap_in _ (by omega) (by omega)
    have en : (i : Int).toNat = i := Int.toNat_natCast i
    conv => whnf
    refine ⟨by omega, by omega, ?_⟩
    conv => whnf
    split
    · rename_i k1
      have k1' := of_decide_eq_true k1
      rw [en] at k1'
      conv => whnf
      refine ⟨trivial, ?_⟩
      conv => whnf
      rw [nameOk_no (i := i) (by omega) (by unfold letterAt; rw [decide_eq_false (by omega)]; rfl)]
      exact ⟨rfl, rfl⟩
    · rename_i k1
      have k1' := of_decide_eq_false k1
      rw [en] at k1'
      conv => whnf
      refine ⟨by omega, by omega, ?_⟩
      conv => whnf
      split
      · rename_i k2
        have k2' := of_decide_eq_true k2
        rw [en] at k2'
        conv => whnf
        refine ⟨trivial, ?_⟩
        conv => whnf
        rw [nameOk_no (i := i) (by omega) (by unfold letterAt; rw [decide_eq_false (p := bt s i ≤ 122) (by omega), Bool.and_false])]
        exact ⟨rfl, rfl⟩
      · rename_i k2
        have k2' := of_decide_eq_false k2
        rw [en] at k2'
        conv => whnf
        refine ⟨_, rfl, rfl, ⟨i + 1, by rw [hw]; simp, by omega, fun k hk => ?_⟩, by rw [hw]; omega⟩
        by_cases e : k = i
        · subst e; unfold letterAt; rw [decide_eq_true (by omega), decide_eq_true (by omega)]; rfl
        · exact hl k (by omega)
  · rename_i q
    have q' := of_decide_eq_false q
    conv => whnf
    refine .mk _ _ false Try.call36 (l1In_ok _ _ _) (Nat.le_of_ble_eq_true rfl) (.inl rfl) ?_
    conv => whnf
    refine ⟨trivial, ?_⟩
    conv => whnf
    rw [nameOk_yes fun k hk => hl k (by omega)]
    exact ⟨rfl, rfl⟩
set_option maxHeartbeats 4000000 in
set_option maxRecDepth 100000 in
theorem publ_ok (x : RItem) (hs : x.b.size ≤ 9223372036854775807) : Good Try.prog 42 [vint x.a, vstr x.b, vstr x.d] [] (vbool (itemOk x)) [] := by
  refine good_e noM Try.func42 rfl rfl ?_
  unfold itemOk
  conv => whnf
  refine .mk _ _ false Try.call65 (house_ok _) (Nat.le_of_ble_eq_true rfl) (.inl rfl) ?_
  conv => whnf
  cases inR x.a 0 1 with
  | false =>
    conv => whnf
    refine ⟨trivial, ?_⟩
    conv => whnf
    exact ⟨rfl, rfl⟩
  | true =>
    conv => whnf
    refine .mk _ _ false Try.call66 (implName_ok _ hs) (Nat.le_of_ble_eq_true rfl) (.inl rfl) ?_
    conv => whnf
    cases nameOk x.b with
    | false =>
      conv => whnf
      refine ⟨trivial, ?_⟩
      conv => whnf
      exact ⟨rfl, rfl⟩
    | true =>
      conv => whnf
      refine .mk _ _ false Try.call41 (within_ok _ _ _) (Nat.le_of_ble_eq_true rfl) (.inl rfl) ?_
      conv => whnf
      refine ⟨trivial, ?_⟩
      conv => whnf
      exact ⟨rfl, rfl⟩
set_option maxHeartbeats 4000000 in
set_option maxRecDepth 100000 in
theorem l9Ok_ok (x : RItem) (hs : x.b.size ≤ 9223372036854775807) : Good Try.prog 37 [.agg ((encItem x).map .p)] [] (vbool (itemOk x)) [] := by
  refine good_e noM Try.func37 rfl rfl ?_
  unfold itemOk
  conv => whnf
  refine .mk _ _ false Try.call36 (l1In_ok _ _ _) (Nat.le_of_ble_eq_true rfl) (.inl rfl) ?_
  conv => whnf
  cases inR x.a 0 1 with
  | false =>
    conv => whnf
    refine ⟨trivial, ?_⟩
    conv => whnf
    exact ⟨rfl, rfl⟩
  | true =>
    conv => whnf
    refine .mk _ _ false Try.call63 (specName_ok _ hs) (Nat.le_of_ble_eq_true rfl) (.inl rfl) ?_
    conv => whnf
    cases nameOk x.b with
    | false =>
      conv => whnf
      refine ⟨trivial, ?_⟩
      conv => whnf
      exact ⟨rfl, rfl⟩
    | true =>
      conv => whnf
      refine .mk _ _ false Try.call36 (l1In_ok _ _ _) (Nat.le_of_ble_eq_true rfl) (.inl rfl) ?_
      conv => whnf
      refine ⟨trivial, ?_⟩
      conv => whnf
      exact ⟨rfl, rfl⟩
set_option maxHeartbeats 4000000 in
set_option maxRecDepth 100000 in
theorem l9Less_ok (x : RItem) (h : Int) (n : ByteArray) : Good Try.prog 38 [.agg ((encItem x).map .p), vint h, vstr n] [] (vbool (less x h n)) [] := by
  refine good_e noM Try.func38 rfl rfl ?_
  unfold less
  conv => whnf
  split
  · rename_i q
    rw [q]
    conv => whnf
    refine ⟨trivial, ?_⟩
    conv => whnf
    exact ⟨rfl, rfl⟩
  · rename_i q
    rw [q]
    conv => whnf
    split
    · rename_i q2
      rw [q2]
      conv => whnf
      refine ⟨trivial, ?_⟩
      conv => whnf
      exact ⟨rfl, rfl⟩
    · rename_i q2
      rw [q2]
      conv => whnf
      refine ⟨trivial, ?_⟩
      conv => whnf
      exact ⟨rfl, rfl⟩
end Go.Abs.C
