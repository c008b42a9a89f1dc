import Derived.Test.YtbpmfdpbgcpjeaaGCat9
set_option linter.unusedSimpArgs false
set_option linter.unusedVariables false
namespace Go.Abs.C
open Go Go.Abs Go.Proofs
attribute [local irreducible] IntKind.wrap
theorem wb (x : Int) (h1 : -9223372036854775808 ≤ x) (h2 : x ≤ 9223372036854775807) : IntKind.i64.wrap x = x := wrap_in _ h1 h2
set_option maxHeartbeats 16000000 in
set_option maxRecDepth 100000 in
theorem szItem_ex (x : RItem) (left : Int) (h0 : 0 ≤ left) (h1 : left ≤ 1048576) (hb : x.b.size ≤ 9223372036854775807) (hd : x.d.size ≤ 9223372036854775807) : ∃ r out, (∃ v, r = vint v ∧ out = [] ∧ v ≤ left) ∧ Good Try.prog 62 [.agg ((encItem x).map .p), vint left] [] r out := by
  refine good_v noM Try.func62 rfl rfl ?_
  conv => whnf
  have w1 : IntKind.i64.wrap (left - (x.b.size : Int)) = left - x.b.size := wb _ (by omega) (by omega)
  split
  · conv => whnf
    refine ⟨trivial, ?_⟩
    conv => whnf
    exact ⟨_, rfl, rfl, by omega⟩
  · rename_i q
    have q' := of_decide_eq_false q
    rw [w1] at q'
    conv => whnf
    rw [w1]
    have w2 : IntKind.i64.wrap (left - (x.b.size : Int) - (x.d.size : Int)) = left - x.b.size - x.d.size := wb _ (by omega) (by omega)
    rw [w2]
    split
    · conv => whnf
      refine ⟨trivial, ?_⟩
      conv => whnf
      exact ⟨_, rfl, rfl, by omega⟩
    · conv => whnf
      refine ⟨trivial, ?_⟩
      conv => whnf
      exact ⟨_, rfl, rfl, by omega⟩
set_option maxHeartbeats 16000000 in
set_option maxRecDepth 100000 in
theorem szItemS_ex (l : Is) (hl : l.length ≤ 9223372036854775807) (hs : ∀ x ∈ l, x.b.size ≤ 9223372036854775807 ∧ x.d.size ≤ 9223372036854775807) : ∃ r out, (∃ v, r = vint v ∧ out = [] ∧ (0 ≤ v → l.length ≤ 1048576)) ∧ Good Try.prog 35 [.one (.p (.sl (l.map encItem))), vint 1048576] [] r out := by
  have hm : (l.map encItem).length = l.length := by rw [List.length_map]
  refine good_v noM Try.func35 rfl rfl ?_
  conv => whnf
  have w1 : IntKind.i64.wrap (1048576 - ((l.map encItem).length : Int)) = 1048576 - l.length := by rw [hm]; exact wb _ (by omega) (by omega)
  rw [w1]
  split
  · conv => whnf
    refine ⟨trivial, ?_⟩
    conv => whnf
    exact ⟨_, rfl, rfl, fun h => by omega⟩
  · rename_i q
    have q' := of_decide_eq_false q
    conv => whnf
    refine VLoop.enter [0, 1, 5] ?_
    conv => whnf
    refine VLoop.ind2 (n0 := 0) (α := Int) (β := Int) noM [0, 1, 5] (fun a b => ⟨27, 0, [(0, .one (.p (.sl (l.map encItem)))), (1, vint b), (5, vint a)], []⟩)
      (fun a b => ∃ i : Nat, a = i ∧ i ≤ l.length ∧ 0 ≤ b ∧ b ≤ 1048576) (fun a _ => ((l.length : Int) - a).toNat) ?_ 0 _ ⟨0, rfl, by omega, by omega, by omega⟩
    rintro _ b ⟨i, rfl, hi, hb0, hb1⟩
    conv => whnf
    split
    · rename_i q1
      have q1' := of_decide_eq_true q1
      have hil : i < l.length := by omega
      have en : (i : Int).toNat = i := Int.toNat_natCast i
      have hw : IntKind.i64.wrap ((i : Int) + 1) = i + 1 := wi _ (by omega) (by omega)
      conv => whnf
      refine ⟨by omega, by omega, _, ia_at l en hil, ?_⟩
      conv => whnf
      obtain ⟨_, _, ⟨v, rfl, rfl, hv⟩, hg⟩ := szItem_ex (ia l i) b hb0 hb1 (by rw [ia_lt hil]; exact (hs _ (List.getElem_mem hil)).1) (by rw [ia_lt hil]; exact (hs _ (List.getElem_mem hil)).2)
      refine .mk _ _ false Try.call62 hg (Nat.le_of_ble_eq_true rfl) (.inl rfl) ?_
      conv => whnf
      split
      · conv => whnf
        refine ⟨trivial, ?_⟩
        conv => whnf
        exact ⟨_, rfl, rfl, fun h => by omega⟩
      · rename_i q2
        have q2' := of_decide_eq_false q2
        conv => whnf
        exact ⟨_, _, rfl, rfl, ⟨i + 1, by rw [hw]; simp, by omega, by omega, by omega⟩, by rw [hw]; omega⟩
    · conv => whnf
      refine ⟨trivial, ?_⟩
      conv => whnf
      exact ⟨_, rfl, rfl, fun h => by omega⟩
set_option maxHeartbeats 16000000 in
set_option maxRecDepth 100000 in
theorem szCat_ex (l : Is) (last : Int) (hl : l.length ≤ 9223372036854775807) (hs : ∀ x ∈ l, x.b.size ≤ 9223372036854775807 ∧ x.d.size ≤ 9223372036854775807) : ∃ r out, (∃ v, r = vint v ∧ out = [] ∧ (0 ≤ v → l.length ≤ 1048576)) ∧ Good Try.prog 13 [cat l last, vint 1048576] [] r out := by
  refine good_v noM Try.func13 rfl rfl ?_
  conv => whnf
  obtain ⟨_, _, ⟨v, rfl, rfl, hv⟩, hg⟩ := szItemS_ex l hl hs
  refine .mk _ _ false Try.call35 hg (Nat.le_of_ble_eq_true rfl) (.inl rfl) ?_
  conv => whnf
  split
  · conv => whnf
    refine ⟨trivial, ?_⟩
    conv => whnf
    exact ⟨_, rfl, rfl, fun h => by omega⟩
  · conv => whnf
    refine ⟨trivial, ?_⟩
    conv => whnf
    exact ⟨_, rfl, rfl, hv⟩
set_option maxHeartbeats 16000000 in
set_option maxRecDepth 100000 in
theorem toItem_ok (x : RItem) : Good Try.prog 64 [.agg ((encItem x).map .p)] [] (.agg ((encItem x).map .p)) [] := by
  refine good_e noM Try.func64 rfl rfl ?_
  conv => whnf
  refine ⟨⟨⟨by decide +kernel, Nat.le_of_ble_eq_true rfl⟩, trivial⟩, ?_⟩
  conv => whnf
  exact ⟨rfl, rfl⟩
theorem tab_rep {α : Type} (n : Nat) (z : α) : List.replicate n z = tab n fun _ => z := by
  apply List.ext_getElem (by rw [tab_length, List.length_replicate])
  intro i h1 h2
  simp only [tab, List.getElem_replicate, List.getElem_map]
set_option maxHeartbeats 16000000 in
set_option maxRecDepth 100000 in
theorem toItemS_ok (l : Is) (hl : l.length < 1100000) : Good Try.prog 40 [.one (.p (.sl (l.map encItem)))] [] (.one (.hs 0 0 l.length)) [.arr 4 (l.map encItem)] := by
  have hm : (l.map encItem).length = l.length := by rw [List.length_map]
  refine good_e noM Try.func40 rfl rfl ?_
  conv => whnf
  rw [hm]
  refine ⟨by omega, by omega, Int.lt_of_le_of_lt (Int.mul_le_mul (show (l.length : Int) ≤ 1100000 by omega) (show ((Try.prog.bytesOf 36 + 1 : Nat) : Int) ≤ 100 from Int.ofNat_le.2 bytes36) (by omega) (by omega)) (by decide), ?_⟩
  conv => whnf
  refine VLoop.enter [0, 3, 4] ?_
  conv => whnf
  refine VLoop.ind2 (n0 := 1) (α := Int) (β := List (List PV)) noM [0, 3, 4] (fun a E => ⟨23, 0, [(0, .one (.p (.sl (l.map encItem)))), (3, .one (.hs 0 0 l.length)), (4, vint a)], [(0, some (.arr 4 E))]⟩)
    (fun a E => ∃ i : Nat, a = i ∧ i ≤ l.length ∧ E = mid l.length i (fun k => encItem (ia l k)) (fun _ => encItem zItem)) (fun a _ => ((l.length : Int) - a).toNat) ?_ 0 _ ⟨0, rfl, by omega, ?_⟩
  rotate_left
  · rw [mid_zero, ← tab_rep]; rfl
  rintro _ _ ⟨i, rfl, hi, rfl⟩
  conv => whnf
  split
  · rename_i q1
    have q1' := of_decide_eq_true q1
    have hil : i < l.length := by omega
    have en : (i : Int).toNat = i := Int.toNat_natCast i
    have e0 : 0 + (i : Int).toNat = i := by omega
    have hw : IntKind.i64.wrap ((i : Int) + 1) = i + 1 := wi _ (by omega) (by omega)
    conv => whnf
    refine ⟨by omega, by omega, _, ia_at l en hil, ?_⟩
    conv => whnf
    refine .mk _ _ false Try.call64 (toItem_ok (ia l i)) (Nat.le_of_ble_eq_true rfl) (.inl rfl) ?_
    conv => whnf
    refine ⟨by omega, by omega, by rw [mid_length]; omega, ?_⟩
    conv => whnf
    refine ⟨_, mid_getD [] e0 (by omega), by rw [mid_length]; omega, ?_⟩
    conv => whnf
    refine ⟨_, _, rfl, rfl, ⟨i + 1, by rw [hw]; simp, by omega, mid_set e0 rfl hil⟩, by rw [hw]; omega⟩
  · rename_i q1
    have q1' := of_decide_eq_false q1
    conv => whnf
    obtain rfl : i = l.length := by omega
    refine ⟨trivial, ?_⟩
    conv => whnf
    refine ⟨rfl, ?_⟩
    rw [mid_all]
    exact congrArg (fun E => [Blk.arr 4 E]) (tab_of l encItem zItem).symm
set_option maxHeartbeats 16000000 in
set_option maxRecDepth 100000 in
theorem toCat_ok (l : Is) (last : Int) (hl : l.length < 1100000) : Good Try.prog 15 [cat l last] [] (own l last) [.arr 4 (l.map encItem)] := by
  refine good_e noM Try.func15 rfl rfl ?_
  conv => whnf
  refine .mk _ _ false Try.call40 (toItemS_ok l hl) (Nat.le_of_ble_eq_true rfl) (.inl rfl) ?_
  conv => whnf
  refine ⟨⟨⟨by decide +kernel, Nat.le_of_ble_eq_true rfl⟩, trivial⟩, ?_⟩
  conv => whnf
  exact ⟨rfl, rfl⟩
set_option maxHeartbeats 16000000 in
set_option maxRecDepth 100000 in
theorem eqCat_ok (l : Is) (last : Int) (hl : l.length < 1100000) : Good Try.prog 17 [cat l last, cat l last] [] (vbool true) [] := by
  refine good_e noM Try.func17 rfl rfl ?_
  conv => whnf
  split
  · rename_i q; simp at q
  conv => whnf
  refine .mk _ _ false Try.call46 (eqItemS_ok l (by omega)) (Nat.le_of_ble_eq_true rfl) (.inl rfl) ?_
  conv => whnf
  refine ⟨trivial, ?_⟩
  conv => whnf
  exact ⟨rfl, rfl⟩
set_option maxHeartbeats 16000000 in
set_option maxRecDepth 100000 in
theorem eqCat_no : Good Try.prog 17 [noCat, noCat] [] (vbool true) [] := by
  refine good_e noM Try.func17 rfl rfl ?_
  conv => whnf
  refine CallS.inl noM Try.call46 Try.func46 rfl rfl ?_
  conv => whnf
  refine VLoop.step noM ?_
  conv => whnf
  refine ⟨trivial, ?_⟩
  conv => whnf
  refine ⟨trivial, ?_⟩
  conv => whnf
  exact ⟨rfl, rfl⟩
def mM : FuncId → Bool := fun f => [28, 56].contains f
set_option maxHeartbeats 16000000 in
set_option maxRecDepth 100000 in
theorem markCat_ok (l : Is) (last : Int) (hl : l.length < 1100000) : Good Try.prog 28 [.agg [.p (.lit (.int .i64 last)), .hs 0 0 l.length], vint 1] [.arr 4 (l.map encItem)] (vint (1 + 4 * l.length)) [.arr 4 (tab l.length fun k => encItem (mrowItem (1 + 4 * k)))] := by
  refine good_e mM Try.func28 rfl rfl ?_
  conv => whnf
  refine .mk _ _ false Try.call56 (markItemS_ok l 1 hl (by omega) (by omega)) (Nat.le_of_ble_eq_true rfl) (.inl rfl) ?_
  conv => whnf
  refine ⟨trivial, ?_⟩
  conv => whnf
  exact ⟨rfl, rfl⟩
set_option maxHeartbeats 16000000 in
set_option maxRecDepth 100000 in
theorem heldCat_ok (len : Nat) (last : Int) (hl : len < 1100000) : Good Try.prog 29 [.agg [.p (.lit (.int .i64 last)), .p (.sl (tab len fun k => encItem (mrowItem (1 + 4 * k))))], vint 1] [] (vint (1 + 4 * len)) [] := by
  refine good_e noM Try.func29 rfl rfl ?_
  conv => whnf
  refine .mk _ _ false Try.call57 (heldItemS_ok len 1 hl (by omega) (by omega)) (Nat.le_of_ble_eq_true rfl) (.inl rfl) ?_
  conv => whnf
  refine ⟨trivial, ?_⟩
  conv => whnf
  exact ⟨rfl, rfl⟩
set_option maxHeartbeats 16000000 in
set_option maxRecDepth 100000 in
theorem markCat_no : Good Try.prog 28 [noCat, vint 1] [] (vint 1) [] := by
  refine good_e noM Try.func28 rfl rfl ?_
  conv => whnf
  refine CallS.inl noM Try.call56 Try.func56 rfl rfl ?_
  conv => whnf
  refine VLoop.step noM ?_
  conv => whnf
  refine ⟨trivial, ?_⟩
  conv => whnf
  refine ⟨trivial, ?_⟩
  conv => whnf
  exact ⟨rfl, rfl⟩
set_option maxHeartbeats 16000000 in
set_option maxRecDepth 100000 in
theorem heldCat_no : Good Try.prog 29 [noCat, vint 1] [] (vint 1) [] := by
  refine good_e noM Try.func29 rfl rfl ?_
  conv => whnf
  refine CallS.inl noM Try.call57 Try.func57 rfl rfl ?_
  conv => whnf
  refine VLoop.step noM ?_
  conv => whnf
  refine ⟨trivial, ?_⟩
  conv => whnf
  refine ⟨trivial, ?_⟩
  conv => whnf
  exact ⟨rfl, rfl⟩
end Go.Abs.C
