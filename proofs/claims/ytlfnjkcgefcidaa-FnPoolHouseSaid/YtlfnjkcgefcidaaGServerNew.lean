import Derived.Test.YtlfnjkcgefcidaaGRowTypes
set_option linter.unusedSimpArgs false
set_option linter.unusedVariables false
namespace Go.Abs.B
open Go Go.Abs Go.Proofs
def z8 : List RFrame := List.replicate 8 zFrame
def bk : RBucket := ⟨40, 40, 8, 0⟩
set_option maxHeartbeats 8000000 in
set_option maxRecDepth 100000 in
theorem l10New_ok : Good Try.prog 61 [] [] (.agg [.hs 0 0 8, .p (.lit (.int .i64 0))]) [.arr 5 (z8.map encFrame)] := by
  refine good_e noM Try.func61 rfl rfl ?_
  conv => whnf
  refine ⟨by decide, by decide, by decide +kernel, ?_⟩
  conv => whnf
  refine ⟨⟨⟨by decide +kernel, Nat.le_of_ble_eq_true rfl⟩, trivial⟩, ?_⟩
  conv => whnf
  exact ⟨rfl, rfl⟩
set_option maxHeartbeats 8000000 in
set_option maxRecDepth 100000 in
theorem poolNew_ok : Good Try.prog 78 [] [] (.agg [.hs 0 0 8, .p (.lit (.int .i64 0))]) [.arr 5 (z8.map encFrame)] := by
  refine good_e noM Try.func78 rfl rfl ?_
  conv => whnf
  refine ⟨by decide, by decide, by decide +kernel, ?_⟩
  conv => whnf
  refine ⟨⟨⟨by decide +kernel, Nat.le_of_ble_eq_true rfl⟩, trivial⟩, ?_⟩
  conv => whnf
  exact ⟨rfl, rfl⟩
set_option maxHeartbeats 8000000 in
set_option maxRecDepth 100000 in
theorem l12Buckets_ok : Good Try.prog 62 [vint 0] [] (.one (.hs 0 0 2)) [.arr 4 ([bk, bk].map encBucket)] := by
  refine good_e noM Try.func62 rfl rfl ?_
  conv => whnf
  refine VLoop.step noM ?_
  conv => whnf
  refine ⟨⟨rfl, rfl, rfl⟩, Nat.le_of_ble_eq_true rfl, ?_⟩
  conv => whnf
  refine ⟨(fun q => by cases q), Nat.le_of_ble_eq_true rfl, rows_len rfl, ?_⟩
  conv => whnf
  refine VLoop.step noM ?_
  conv => whnf
  refine ⟨⟨rfl, rfl, rfl⟩, Nat.le_of_ble_eq_true rfl, ?_⟩
  conv => whnf
  refine ⟨(fun q => by cases q), Nat.le_of_ble_eq_true rfl, rows_len rfl, ?_⟩
  conv => whnf
  refine VLoop.step noM ?_
  conv => whnf
  refine ⟨trivial, ?_⟩
  conv => whnf
  exact ⟨rfl, rfl⟩
set_option maxHeartbeats 400000 in
set_option maxRecDepth 100000 in
theorem specNew_ok : Good Try.prog 35 [] [] (.agg [.p (.lit (.bool true)), .p (.lit (.int .i64 0)), .p (.lit (.string ByteArray.empty)), .p (.lit (.int .i64 0)), .p (.lit (.slice none 0 0)), .hs 0 0 8, .p (.lit (.int .i64 0)), .hs 1 0 2, .p (.lit (.slice none 0 0))]) [.arr 5 (z8.map encFrame), .arr 4 ([bk, bk].map encBucket)] := by
  refine good_e noM Try.func35 rfl rfl ?_
  conv => whnf
  refine .mk _ _ false Try.call61 l10New_ok (Nat.le_of_ble_eq_true rfl) (.inl rfl) ?_
  conv => whnf
  refine .mk _ _ false Try.call62 l12Buckets_ok (Nat.le_of_ble_eq_true rfl) (.inl rfl) ?_
  conv => whnf
  refine ⟨⟨⟨by decide +kernel, Nat.le_of_ble_eq_true rfl⟩, trivial⟩, ?_⟩
  conv => whnf
  exact ⟨rfl, rfl⟩
set_option maxHeartbeats 400000 in
set_option maxRecDepth 100000 in
theorem risen_ok : Good Try.prog 63 [vint 0, .one (.p (.lit (.string ByteArray.empty))), .agg [.p (.lit (.int .i64 0)), .p (.sl [])]] [] (.agg [.p (.lit (.bool true)), .p (.lit (.int .i64 0)), .p (.lit (.string ByteArray.empty)), .p (.lit (.int .i64 0)), .p (.sl []), .hs 0 0 8, .p (.lit (.int .i64 0)), .hs 1 0 2, .hs 2 0 0]) [.arr 5 (z8.map encFrame), .arr 4 ([bk, bk].map encBucket), .arr 6 []] := by
  refine good_e noM Try.func63 rfl rfl ?_
  conv => whnf
  refine VDraw.go ⟨16, [0, 0, 0, 0, 0, 0, 63, 0, 255], [3, 4, 5, 7, 8], [(8, [72])]⟩ rfl rfl (by decide +kernel) ?_
  conv => whnf
  refine .mk _ _ false Try.call78 poolNew_ok (Nat.le_of_ble_eq_true rfl) (.inl rfl) ?_
  conv => whnf
  refine VLoop.step noM ?_
  conv => whnf
  refine ⟨⟨rfl, rfl, rfl⟩, Nat.le_of_ble_eq_true rfl, ?_⟩
  conv => whnf
  refine ⟨(fun q => by cases q), Nat.le_of_ble_eq_true rfl, rows_len rfl, ?_⟩
  conv => whnf
  refine VLoop.step noM ?_
  conv => whnf
  refine ⟨⟨rfl, rfl, rfl⟩, Nat.le_of_ble_eq_true rfl, ?_⟩
  conv => whnf
  refine ⟨(fun q => by cases q), Nat.le_of_ble_eq_true rfl, rows_len rfl, ?_⟩
  conv => whnf
  refine VLoop.step noM ?_
  conv => whnf
  refine ⟨⟨⟨by decide +kernel, Nat.le_of_ble_eq_true rfl⟩, trivial⟩, ?_⟩
  conv => whnf
  exact ⟨rfl, rfl⟩
@[reducible] def zi : AC := .p (.lit (.int .i64 0))
@[reducible] def tt : AC := .p (.lit (.bool true))
@[reducible] def em : AC := .p (.lit (.string ByteArray.empty))
@[reducible] def nl : AC := .p (.lit (.slice none 0 0))
@[reducible] def s0 : AC := .p (.sl [])
@[reducible] def s8 : AC := .p (.sl (z8.map encFrame))
@[reducible] def s2 : AC := .p (.sl ([bk, bk].map encBucket))
@[reducible] def t8 : AC := .p (.sl (tab 8 fun k => encFrame (mrowFrame (1 + 5 * k))))
@[reducible] def t2 : AC := .p (.sl (tab 2 fun k => encBucket (mrowBucket (41 + 4 * k))))
set_option maxHeartbeats 1000000 in
set_option maxRecDepth 100000 in
theorem implNew_ok : Good Try.prog 36 [] [] (.agg [tt, zi, em, zi, s0, .hs 0 0 8, zi, .hs 1 0 2, .hs 2 0 0]) [.arr 5 (z8.map encFrame), .arr 4 ([bk, bk].map encBucket), .arr 6 []] := by
  refine good_e noM Try.func36 rfl rfl ?_
  conv => whnf
  refine ⟨Nat.le_of_ble_eq_true rfl, ?_⟩
  refine .mk _ _ true Try.call63 risen_ok (Nat.le_of_ble_eq_true rfl) (fun b hb => Nat.zero_le _) ?_
  conv => whnf
  refine ⟨⟨⟨by decide +kernel, Nat.le_of_ble_eq_true rfl⟩, trivial⟩, ?_⟩
  conv => whnf
  exact ⟨rfl, rfl⟩
set_option maxHeartbeats 1000000 in
set_option maxRecDepth 100000 in
theorem eqItem0 : Good Try.prog 79 [.one s0, .one nl] [] (vbool true) [] := by
  refine good_e noM Try.func79 rfl rfl ?_
  conv => whnf
  refine VLoop.step noM ?_
  conv => whnf
  refine ⟨trivial, ?_⟩
  conv => whnf
  exact ⟨rfl, rfl⟩
set_option maxHeartbeats 1000000 in
set_option maxRecDepth 100000 in
theorem eqServe0 : Good Try.prog 66 [.one s0, .one nl] [] (vbool true) [] := by
  refine good_e noM Try.func66 rfl rfl ?_
  conv => whnf
  refine VLoop.step noM ?_
  conv => whnf
  refine ⟨trivial, ?_⟩
  conv => whnf
  exact ⟨rfl, rfl⟩
set_option maxHeartbeats 1000000 in
set_option maxRecDepth 100000 in
theorem eqCat0 : Good Try.prog 64 [.agg [zi, s0], .agg [zi, nl]] [] (vbool true) [] := by
  refine good_e noM Try.func64 rfl rfl ?_
  conv => whnf
  refine .mk _ _ false Try.call79 eqItem0 (Nat.le_of_ble_eq_true rfl) (.inl rfl) ?_
  conv => whnf
  refine ⟨trivial, ?_⟩
  conv => whnf
  exact ⟨rfl, rfl⟩
set_option maxHeartbeats 1000000 in
set_option maxRecDepth 100000 in
theorem eqPool8 : Good Try.prog 19 [.agg [s8, zi], .agg [s8, zi]] [] (vbool true) [] := by
  refine good_e noM Try.func19 rfl rfl ?_
  conv => whnf
  refine .mk _ _ false Try.call49 (eqFrameS_ok z8 (by decide)) (Nat.le_of_ble_eq_true rfl) (.inl rfl) ?_
  conv => whnf
  refine ⟨trivial, ?_⟩
  conv => whnf
  exact ⟨rfl, rfl⟩
set_option maxHeartbeats 1000000 in
set_option maxRecDepth 100000 in
theorem eqServer0 : Good Try.prog 37 [.agg [tt, zi, em, zi, s0, s8, zi, s2, s0], .agg [tt, zi, em, zi, nl, s8, zi, s2, nl]] [] (vbool true) [] := by
  refine good_e noM Try.func37 rfl rfl ?_
  conv => whnf
  split
  · rename_i h; simp at h
  conv => whnf
  refine .mk _ _ false Try.call64 eqCat0 (Nat.le_of_ble_eq_true rfl) (.inl rfl) ?_
  conv => whnf
  refine .mk _ _ false Try.call19 eqPool8 (Nat.le_of_ble_eq_true rfl) (.inl rfl) ?_
  conv => whnf
  refine .mk _ _ false Try.call65 (eqBucketS_ok [bk, bk] (by decide)) (Nat.le_of_ble_eq_true rfl) (.inl rfl) ?_
  conv => whnf
  refine .mk _ _ false Try.call66 eqServe0 (Nat.le_of_ble_eq_true rfl) (.inl rfl) ?_
  conv => whnf
  refine ⟨trivial, ?_⟩
  conv => whnf
  exact ⟨rfl, rfl⟩
set_option maxHeartbeats 1000000 in
set_option maxRecDepth 100000 in
theorem markItem0 (n : Int) : Good Try.prog 82 [.one s0, vint n] [] (vint n) [] := by
  refine good_e mM Try.func82 rfl rfl ?_
  conv => whnf
  refine VLoop.step mM ?_
  conv => whnf
  refine ⟨trivial, ?_⟩
  conv => whnf
  exact ⟨rfl, rfl⟩
set_option maxHeartbeats 1000000 in
set_option maxRecDepth 100000 in
theorem markCat0 (n : Int) : Good Try.prog 67 [.agg [zi, s0], vint n] [] (vint n) [] := by
  refine good_e mM Try.func67 rfl rfl ?_
  conv => whnf
  refine .mk _ _ false Try.call82 (markItem0 n) (Nat.le_of_ble_eq_true rfl) (.inl rfl) ?_
  conv => whnf
  refine ⟨trivial, ?_⟩
  conv => whnf
  exact ⟨rfl, rfl⟩
set_option maxHeartbeats 1000000 in
set_option maxRecDepth 100000 in
theorem markPool8 : Good Try.prog 26 [.agg [.hs 0 0 8, zi], vint 1] [.arr 5 (z8.map encFrame)] (vint 41) [.arr 5 (tab 8 fun k => encFrame (mrowFrame (1 + 5 * k)))] := by
  refine good_e mM Try.func26 rfl rfl ?_
  conv => whnf
  refine .mk _ _ false Try.call55 (markFrameS_ok z8 1 (by decide) (by decide) (by decide)) (Nat.le_of_ble_eq_true rfl) (.inl rfl) ?_
  conv => whnf
  refine ⟨trivial, ?_⟩
  conv => whnf
  exact ⟨rfl, rfl⟩
set_option maxHeartbeats 1000000 in
set_option maxRecDepth 100000 in
theorem markServer0 : Good Try.prog 38 [.agg [tt, zi, em, zi, s0, .hs 0 0 8, zi, .hs 1 0 2, .hs 2 0 0], vint 1] [.arr 5 (z8.map encFrame), .arr 4 ([bk, bk].map encBucket), .arr 6 []] (vint 49) [.arr 5 (tab 8 fun k => encFrame (mrowFrame (1 + 5 * k))), .arr 4 (tab 2 fun k => encBucket (mrowBucket (41 + 4 * k))), .arr 6 []] := by
  refine good_e mM Try.func38 rfl rfl ?_
  conv => whnf
  refine .mk _ _ false Try.call67 (markCat0 1) (Nat.le_of_ble_eq_true rfl) (.inl rfl) ?_
  conv => whnf
  refine .mk _ _ false Try.call26 markPool8 (Nat.le_of_ble_eq_true rfl) (.inl rfl) ?_
  conv => whnf
  refine .mk _ _ false Try.call68 (markBucketS_ok [bk, bk] 41 (by decide) (by decide) (by decide)) (Nat.le_of_ble_eq_true rfl) (.inl rfl) ?_
  conv => whnf
  refine .mk _ _ false Try.call69 (markServeS_ok [] 49 (by decide) (by decide) (by decide)) (Nat.le_of_ble_eq_true rfl) (.inl rfl) ?_
  conv => whnf
  refine ⟨trivial, ?_⟩
  conv => whnf
  exact ⟨rfl, rfl⟩
set_option maxHeartbeats 1000000 in
set_option maxRecDepth 100000 in
theorem heldItem0 (n : Int) : Good Try.prog 83 [.one s0, vint n] [] (vint n) [] := by
  refine good_e noM Try.func83 rfl rfl ?_
  conv => whnf
  refine VLoop.step noM ?_
  conv => whnf
  refine ⟨trivial, ?_⟩
  conv => whnf
  exact ⟨rfl, rfl⟩
set_option maxHeartbeats 1000000 in
set_option maxRecDepth 100000 in
theorem heldCat0 : Good Try.prog 70 [.agg [zi, s0], vint 1] [] (vint 1) [] := by
  refine good_e noM Try.func70 rfl rfl ?_
  conv => whnf
  refine .mk _ _ false Try.call83 (heldItem0 1) (Nat.le_of_ble_eq_true rfl) (.inl rfl) ?_
  conv => whnf
  refine ⟨trivial, ?_⟩
  conv => whnf
  exact ⟨rfl, rfl⟩
set_option maxHeartbeats 1000000 in
set_option maxRecDepth 100000 in
theorem heldPool8 : Good Try.prog 27 [.agg [t8, zi], vint 1] [] (vint 41) [] := by
  refine good_e noM Try.func27 rfl rfl ?_
  conv => whnf
  refine .mk _ _ false Try.call56 (heldFrameS_ok 8 1 (by decide) (by decide) (by decide)) (Nat.le_of_ble_eq_true rfl) (.inl rfl) ?_
  conv => whnf
  refine ⟨trivial, ?_⟩
  conv => whnf
  exact ⟨rfl, rfl⟩
set_option maxHeartbeats 1000000 in
set_option maxRecDepth 100000 in
theorem heldServer0 : Good Try.prog 39 [.agg [tt, zi, em, zi, s0, t8, zi, t2, s0], vint 1] [] (vint 49) [] := by
  refine good_e noM Try.func39 rfl rfl ?_
  conv => whnf
  refine .mk _ _ false Try.call70 heldCat0 (Nat.le_of_ble_eq_true rfl) (.inl rfl) ?_
  conv => whnf
  refine .mk _ _ false Try.call27 heldPool8 (Nat.le_of_ble_eq_true rfl) (.inl rfl) ?_
  conv => whnf
  refine .mk _ _ false Try.call71 (heldBucketS_ok 2 41 (by decide) (by decide) (by decide)) (Nat.le_of_ble_eq_true rfl) (.inl rfl) ?_
  conv => whnf
  refine .mk _ _ false Try.call72 (heldServeS_ok 0 49 (by decide) (by decide) (by decide)) (Nat.le_of_ble_eq_true rfl) (.inl rfl) ?_
  conv => whnf
  refine ⟨trivial, ?_⟩
  conv => whnf
  exact ⟨rfl, rfl⟩
set_option maxHeartbeats 1000000 in
set_option maxRecDepth 100000 in
theorem FnExactServerNew : ∃ r out, r = vbool true ∧ Good Try.prog 14 [] [] r out := by
  refine good_v mM Try.func14 rfl rfl ?_
  conv => whnf
  refine .mk _ _ false Try.call35 specNew_ok (Nat.le_of_ble_eq_true rfl) (.inl rfl) ?_
  conv => whnf
  refine .mk _ _ false Try.call36 implNew_ok (Nat.le_of_ble_eq_true rfl) (.inl rfl) ?_
  conv => whnf
  refine ⟨Nat.le_of_ble_eq_true rfl, Nat.le_of_ble_eq_true rfl, Nat.le_of_ble_eq_true rfl, Nat.le_of_ble_eq_true rfl, Nat.le_of_ble_eq_true rfl, ?_⟩
  conv => whnf
  refine .mk _ _ false Try.call37 eqServer0 (Nat.le_of_ble_eq_true rfl) (.inr ⟨AV.nsB_iff rfl, fun k hk => by cases hk⟩) ?_
  conv => whnf
  refine .mk _ _ false Try.call38 markServer0 (Nat.le_of_ble_eq_true rfl) (.inl rfl) ?_
  conv => whnf
  refine ⟨Nat.le_of_ble_eq_true rfl, Nat.le_of_ble_eq_true rfl, Nat.le_of_ble_eq_true rfl, ?_⟩
  conv => whnf
  refine .mk _ _ false Try.call39 heldServer0 (Nat.le_of_ble_eq_true rfl) (.inr ⟨AV.nsB_iff rfl, fun k hk => by cases hk⟩) ?_
  conv => whnf
  refine .mk _ _ false Try.call36 implNew_ok (Nat.le_of_ble_eq_true rfl) (.inl rfl) ?_
  conv => whnf
  refine ⟨Nat.le_of_ble_eq_true rfl, Nat.le_of_ble_eq_true rfl, Nat.le_of_ble_eq_true rfl, Nat.le_of_ble_eq_true rfl, Nat.le_of_ble_eq_true rfl, ?_⟩
  conv => whnf
  refine .mk _ _ false Try.call37 eqServer0 (Nat.le_of_ble_eq_true rfl) (.inr ⟨AV.nsB_iff rfl, fun k hk => by cases hk⟩) ?_
  conv => whnf
  refine ⟨Nat.le_of_ble_eq_true rfl, Nat.le_of_ble_eq_true rfl, Nat.le_of_ble_eq_true rfl, ?_⟩
  conv => whnf
  refine .mk _ _ false Try.call39 heldServer0 (Nat.le_of_ble_eq_true rfl) (.inr ⟨AV.nsB_iff rfl, fun k hk => by cases hk⟩) ?_
  conv => whnf
  refine ⟨trivial, ?_⟩
  conv => whnf
  exact rfl
end Go.Abs.B
