import Derived.Test.YtmieklaakjabaaaGreatGAbs23
set_option linter.unusedSimpArgs false
set_option linter.unusedVariables false
namespace Go.Abs
open Go Go.RowKit
theorem abin_cat {P : Program} {st : St} {t : TypeId} {y z : Operand} {a b : ByteArray} (hy : ev st y = some (lit (.string a))) (hz : ev st z = some (lit (.string b))) (hb : a.size + b.size ≤ 9223372036854775807) : abin P st .add t y z = some ⟨True, lit (.string (a ++ b)), []⟩ := by
  have e1 : Go.binOp .add t (.string a) (.string b) = pure (.string (a ++ b)) := by
    have h : ¬ ((a.size + b.size : Nat) : Int) > IntKind.i64.max := by
      have : IntKind.i64.max = 9223372036854775807 := by decide
      omega
    simp only [Go.binOp, Op.stringOp]
    rw [if_neg h]
  unfold abin
  rw [hy, hz]
  simp only [e1]
  rfl
theorem abin_rem {P : Program} {st : St} {t : TypeId} {y z : Operand} {k : IntKind} {a b : Int} (hy : ev st y = some (lit (.int k a))) (hz : ev st z = some (lit (.int k b))) (hb : b ≠ 0) : abin P st .rem t y z = some ⟨True, lit (.int k (a.tmod b)), []⟩ := by
  have e1 : Go.binOp .rem t (.int k a) (.int k b) = pure (.int k (a.tmod b)) := by simp [Go.binOp, Op.intDiv, hb]
  unfold abin
  rw [hy, hz]
  simp only [e1]
  rfl
theorem abin_quo {P : Program} {st : St} {t : TypeId} {y z : Operand} {k : IntKind} {a b : Int} (hy : ev st y = some (lit (.int k a))) (hz : ev st z = some (lit (.int k b))) (hb : b ≠ 0) : abin P st .quo t y z = some ⟨True, lit (.int k (k.wrap (a.tdiv b))), []⟩ := by
  have e1 : Go.binOp .quo t (.int k a) (.int k b) = pure (.int k (k.wrap (a.tdiv b))) := by simp [Go.binOp, Op.intDiv, hb]
  unfold abin
  rw [hy, hz]
  simp only [e1]
  rfl
theorem elsBytes_size (els : List (List PV)) : (elsBytes els).size = els.length := by
  unfold elsBytes; show (els.map byteOf).toArray.size = _; simp
theorem isByte_mk {k : Int} : isByte [.lit (.int .u8 k)] := ⟨k, rfl⟩
theorem abin_shr {P : Program} {st : St} {t : TypeId} {y z : Operand} {k k2 : IntKind} {a b : Int} (hy : ev st y = some (lit (.int k a))) (hz : ev st z = some (lit (.int k2 b))) (hb : 0 ≤ b) : abin P st .shr t y z = some ⟨True, lit (.int k (a.fdiv (2 ^ min b.toNat k.bits))), []⟩ := by
  have e1 : Go.binOp .shr t (.int k a) (.int k2 b) = pure (.int k (a.fdiv (2 ^ min b.toNat k.bits))) := by
    have : ¬ b < 0 := by omega
    simp [Go.binOp, Op.shift, this]
  unfold abin
  rw [hy, hz]
  simp only [e1]
  rfl
theorem abin_shl {P : Program} {st : St} {t : TypeId} {y z : Operand} {k k2 : IntKind} {a b : Int} (hy : ev st y = some (lit (.int k a))) (hz : ev st z = some (lit (.int k2 b))) (hb : 0 ≤ b) : abin P st .shl t y z = some ⟨True, lit (.int k (k.wrap (a * 2 ^ min b.toNat k.bits))), []⟩ := by
  have e1 : Go.binOp .shl t (.int k a) (.int k2 b) = pure (.int k (k.wrap (a * 2 ^ min b.toNat k.bits))) := by
    have : ¬ b < 0 := by omega
    simp [Go.binOp, Op.shift, this]
  unfold abin
  rw [hy, hz]
  simp only [e1]
  rfl
end Go.Abs
