import Derived.Test.YtilogdijodgcgaaDoorGBase
set_option linter.unusedSimpArgs false
set_option linter.unusedVariables false
namespace Go.Abs.E
open Go Go.Abs Go.Proofs Go.RowKit
attribute [local irreducible] IntKind.wrap
@[reducible] def vu (n : Int) : AV := lit (.int .u32 n)
def orU (a b : Int) : Int := IntKind.u32.wrap (((BitVec.ofInt IntKind.u32.bits a ||| BitVec.ofInt IntKind.u32.bits b).toNat : Nat) : Int)
def xorU (a b : Int) : Int := IntKind.u32.wrap (((BitVec.ofInt IntKind.u32.bits a ^^^ BitVec.ofInt IntKind.u32.bits b).toNat : Nat) : Int)
def andU (a b : Int) : Int := IntKind.u32.wrap (((BitVec.ofInt IntKind.u32.bits a &&& BitVec.ofInt IntKind.u32.bits b).toNat : Nat) : Int)
def addU (a b : Int) : Int := IntKind.u32.wrap (a + b)
def notU (a : Int) : Int := xorU IntKind.u32.max a
def shrU (a k : Int) : Int := a.fdiv (2 ^ min k.toNat IntKind.u32.bits)
def shlU (a k : Int) : Int := IntKind.u32.wrap (a * 2 ^ min k.toNat IntKind.u32.bits)
def rot (x k : Int) : Int := orU (shrU x k) (shlU x (32 - k))
set_option maxHeartbeats 16000000 in
set_option maxRecDepth 100000 in
theorem rolled_ok (x k : Int) (h0 : 0 ≤ k) (h1 : k ≤ 32) : Good Tryd.prog 67 [vu x, vint k] [] (vu (rot x k)) [] := by
  have hw : IntKind.i64.wrap (32 - k) = 32 - k := wrap_in _ (by omega) (by omega)
  refine good_e noM Tryd.func67 rfl rfl ?_
  conv => whnf
  refine VDraw.goR [0, 0, 3, 0, 0, 16, 56, 127, 255] [] [] [] rfl (by decide +kernel) ?_
  conv => whnf
  rw [abin_shr (a := _) (b := _) rfl rfl h0]
  conv => whnf
  rw [hw]
  rw [abin_shl (a := _) (b := _) rfl rfl (by omega)]
  conv => whnf
  refine ⟨trivial, ?_⟩
  conv => whnf
  exact ⟨rfl, rfl⟩
set_option maxHeartbeats 16000000 in
set_option maxRecDepth 100000 in
theorem turn_ok (x k : Int) (h0 : 0 ≤ k) (h1 : k ≤ 32) : Good Tryd.prog 83 [vu x, vint k] [] (vu (rot x k)) [] := by
  have hw : IntKind.i64.wrap (32 - k) = 32 - k := wrap_in _ (by omega) (by omega)
  refine good_e noM Tryd.func83 rfl rfl ?_
  conv => whnf
  refine VDraw.goR [0, 0, 3, 0, 0, 16, 56, 127, 255] [] [] [] rfl (by decide +kernel) ?_
  conv => whnf
  rw [abin_shr (a := _) (b := _) rfl rfl h0]
  conv => whnf
  rw [hw]
  rw [abin_shl (a := _) (b := _) rfl rfl (by omega)]
  conv => whnf
  refine ⟨trivial, ?_⟩
  conv => whnf
  exact ⟨rfl, rfl⟩
theorem addU_assoc (a b c : Int) : addU (addU a b) c = addU a (addU b c) := by
  unfold addU
  simp only [IntKind.wrap, IntKind.bits, IntKind.signed]
  simp
  omega
theorem addU_comm (a b : Int) : addU a b = addU b a := by unfold addU; rw [Int.add_comm]
end Go.Abs.E
