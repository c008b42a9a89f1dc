-- Written by a program of this session over the print's form. Lean checks it.
import Derived.Test.YtbpmfdpbgcpjeaaDoorProg
import Derived.Below
import Derived.Deep.Draws
import Derived.Deep.AppendLies
import Derived.Maps.AppendAt
import Derived.OwnWalk
import Derived.Laws.BytesArg
import Derived.Laws.MakeOwn
import Derived.Laws.OwnMore
import Derived.Deep.OwnRows
import Derived.Tactics
import Derived.Lib.ConvBytes
import Derived.Laws.Slices
import Derived.WalkKit
import Derived.KernelRfl
import Derived.RowKit3
import Derived.Deep.LoopGhost
import Derived.Deep.QuietTactic
import Derived.BigQuiet
import Derived.WideLaws
import Derived.Deep.DeepCutAuto
import Derived.Deep.CutBlock
import Derived.Deep.RegionHeld3
import Derived.Laws.Rows
import Derived.Lib.AppendStr
import Derived.ArgAppend
import Derived.Laws.IdiomCopy
import Derived.OrdersHeld
import Derived.Laws.BitsLemmas
import Derived.RowKit
import Derived.Shelf.Abstract
import Derived.Lib.SliceRun
import Derived.Test.YtbpmfdpbgcpjeaaDoorWWords
import Derived.Test.YtbpmfdpbgcpjeaaDoorWLast
import Derived.Test.YtbpmfdpbgcpjeaaDoorWTab
import Derived.Test.YtbpmfdpbgcpjeaaDoorWFour
import Derived.Test.YtbpmfdpbgcpjeaaDoorWQPut
import Derived.Test.YtbpmfdpbgcpjeaaDoorWApart
import Derived.Test.YtbpmfdpbgcpjeaaDoorWArr
import Derived.Test.YtbpmfdpbgcpjeaaDoorWZeros
import Derived.Test.YtbpmfdpbgcpjeaaDoorWFoot
import Derived.Test.YtbpmfdpbgcpjeaaDoorWKept
import Derived.Test.YtbpmfdpbgcpjeaaDoorWShare
import Derived.Test.YtbpmfdpbgcpjeaaDoorWN
import Derived.Test.YtbpmfdpbgcpjeaaDoorWFootNe
import Derived.Test.YtbpmfdpbgcpjeaaDoorWAt
import Derived.Test.YtbpmfdpbgcpjeaaDoorWEqStruct
import Derived.Test.YtbpmfdpbgcpjeaaDoorWRepsOne
import Derived.Test.YtbpmfdpbgcpjeaaDoorWInv
import Derived.Test.YtbpmfdpbgcpjeaaDoorWInvWords
import Derived.Test.YtbpmfdpbgcpjeaaDoorWGuard
import Derived.Test.YtbpmfdpbgcpjeaaDoorWNEv
import Derived.Test.YtbpmfdpbgcpjeaaDoorWMore
namespace Go.Proofs.YtbpmfdpbgcpjeaaDoor.PFnExactCatRecord
open Go.RowKit Go.Proofs.YtbpmfdpbgcpjeaaDoorW.PrintWords Go.Proofs.YtbpmfdpbgcpjeaaDoorW.PrintLast Go.Proofs.YtbpmfdpbgcpjeaaDoorW.PrintMore
attribute [local go_sem] max2_int min2_int max_two min_two max_three min_three max_four min_four   -- for this text's walks alone
set_option linter.unusedVariables false
set_option linter.unusedSimpArgs false



def errW : Option Int → Value
 | none => .nilIface
 | some c => .iface 0 (.int .i64 c)
theorem emp1 (l : List UInt8) : (!(l != [])) = l.isEmpty := by cases l <;> rfl
theorem emp2 (l : List UInt8) : (l == []) = l.isEmpty := by cases l <;> rfl
theorem emp3 (l : List UInt8) : (l != []) = !l.isEmpty := by cases l <;> rfl
theorem errW_none : errW none = .nilIface := rfl
theorem errW_some (c : Int) : errW (some c) = .iface 0 (.int .i64 c) := rfl

theorem info5 : (Tryd.prog.info? 5).map (fun i => (i.zero, i.size, i.bytes)) = some (some (.int .u8 0), 1, 1) := by kernel_rfl
-- the values' own types

theorem gtr_bytes : ∀ x y : List UInt8, (!(Op.bytesLess x y || x == y)) = Op.bytesLess y x
 | [], [] => by simp [Op.bytesLess]
 | _ :: _, [] => by simp [Op.bytesLess]
 | [], _ :: _ => by simp [Op.bytesLess]
 | a :: x, b :: y => by
  have ih := gtr_bytes x y
  simp only [Op.bytesLess, List.cons_beq_cons]
  by_cases h1 : a < b
  ·have h2 : ¬ b < a := fun h => UInt8.lt_asymm h1 h
   have h3 : ¬ b = a := fun h => UInt8.lt_irrefl _ (h ▸ h1)
   simp [h1, h2, h3]
  ·by_cases h2 : b < a
   ·have h3 : ¬ a = b := fun h => UInt8.lt_irrefl _ (h ▸ h2)
    simp [h1, h2, h3]
   ·have h3 : a = b:=UInt8.le_antisymm (UInt8.not_lt.mp h2) (UInt8.not_lt.mp h1)
    subst h3
    simpa [h1] using ih
theorem gtr_eq (t : TypeId) (a b : ByteArray) : binOp .gtr t (.string a) (.string b) = pure (.bool !(Op.bytesLess a.toList b.toList || a.toList == b.toList)) := by simp [binOp, Op.stringOp]
theorem gtr_run (P : Program) (t : TypeId) (a b : ByteArray) (w : World) : Sem.run P (binOp .gtr t (.string a) (.string b)) w = .ok (.bool (Op.bytesLess b.toList a.toList)) w := by
 rw [gtr_eq, gtr_bytes]
 rfl

end Go.Proofs.YtbpmfdpbgcpjeaaDoor.PFnExactCatRecord
