-- Written by a program of this session over the print's form. Lean checks it.
import Derived.Test.YtdigjaphfpfbaaaProg
import Derived.Below
import Derived.Deep.Draws
import Derived.Deep.AppendLies
import Derived.Maps.AppendAt
import Derived.OwnWalk
import Derived.Laws.BytesArg
import Derived.Laws.MakeOwn
import Derived.Laws.OwnMore
import Derived.Deep.OwnRows
import Derived.Tactics
import Derived.Lib.ConvBytes
import Derived.Laws.Slices
import Derived.WalkKit
import Derived.KernelRfl
import Derived.RowKit3
import Derived.Deep.LoopGhost
import Derived.Deep.QuietTactic
import Derived.BigQuiet
import Derived.WideLaws
import Derived.Deep.DeepCutAuto
import Derived.Deep.CutBlock
import Derived.Deep.RegionHeld3
import Derived.Laws.Rows
import Derived.Lib.AppendStr
import Derived.ArgAppend
import Derived.Laws.IdiomCopy
import Derived.OrdersHeld
import Derived.Laws.BitsLemmas
import Derived.RowKit
import Derived.Test.YtdigjaphfpfbaaaWWords
import Derived.Test.YtdigjaphfpfbaaaWLast
import Derived.Test.YtdigjaphfpfbaaaWTab
import Derived.Test.YtdigjaphfpfbaaaWFour
import Derived.Test.YtdigjaphfpfbaaaWQPut
import Derived.Test.YtdigjaphfpfbaaaWApart
import Derived.Test.YtdigjaphfpfbaaaWArr
import Derived.Test.YtdigjaphfpfbaaaWZeros
import Derived.Test.YtdigjaphfpfbaaaWFoot
import Derived.Test.YtdigjaphfpfbaaaWKept
import Derived.Test.YtdigjaphfpfbaaaWShare
import Derived.Test.YtdigjaphfpfbaaaWN
import Derived.Test.YtdigjaphfpfbaaaWFootNe
import Derived.Test.YtdigjaphfpfbaaaWAt
import Derived.Test.YtdigjaphfpfbaaaWEqStruct
import Derived.Test.YtdigjaphfpfbaaaWRepsOne
import Derived.Test.YtdigjaphfpfbaaaWInv
import Derived.Test.YtdigjaphfpfbaaaWInvWords
import Derived.Test.YtdigjaphfpfbaaaWGuard
import Derived.Test.YtdigjaphfpfbaaaWNEv
import Derived.Test.YtdigjaphfpfbaaaWMore
namespace Go.Proofs.Ytdigjaphfpfbaaa.PFnExactWordOk
open Go.RowKit Go.Proofs.YtdigjaphfpfbaaaW.PrintWords Go.Proofs.YtdigjaphfpfbaaaW.PrintLast Go.Proofs.YtdigjaphfpfbaaaW.PrintMore
attribute [local go_sem] max2_int min2_int max_two min_two max_three min_three max_four min_four   -- for this text's walks alone
set_option linter.unusedVariables false
set_option linter.unusedSimpArgs false



def errW : Option Int → Value
  | none => .nilIface
  | some c => .iface 0 (.int .i64 c)
theorem emp1 (l : List UInt8) : (!(l != [])) = l.isEmpty := by cases l <;> rfl
theorem emp2 (l : List UInt8) : (l == []) = l.isEmpty := by cases l <;> rfl
theorem emp3 (l : List UInt8) : (l != []) = !l.isEmpty := by cases l <;> rfl
theorem errW_none : errW none = .nilIface := rfl
theorem errW_some (c : Int) : errW (some c) = .iface 0 (.int .i64 c) := rfl

-- the values' own types

end Go.Proofs.Ytdigjaphfpfbaaa.PFnExactWordOk
