/-
  No cell of these rows narrows 'for every input' (looked for: loops, veiled, ifaces, maps, wideKeys, modest, calm, conditions, laid).
  DERIVED. THE GIVEN ROWS OF THIS SEAT. 12 by the template 'for every input the law returns true; each argument reads behind the call as it read before'; 0 by the template 'total and deterministic' (their statements: YtdigjaphfpfbaaaTotals.lean).
  GIVEN WITH THE SEED: the statements are not yours to turn. If you find one false, say at which input.
  Laid BY PROGRAM, IN A SANDBOX (cutbox-rows.mjs): the forced cells as the released guide's own fill.sh prints them over the translation 19a81083805468df… (all of the seat's roots in one cut). By AI agents, Wed Nov 11 2026. No macro, syntax, notation, axiom, sorry.
-/
import Derived.Test.YtdigjaphfpfbaaaChecked
import GoSem.Claim
import GoSem.ClaimJoined
import GoSem.ClaimMapViews
import Derived.JoinedTies
import Derived.KernelRfl
namespace Go.Proofs.Ytdigjaphfpfbaaa
/- THE CELL 'sum', in the pinned program and in every row, IS THE sha256 OF THE DUMP (.gsa) THAT YtdigjaphfpfbaaaProg.lean LOADS. Nothing in Lean hashes anything: it is a label: what it is worth is what the hold of that sum in a sandbox is worth. -/
noncomputable def Try.pinned : Pinned := { name := "ytdigjaphfpfbaaa", sum := "19a81083805468df1fbebb442c10ffb5d9381b4035ea69e7ed2d542f799c04d0", checked := Try.checked }
namespace Rows
def none {H : Type} : Left H := { results := [], args := [] }

/-- 'laws.FnExactBucketOk': WHATEVER THE INPUT: true; the input reads as it did. -/
def fnExactBucketOkSpec : ChangeSpec := { name := "fnExactBucketOk", fn := fun _ => fun
  | [d] => { results := [.lit (.bool true)], args := [d] }
  | _ => none }
def fnExactBucketOkRow : OpenClaim := { program := "ytdigjaphfpfbaaa", sum := "19a81083805468df1fbebb442c10ffb5d9381b4035ea69e7ed2d542f799c04d0", func := "loop.example/wellhead/laws.FnExactBucketOk", spec := "fnExactBucketOk", apart := false }
def FnExactBucketOkSaid : Prop := fnExactBucketOkRow.holds Try.pinned (OpenSpec.ofChange fnExactBucketOkSpec)

/-- ITS FALSE NEIGHBOUR: 'it returns false'. Refute it at one input. -/
def fnExactBucketOkWrong : ChangeSpec := { name := "fnExactBucketOk", fn := fun _ => fun
  | [d] => { results := [.lit (.bool false)], args := [d] }
  | _ => none }
def FnExactBucketOkWrongFalsely : Prop := fnExactBucketOkRow.holds Try.pinned (OpenSpec.ofChange fnExactBucketOkWrong)

/-- 'laws.FnExactNameOk': WHATEVER THE INPUT: true; the input reads as it did. -/
def fnExactNameOkSpec : ChangeSpec := { name := "fnExactNameOk", fn := fun _ => fun
  | [d] => { results := [.lit (.bool true)], args := [d] }
  | _ => none }
def fnExactNameOkRow : OpenClaim := { program := "ytdigjaphfpfbaaa", sum := "19a81083805468df1fbebb442c10ffb5d9381b4035ea69e7ed2d542f799c04d0", func := "loop.example/wellhead/laws.FnExactNameOk", spec := "fnExactNameOk", apart := false }
def FnExactNameOkSaid : Prop := fnExactNameOkRow.holds Try.pinned (OpenSpec.ofChange fnExactNameOkSpec)

/-- ITS FALSE NEIGHBOUR: 'it returns false'. Refute it at one input. -/
def fnExactNameOkWrong : ChangeSpec := { name := "fnExactNameOk", fn := fun _ => fun
  | [d] => { results := [.lit (.bool false)], args := [d] }
  | _ => none }
def FnExactNameOkWrongFalsely : Prop := fnExactNameOkRow.holds Try.pinned (OpenSpec.ofChange fnExactNameOkWrong)

/-- 'laws.FnNameOk': WHATEVER THE INPUT: true; the input reads as it did. -/
def fnNameOkSpec : ChangeSpec := { name := "fnNameOk", fn := fun _ => fun
  | [d] => { results := [.lit (.bool true)], args := [d] }
  | _ => none }
def fnNameOkRow : OpenClaim := { program := "ytdigjaphfpfbaaa", sum := "19a81083805468df1fbebb442c10ffb5d9381b4035ea69e7ed2d542f799c04d0", func := "loop.example/wellhead/laws.FnNameOk", spec := "fnNameOk", apart := false }
def FnNameOkSaid : Prop := fnNameOkRow.holds Try.pinned (OpenSpec.ofChange fnNameOkSpec)

/-- ITS FALSE NEIGHBOUR: 'it returns false'. Refute it at one input. -/
def fnNameOkWrong : ChangeSpec := { name := "fnNameOk", fn := fun _ => fun
  | [d] => { results := [.lit (.bool false)], args := [d] }
  | _ => none }
def FnNameOkWrongFalsely : Prop := fnNameOkRow.holds Try.pinned (OpenSpec.ofChange fnNameOkWrong)

/-- 'laws.FnJobNext': WHATEVER THE INPUT: true; the input reads as it did. -/
def fnJobNextSpec : ChangeSpec := { name := "fnJobNext", fn := fun _ => fun
  | [d] => { results := [.lit (.bool true)], args := [d] }
  | _ => none }
def fnJobNextRow : OpenClaim := { program := "ytdigjaphfpfbaaa", sum := "19a81083805468df1fbebb442c10ffb5d9381b4035ea69e7ed2d542f799c04d0", func := "loop.example/wellhead/laws.FnJobNext", spec := "fnJobNext", apart := false }
def FnJobNextSaid : Prop := fnJobNextRow.holds Try.pinned (OpenSpec.ofChange fnJobNextSpec)

/-- ITS FALSE NEIGHBOUR: 'it returns false'. Refute it at one input. -/
def fnJobNextWrong : ChangeSpec := { name := "fnJobNext", fn := fun _ => fun
  | [d] => { results := [.lit (.bool false)], args := [d] }
  | _ => none }
def FnJobNextWrongFalsely : Prop := fnJobNextRow.holds Try.pinned (OpenSpec.ofChange fnJobNextWrong)

/-- 'laws.FnExactBucketAt': WHATEVER THE INPUT: true; the input reads as it did. -/
def fnExactBucketAtSpec : ChangeSpec := { name := "fnExactBucketAt", fn := fun _ => fun
  | [d1, d2] => { results := [.lit (.bool true)], args := [d1, d2] }
  | _ => none }
def fnExactBucketAtRow : OpenClaim := { program := "ytdigjaphfpfbaaa", sum := "19a81083805468df1fbebb442c10ffb5d9381b4035ea69e7ed2d542f799c04d0", func := "loop.example/wellhead/laws.FnExactBucketAt", spec := "fnExactBucketAt", apart := false }
def FnExactBucketAtSaid : Prop := fnExactBucketAtRow.holds Try.pinned (OpenSpec.ofChange fnExactBucketAtSpec)

/-- ITS FALSE NEIGHBOUR: 'it returns false'. Refute it at one input. -/
def fnExactBucketAtWrong : ChangeSpec := { name := "fnExactBucketAt", fn := fun _ => fun
  | [d1, d2] => { results := [.lit (.bool false)], args := [d1, d2] }
  | _ => none }
def FnExactBucketAtWrongFalsely : Prop := fnExactBucketAtRow.holds Try.pinned (OpenSpec.ofChange fnExactBucketAtWrong)

/-- 'laws.FnExactBucketWait': WHATEVER THE INPUT: true; the input reads as it did. -/
def fnExactBucketWaitSpec : ChangeSpec := { name := "fnExactBucketWait", fn := fun _ => fun
  | [d1, d2, d3] => { results := [.lit (.bool true)], args := [d1, d2, d3] }
  | _ => none }
def fnExactBucketWaitRow : OpenClaim := { program := "ytdigjaphfpfbaaa", sum := "19a81083805468df1fbebb442c10ffb5d9381b4035ea69e7ed2d542f799c04d0", func := "loop.example/wellhead/laws.FnExactBucketWait", spec := "fnExactBucketWait", apart := false }
def FnExactBucketWaitSaid : Prop := fnExactBucketWaitRow.holds Try.pinned (OpenSpec.ofChange fnExactBucketWaitSpec)

/-- ITS FALSE NEIGHBOUR: 'it returns false'. Refute it at one input. -/
def fnExactBucketWaitWrong : ChangeSpec := { name := "fnExactBucketWait", fn := fun _ => fun
  | [d1, d2, d3] => { results := [.lit (.bool false)], args := [d1, d2, d3] }
  | _ => none }
def FnExactBucketWaitWrongFalsely : Prop := fnExactBucketWaitRow.holds Try.pinned (OpenSpec.ofChange fnExactBucketWaitWrong)

/-- 'laws.FnExactJobNext': WHATEVER THE INPUT: true; the input reads as it did. -/
def fnExactJobNextSpec : ChangeSpec := { name := "fnExactJobNext", fn := fun _ => fun
  | [d1, d2] => { results := [.lit (.bool true)], args := [d1, d2] }
  | _ => none }
def fnExactJobNextRow : OpenClaim := { program := "ytdigjaphfpfbaaa", sum := "19a81083805468df1fbebb442c10ffb5d9381b4035ea69e7ed2d542f799c04d0", func := "loop.example/wellhead/laws.FnExactJobNext", spec := "fnExactJobNext", apart := false }
def FnExactJobNextSaid : Prop := fnExactJobNextRow.holds Try.pinned (OpenSpec.ofChange fnExactJobNextSpec)

/-- ITS FALSE NEIGHBOUR: 'it returns false'. Refute it at one input. -/
def fnExactJobNextWrong : ChangeSpec := { name := "fnExactJobNext", fn := fun _ => fun
  | [d1, d2] => { results := [.lit (.bool false)], args := [d1, d2] }
  | _ => none }
def FnExactJobNextWrongFalsely : Prop := fnExactJobNextRow.holds Try.pinned (OpenSpec.ofChange fnExactJobNextWrong)

/-- 'laws.FnExactBucketTake': WHATEVER THE INPUT: true; the input reads as it did. -/
def fnExactBucketTakeSpec : ChangeSpec := { name := "fnExactBucketTake", fn := fun _ => fun
  | [d1, d2, d3] => { results := [.lit (.bool true)], args := [d1, d2, d3] }
  | _ => none }
def fnExactBucketTakeRow : OpenClaim := { program := "ytdigjaphfpfbaaa", sum := "19a81083805468df1fbebb442c10ffb5d9381b4035ea69e7ed2d542f799c04d0", func := "loop.example/wellhead/laws.FnExactBucketTake", spec := "fnExactBucketTake", apart := false }
def FnExactBucketTakeSaid : Prop := fnExactBucketTakeRow.holds Try.pinned (OpenSpec.ofChange fnExactBucketTakeSpec)

/-- ITS FALSE NEIGHBOUR: 'it returns false'. Refute it at one input. -/
def fnExactBucketTakeWrong : ChangeSpec := { name := "fnExactBucketTake", fn := fun _ => fun
  | [d1, d2, d3] => { results := [.lit (.bool false)], args := [d1, d2, d3] }
  | _ => none }
def FnExactBucketTakeWrongFalsely : Prop := fnExactBucketTakeRow.holds Try.pinned (OpenSpec.ofChange fnExactBucketTakeWrong)

/-- 'laws.FnBucketAt': WHATEVER THE INPUT: true; the input reads as it did. -/
def fnBucketAtSpec : ChangeSpec := { name := "fnBucketAt", fn := fun _ => fun
  | [d1, d2] => { results := [.lit (.bool true)], args := [d1, d2] }
  | _ => none }
def fnBucketAtRow : OpenClaim := { program := "ytdigjaphfpfbaaa", sum := "19a81083805468df1fbebb442c10ffb5d9381b4035ea69e7ed2d542f799c04d0", func := "loop.example/wellhead/laws.FnBucketAt", spec := "fnBucketAt", apart := false }
def FnBucketAtSaid : Prop := fnBucketAtRow.holds Try.pinned (OpenSpec.ofChange fnBucketAtSpec)

/-- ITS FALSE NEIGHBOUR: 'it returns false'. Refute it at one input. -/
def fnBucketAtWrong : ChangeSpec := { name := "fnBucketAt", fn := fun _ => fun
  | [d1, d2] => { results := [.lit (.bool false)], args := [d1, d2] }
  | _ => none }
def FnBucketAtWrongFalsely : Prop := fnBucketAtRow.holds Try.pinned (OpenSpec.ofChange fnBucketAtWrong)

/-- 'laws.FnExactWordOk': WHATEVER THE INPUT: true; the input reads as it did. -/
def fnExactWordOkSpec : ChangeSpec := { name := "fnExactWordOk", fn := fun _ => fun
  | [d] => { results := [.lit (.bool true)], args := [d] }
  | _ => none }
def fnExactWordOkRow : OpenClaim := { program := "ytdigjaphfpfbaaa", sum := "19a81083805468df1fbebb442c10ffb5d9381b4035ea69e7ed2d542f799c04d0", func := "loop.example/wellhead/laws.FnExactWordOk", spec := "fnExactWordOk", apart := false }
def FnExactWordOkSaid : Prop := fnExactWordOkRow.holds Try.pinned (OpenSpec.ofChange fnExactWordOkSpec)

/-- ITS FALSE NEIGHBOUR: 'it returns false'. Refute it at one input. -/
def fnExactWordOkWrong : ChangeSpec := { name := "fnExactWordOk", fn := fun _ => fun
  | [d] => { results := [.lit (.bool false)], args := [d] }
  | _ => none }
def FnExactWordOkWrongFalsely : Prop := fnExactWordOkRow.holds Try.pinned (OpenSpec.ofChange fnExactWordOkWrong)

/-- 'laws.FnBucketTake': WHATEVER THE INPUT: true; the input reads as it did. -/
def fnBucketTakeSpec : ChangeSpec := { name := "fnBucketTake", fn := fun _ => fun
  | [d] => { results := [.lit (.bool true)], args := [d] }
  | _ => none }
def fnBucketTakeRow : OpenClaim := { program := "ytdigjaphfpfbaaa", sum := "19a81083805468df1fbebb442c10ffb5d9381b4035ea69e7ed2d542f799c04d0", func := "loop.example/wellhead/laws.FnBucketTake", spec := "fnBucketTake", apart := false }
def FnBucketTakeSaid : Prop := fnBucketTakeRow.holds Try.pinned (OpenSpec.ofChange fnBucketTakeSpec)

/-- ITS FALSE NEIGHBOUR: 'it returns false'. Refute it at one input. -/
def fnBucketTakeWrong : ChangeSpec := { name := "fnBucketTake", fn := fun _ => fun
  | [d] => { results := [.lit (.bool false)], args := [d] }
  | _ => none }
def FnBucketTakeWrongFalsely : Prop := fnBucketTakeRow.holds Try.pinned (OpenSpec.ofChange fnBucketTakeWrong)

/-- 'laws.FnBucketWait': WHATEVER THE INPUT: true; the input reads as it did. -/
def fnBucketWaitSpec : ChangeSpec := { name := "fnBucketWait", fn := fun _ => fun
  | [d] => { results := [.lit (.bool true)], args := [d] }
  | _ => none }
def fnBucketWaitRow : OpenClaim := { program := "ytdigjaphfpfbaaa", sum := "19a81083805468df1fbebb442c10ffb5d9381b4035ea69e7ed2d542f799c04d0", func := "loop.example/wellhead/laws.FnBucketWait", spec := "fnBucketWait", apart := false }
def FnBucketWaitSaid : Prop := fnBucketWaitRow.holds Try.pinned (OpenSpec.ofChange fnBucketWaitSpec)

/-- ITS FALSE NEIGHBOUR: 'it returns false'. Refute it at one input. -/
def fnBucketWaitWrong : ChangeSpec := { name := "fnBucketWait", fn := fun _ => fun
  | [d] => { results := [.lit (.bool false)], args := [d] }
  | _ => none }
def FnBucketWaitWrongFalsely : Prop := fnBucketWaitRow.holds Try.pinned (OpenSpec.ofChange fnBucketWaitWrong)

/- THE SECOND FORM. 'bulk': how many values and letters a reading holds, each counted each time it is reached (what is shared counts as often as it is met; a slice's spare places count too). A statement '..UptoSaid' is the law's where the arguments, and the package variables that the reading takes, are together of bulk at most 1048576: NARROWER than '..Said'. Prove '..Said' where nothing that the law and all that it calls make is longer than what came in: it says more and counts as full. Else prove '..UptoSaid'. A law counts once. -/
mutual
def uptoBulk {H : Type} : DataW H → Nat
  | .lit (.string bytes) => bytes.length + 1
  | .lit _ => 1
  | .nil => 1
  | .ptr d => uptoBulk d + 1
  | .slice elems spare => uptoBulkAll elems + uptoBulkAll spare + 1
  | .agg parts => uptoBulkAll parts + 1
  | .iface _ d => uptoBulk d + 1
  | .map entries => uptoBulkEntries entries + 1
  | .held _ => 1
def uptoBulkAll {H : Type} : List (DataW H) → Nat
  | [] => 0
  | d :: r => uptoBulk d + uptoBulkAll r
def uptoBulkEntries {H : Type} : List (Lit × DataW H) → Nat
  | [] => 0
  | x :: r => uptoBulkEntry x + uptoBulkEntries r
def uptoBulkEntry {H : Type} : Lit × DataW H → Nat
  | (.string bytes, d) => bytes.length + uptoBulk d + 1
  | (_, d) => uptoBulk d + 1
 end
def uptoSmall : (H : Type) → List (DataW H) → Bool := fun _ ds => decide (uptoBulkAll ds ≤ 1048576)
def OpenSpec.upto (s : _root_.Go.ChangeSpec) : _root_.Go.OpenSpec := { _root_.Go.OpenSpec.ofChange s with cond := some uptoSmall }

/-- 'laws.FnExactBucketOk', WHERE WHAT IT READS IS OF BULK AT MOST 1048576: true; the input reads as it did. -/
def fnExactBucketOkUptoRow : OpenClaim := { program := "ytdigjaphfpfbaaa", sum := "19a81083805468df1fbebb442c10ffb5d9381b4035ea69e7ed2d542f799c04d0", func := "loop.example/wellhead/laws.FnExactBucketOk", spec := "fnExactBucketOk", apart := false, narrowed := true }
def FnExactBucketOkUptoSaid : Prop := fnExactBucketOkUptoRow.holds Try.pinned (OpenSpec.upto fnExactBucketOkSpec)

/-- 'laws.FnExactNameOk', WHERE WHAT IT READS IS OF BULK AT MOST 1048576: true; the input reads as it did. -/
def fnExactNameOkUptoRow : OpenClaim := { program := "ytdigjaphfpfbaaa", sum := "19a81083805468df1fbebb442c10ffb5d9381b4035ea69e7ed2d542f799c04d0", func := "loop.example/wellhead/laws.FnExactNameOk", spec := "fnExactNameOk", apart := false, narrowed := true }
def FnExactNameOkUptoSaid : Prop := fnExactNameOkUptoRow.holds Try.pinned (OpenSpec.upto fnExactNameOkSpec)

/-- 'laws.FnNameOk', WHERE WHAT IT READS IS OF BULK AT MOST 1048576: true; the input reads as it did. -/
def fnNameOkUptoRow : OpenClaim := { program := "ytdigjaphfpfbaaa", sum := "19a81083805468df1fbebb442c10ffb5d9381b4035ea69e7ed2d542f799c04d0", func := "loop.example/wellhead/laws.FnNameOk", spec := "fnNameOk", apart := false, narrowed := true }
def FnNameOkUptoSaid : Prop := fnNameOkUptoRow.holds Try.pinned (OpenSpec.upto fnNameOkSpec)

/-- 'laws.FnJobNext', WHERE WHAT IT READS IS OF BULK AT MOST 1048576: true; the input reads as it did. -/
def fnJobNextUptoRow : OpenClaim := { program := "ytdigjaphfpfbaaa", sum := "19a81083805468df1fbebb442c10ffb5d9381b4035ea69e7ed2d542f799c04d0", func := "loop.example/wellhead/laws.FnJobNext", spec := "fnJobNext", apart := false, narrowed := true }
def FnJobNextUptoSaid : Prop := fnJobNextUptoRow.holds Try.pinned (OpenSpec.upto fnJobNextSpec)

/-- 'laws.FnExactBucketAt', WHERE WHAT IT READS IS OF BULK AT MOST 1048576: true; the input reads as it did. -/
def fnExactBucketAtUptoRow : OpenClaim := { program := "ytdigjaphfpfbaaa", sum := "19a81083805468df1fbebb442c10ffb5d9381b4035ea69e7ed2d542f799c04d0", func := "loop.example/wellhead/laws.FnExactBucketAt", spec := "fnExactBucketAt", apart := false, narrowed := true }
def FnExactBucketAtUptoSaid : Prop := fnExactBucketAtUptoRow.holds Try.pinned (OpenSpec.upto fnExactBucketAtSpec)

/-- 'laws.FnExactBucketWait', WHERE WHAT IT READS IS OF BULK AT MOST 1048576: true; the input reads as it did. -/
def fnExactBucketWaitUptoRow : OpenClaim := { program := "ytdigjaphfpfbaaa", sum := "19a81083805468df1fbebb442c10ffb5d9381b4035ea69e7ed2d542f799c04d0", func := "loop.example/wellhead/laws.FnExactBucketWait", spec := "fnExactBucketWait", apart := false, narrowed := true }
def FnExactBucketWaitUptoSaid : Prop := fnExactBucketWaitUptoRow.holds Try.pinned (OpenSpec.upto fnExactBucketWaitSpec)

/-- 'laws.FnExactJobNext', WHERE WHAT IT READS IS OF BULK AT MOST 1048576: true; the input reads as it did. -/
def fnExactJobNextUptoRow : OpenClaim := { program := "ytdigjaphfpfbaaa", sum := "19a81083805468df1fbebb442c10ffb5d9381b4035ea69e7ed2d542f799c04d0", func := "loop.example/wellhead/laws.FnExactJobNext", spec := "fnExactJobNext", apart := false, narrowed := true }
def FnExactJobNextUptoSaid : Prop := fnExactJobNextUptoRow.holds Try.pinned (OpenSpec.upto fnExactJobNextSpec)

/-- 'laws.FnExactBucketTake', WHERE WHAT IT READS IS OF BULK AT MOST 1048576: true; the input reads as it did. -/
def fnExactBucketTakeUptoRow : OpenClaim := { program := "ytdigjaphfpfbaaa", sum := "19a81083805468df1fbebb442c10ffb5d9381b4035ea69e7ed2d542f799c04d0", func := "loop.example/wellhead/laws.FnExactBucketTake", spec := "fnExactBucketTake", apart := false, narrowed := true }
def FnExactBucketTakeUptoSaid : Prop := fnExactBucketTakeUptoRow.holds Try.pinned (OpenSpec.upto fnExactBucketTakeSpec)

/-- 'laws.FnBucketAt', WHERE WHAT IT READS IS OF BULK AT MOST 1048576: true; the input reads as it did. -/
def fnBucketAtUptoRow : OpenClaim := { program := "ytdigjaphfpfbaaa", sum := "19a81083805468df1fbebb442c10ffb5d9381b4035ea69e7ed2d542f799c04d0", func := "loop.example/wellhead/laws.FnBucketAt", spec := "fnBucketAt", apart := false, narrowed := true }
def FnBucketAtUptoSaid : Prop := fnBucketAtUptoRow.holds Try.pinned (OpenSpec.upto fnBucketAtSpec)

/-- 'laws.FnExactWordOk', WHERE WHAT IT READS IS OF BULK AT MOST 1048576: true; the input reads as it did. -/
def fnExactWordOkUptoRow : OpenClaim := { program := "ytdigjaphfpfbaaa", sum := "19a81083805468df1fbebb442c10ffb5d9381b4035ea69e7ed2d542f799c04d0", func := "loop.example/wellhead/laws.FnExactWordOk", spec := "fnExactWordOk", apart := false, narrowed := true }
def FnExactWordOkUptoSaid : Prop := fnExactWordOkUptoRow.holds Try.pinned (OpenSpec.upto fnExactWordOkSpec)

/-- 'laws.FnBucketTake', WHERE WHAT IT READS IS OF BULK AT MOST 1048576: true; the input reads as it did. -/
def fnBucketTakeUptoRow : OpenClaim := { program := "ytdigjaphfpfbaaa", sum := "19a81083805468df1fbebb442c10ffb5d9381b4035ea69e7ed2d542f799c04d0", func := "loop.example/wellhead/laws.FnBucketTake", spec := "fnBucketTake", apart := false, narrowed := true }
def FnBucketTakeUptoSaid : Prop := fnBucketTakeUptoRow.holds Try.pinned (OpenSpec.upto fnBucketTakeSpec)

/-- 'laws.FnBucketWait', WHERE WHAT IT READS IS OF BULK AT MOST 1048576: true; the input reads as it did. -/
def fnBucketWaitUptoRow : OpenClaim := { program := "ytdigjaphfpfbaaa", sum := "19a81083805468df1fbebb442c10ffb5d9381b4035ea69e7ed2d542f799c04d0", func := "loop.example/wellhead/laws.FnBucketWait", spec := "fnBucketWait", apart := false, narrowed := true }
def FnBucketWaitUptoSaid : Prop := fnBucketWaitUptoRow.holds Try.pinned (OpenSpec.upto fnBucketWaitSpec)

end Rows
end Go.Proofs.Ytdigjaphfpfbaaa
