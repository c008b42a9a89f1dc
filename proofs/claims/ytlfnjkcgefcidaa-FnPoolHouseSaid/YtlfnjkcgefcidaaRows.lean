/-
  No cell of these rows narrows 'for every input' (looked for: loops, veiled, ifaces, maps, wideKeys, modest, calm, conditions, laid).
  DERIVED. THE GIVEN ROWS OF THIS SEAT. 12 by the template 'for every input the law returns true; each argument reads behind the call as it read before'; 0 by the template 'total and deterministic' (their statements: YtlfnjkcgefcidaaTotals.lean).
  GIVEN WITH THE SEED: the statements are not yours to turn. If you find one false, say at which input.
  Laid BY PROGRAM, IN A SANDBOX (cutbox-rows.mjs): the forced cells as the released guide's own fill.sh prints them over the translation 1b1a9e21fe64a675… (all of the seat's roots in one cut). By AI agents, Wed Nov 11 2026. No macro, syntax, notation, axiom, sorry.
-/
import Derived.Test.YtlfnjkcgefcidaaChecked
import GoSem.Claim
import GoSem.ClaimJoined
import GoSem.ClaimMapViews
import Derived.JoinedTies
import Derived.KernelRfl
namespace Go.Proofs.Ytlfnjkcgefcidaa
/- THE CELL 'sum', in the pinned program and in every row, IS THE sha256 OF THE DUMP (.gsa) THAT YtlfnjkcgefcidaaProg.lean LOADS. Nothing in Lean hashes anything: it is a label: what it is worth is what the hold of that sum in a sandbox is worth. -/
noncomputable def Try.pinned : Pinned := { name := "ytlfnjkcgefcidaa", sum := "1b1a9e21fe64a6750d1d1414476edf0c0a1c6b2751f382a63dcd65e46035857e", checked := Try.checked }
namespace Rows
def none {H : Type} : Left H := { results := [], args := [] }

/-- 'laws.FnExactPoolOk': WHATEVER THE INPUT: true; the input reads as it did. -/
def fnExactPoolOkSpec : ChangeSpec := { name := "fnExactPoolOk", fn := fun _ => fun
  | [d] => { results := [.lit (.bool true)], args := [d] }
  | _ => none }
def fnExactPoolOkRow : OpenClaim := { program := "ytlfnjkcgefcidaa", sum := "1b1a9e21fe64a6750d1d1414476edf0c0a1c6b2751f382a63dcd65e46035857e", func := "loop.example/wellhead/laws.FnExactPoolOk", spec := "fnExactPoolOk", apart := false }
def FnExactPoolOkSaid : Prop := fnExactPoolOkRow.holds Try.pinned (OpenSpec.ofChange fnExactPoolOkSpec)

/-- ITS FALSE NEIGHBOUR: 'it returns false'. Refute it at one input. -/
def fnExactPoolOkWrong : ChangeSpec := { name := "fnExactPoolOk", fn := fun _ => fun
  | [d] => { results := [.lit (.bool false)], args := [d] }
  | _ => none }
def FnExactPoolOkWrongFalsely : Prop := fnExactPoolOkRow.holds Try.pinned (OpenSpec.ofChange fnExactPoolOkWrong)

/-- 'laws.FnExactPoolOf': WHATEVER THE INPUT: true; the input reads as it did. -/
def fnExactPoolOfSpec : ChangeSpec := { name := "fnExactPoolOf", fn := fun _ => fun
  | [d1, d2] => { results := [.lit (.bool true)], args := [d1, d2] }
  | _ => none }
def fnExactPoolOfRow : OpenClaim := { program := "ytlfnjkcgefcidaa", sum := "1b1a9e21fe64a6750d1d1414476edf0c0a1c6b2751f382a63dcd65e46035857e", func := "loop.example/wellhead/laws.FnExactPoolOf", spec := "fnExactPoolOf", apart := false }
def FnExactPoolOfSaid : Prop := fnExactPoolOfRow.holds Try.pinned (OpenSpec.ofChange fnExactPoolOfSpec)

/-- ITS FALSE NEIGHBOUR: 'it returns false'. Refute it at one input. -/
def fnExactPoolOfWrong : ChangeSpec := { name := "fnExactPoolOf", fn := fun _ => fun
  | [d1, d2] => { results := [.lit (.bool false)], args := [d1, d2] }
  | _ => none }
def FnExactPoolOfWrongFalsely : Prop := fnExactPoolOfRow.holds Try.pinned (OpenSpec.ofChange fnExactPoolOfWrong)

/-- 'laws.FnPoolLet': WHATEVER THE INPUT: true; the input reads as it did. -/
def fnPoolLetSpec : ChangeSpec := { name := "fnPoolLet", fn := fun _ => fun
  | [d] => { results := [.lit (.bool true)], args := [d] }
  | _ => none }
def fnPoolLetRow : OpenClaim := { program := "ytlfnjkcgefcidaa", sum := "1b1a9e21fe64a6750d1d1414476edf0c0a1c6b2751f382a63dcd65e46035857e", func := "loop.example/wellhead/laws.FnPoolLet", spec := "fnPoolLet", apart := false }
def FnPoolLetSaid : Prop := fnPoolLetRow.holds Try.pinned (OpenSpec.ofChange fnPoolLetSpec)

/-- ITS FALSE NEIGHBOUR: 'it returns false'. Refute it at one input. -/
def fnPoolLetWrong : ChangeSpec := { name := "fnPoolLet", fn := fun _ => fun
  | [d] => { results := [.lit (.bool false)], args := [d] }
  | _ => none }
def FnPoolLetWrongFalsely : Prop := fnPoolLetRow.holds Try.pinned (OpenSpec.ofChange fnPoolLetWrong)

/-- 'laws.FnExactPoolLet': WHATEVER THE INPUT: true; the input reads as it did. -/
def fnExactPoolLetSpec : ChangeSpec := { name := "fnExactPoolLet", fn := fun _ => fun
  | [d1, d2] => { results := [.lit (.bool true)], args := [d1, d2] }
  | _ => none }
def fnExactPoolLetRow : OpenClaim := { program := "ytlfnjkcgefcidaa", sum := "1b1a9e21fe64a6750d1d1414476edf0c0a1c6b2751f382a63dcd65e46035857e", func := "loop.example/wellhead/laws.FnExactPoolLet", spec := "fnExactPoolLet", apart := false }
def FnExactPoolLetSaid : Prop := fnExactPoolLetRow.holds Try.pinned (OpenSpec.ofChange fnExactPoolLetSpec)

/-- ITS FALSE NEIGHBOUR: 'it returns false'. Refute it at one input. -/
def fnExactPoolLetWrong : ChangeSpec := { name := "fnExactPoolLet", fn := fun _ => fun
  | [d1, d2] => { results := [.lit (.bool false)], args := [d1, d2] }
  | _ => none }
def FnExactPoolLetWrongFalsely : Prop := fnExactPoolLetRow.holds Try.pinned (OpenSpec.ofChange fnExactPoolLetWrong)

/-- 'laws.FnExactPoolDrop': WHATEVER THE INPUT: true; the input reads as it did. -/
def fnExactPoolDropSpec : ChangeSpec := { name := "fnExactPoolDrop", fn := fun _ => fun
  | [d1, d2] => { results := [.lit (.bool true)], args := [d1, d2] }
  | _ => none }
def fnExactPoolDropRow : OpenClaim := { program := "ytlfnjkcgefcidaa", sum := "1b1a9e21fe64a6750d1d1414476edf0c0a1c6b2751f382a63dcd65e46035857e", func := "loop.example/wellhead/laws.FnExactPoolDrop", spec := "fnExactPoolDrop", apart := false }
def FnExactPoolDropSaid : Prop := fnExactPoolDropRow.holds Try.pinned (OpenSpec.ofChange fnExactPoolDropSpec)

/-- ITS FALSE NEIGHBOUR: 'it returns false'. Refute it at one input. -/
def fnExactPoolDropWrong : ChangeSpec := { name := "fnExactPoolDrop", fn := fun _ => fun
  | [d1, d2] => { results := [.lit (.bool false)], args := [d1, d2] }
  | _ => none }
def FnExactPoolDropWrongFalsely : Prop := fnExactPoolDropRow.holds Try.pinned (OpenSpec.ofChange fnExactPoolDropWrong)

/-- 'laws.FnPoolDrop': WHATEVER THE INPUT: true; the input reads as it did. -/
def fnPoolDropSpec : ChangeSpec := { name := "fnPoolDrop", fn := fun _ => fun
  | [d] => { results := [.lit (.bool true)], args := [d] }
  | _ => none }
def fnPoolDropRow : OpenClaim := { program := "ytlfnjkcgefcidaa", sum := "1b1a9e21fe64a6750d1d1414476edf0c0a1c6b2751f382a63dcd65e46035857e", func := "loop.example/wellhead/laws.FnPoolDrop", spec := "fnPoolDrop", apart := false }
def FnPoolDropSaid : Prop := fnPoolDropRow.holds Try.pinned (OpenSpec.ofChange fnPoolDropSpec)

/-- ITS FALSE NEIGHBOUR: 'it returns false'. Refute it at one input. -/
def fnPoolDropWrong : ChangeSpec := { name := "fnPoolDrop", fn := fun _ => fun
  | [d] => { results := [.lit (.bool false)], args := [d] }
  | _ => none }
def FnPoolDropWrongFalsely : Prop := fnPoolDropRow.holds Try.pinned (OpenSpec.ofChange fnPoolDropWrong)

/-- 'laws.FnPoolHouse': WHATEVER THE INPUT: true; the input reads as it did. -/
def fnPoolHouseSpec : ChangeSpec := { name := "fnPoolHouse", fn := fun _ => fun
  | [d] => { results := [.lit (.bool true)], args := [d] }
  | _ => none }
def fnPoolHouseRow : OpenClaim := { program := "ytlfnjkcgefcidaa", sum := "1b1a9e21fe64a6750d1d1414476edf0c0a1c6b2751f382a63dcd65e46035857e", func := "loop.example/wellhead/laws.FnPoolHouse", spec := "fnPoolHouse", apart := false }
def FnPoolHouseSaid : Prop := fnPoolHouseRow.holds Try.pinned (OpenSpec.ofChange fnPoolHouseSpec)

/-- ITS FALSE NEIGHBOUR: 'it returns false'. Refute it at one input. -/
def fnPoolHouseWrong : ChangeSpec := { name := "fnPoolHouse", fn := fun _ => fun
  | [d] => { results := [.lit (.bool false)], args := [d] }
  | _ => none }
def FnPoolHouseWrongFalsely : Prop := fnPoolHouseRow.holds Try.pinned (OpenSpec.ofChange fnPoolHouseWrong)

/-- 'laws.FnPoolFull': WHATEVER THE INPUT: true; the input reads as it did. -/
def fnPoolFullSpec : ChangeSpec := { name := "fnPoolFull", fn := fun _ => fun
  | [d] => { results := [.lit (.bool true)], args := [d] }
  | _ => none }
def fnPoolFullRow : OpenClaim := { program := "ytlfnjkcgefcidaa", sum := "1b1a9e21fe64a6750d1d1414476edf0c0a1c6b2751f382a63dcd65e46035857e", func := "loop.example/wellhead/laws.FnPoolFull", spec := "fnPoolFull", apart := false }
def FnPoolFullSaid : Prop := fnPoolFullRow.holds Try.pinned (OpenSpec.ofChange fnPoolFullSpec)

/-- ITS FALSE NEIGHBOUR: 'it returns false'. Refute it at one input. -/
def fnPoolFullWrong : ChangeSpec := { name := "fnPoolFull", fn := fun _ => fun
  | [d] => { results := [.lit (.bool false)], args := [d] }
  | _ => none }
def FnPoolFullWrongFalsely : Prop := fnPoolFullRow.holds Try.pinned (OpenSpec.ofChange fnPoolFullWrong)

/-- 'laws.FnPoolTake': WHATEVER THE INPUT: true; the input reads as it did. -/
def fnPoolTakeSpec : ChangeSpec := { name := "fnPoolTake", fn := fun _ => fun
  | [d] => { results := [.lit (.bool true)], args := [d] }
  | _ => none }
def fnPoolTakeRow : OpenClaim := { program := "ytlfnjkcgefcidaa", sum := "1b1a9e21fe64a6750d1d1414476edf0c0a1c6b2751f382a63dcd65e46035857e", func := "loop.example/wellhead/laws.FnPoolTake", spec := "fnPoolTake", apart := false }
def FnPoolTakeSaid : Prop := fnPoolTakeRow.holds Try.pinned (OpenSpec.ofChange fnPoolTakeSpec)

/-- ITS FALSE NEIGHBOUR: 'it returns false'. Refute it at one input. -/
def fnPoolTakeWrong : ChangeSpec := { name := "fnPoolTake", fn := fun _ => fun
  | [d] => { results := [.lit (.bool false)], args := [d] }
  | _ => none }
def FnPoolTakeWrongFalsely : Prop := fnPoolTakeRow.holds Try.pinned (OpenSpec.ofChange fnPoolTakeWrong)

/-- 'laws.FnPoolAgain': WHATEVER THE INPUT: true; the input reads as it did. -/
def fnPoolAgainSpec : ChangeSpec := { name := "fnPoolAgain", fn := fun _ => fun
  | [d] => { results := [.lit (.bool true)], args := [d] }
  | _ => none }
def fnPoolAgainRow : OpenClaim := { program := "ytlfnjkcgefcidaa", sum := "1b1a9e21fe64a6750d1d1414476edf0c0a1c6b2751f382a63dcd65e46035857e", func := "loop.example/wellhead/laws.FnPoolAgain", spec := "fnPoolAgain", apart := false }
def FnPoolAgainSaid : Prop := fnPoolAgainRow.holds Try.pinned (OpenSpec.ofChange fnPoolAgainSpec)

/-- ITS FALSE NEIGHBOUR: 'it returns false'. Refute it at one input. -/
def fnPoolAgainWrong : ChangeSpec := { name := "fnPoolAgain", fn := fun _ => fun
  | [d] => { results := [.lit (.bool false)], args := [d] }
  | _ => none }
def FnPoolAgainWrongFalsely : Prop := fnPoolAgainRow.holds Try.pinned (OpenSpec.ofChange fnPoolAgainWrong)

/-- 'laws.FnExactPoolTake': WHATEVER THE INPUT: true; the input reads as it did. -/
def fnExactPoolTakeSpec : ChangeSpec := { name := "fnExactPoolTake", fn := fun _ => fun
  | [d1, d2, d3, d4] => { results := [.lit (.bool true)], args := [d1, d2, d3, d4] }
  | _ => none }
def fnExactPoolTakeRow : OpenClaim := { program := "ytlfnjkcgefcidaa", sum := "1b1a9e21fe64a6750d1d1414476edf0c0a1c6b2751f382a63dcd65e46035857e", func := "loop.example/wellhead/laws.FnExactPoolTake", spec := "fnExactPoolTake", apart := false }
def FnExactPoolTakeSaid : Prop := fnExactPoolTakeRow.holds Try.pinned (OpenSpec.ofChange fnExactPoolTakeSpec)

/-- ITS FALSE NEIGHBOUR: 'it returns false'. Refute it at one input. -/
def fnExactPoolTakeWrong : ChangeSpec := { name := "fnExactPoolTake", fn := fun _ => fun
  | [d1, d2, d3, d4] => { results := [.lit (.bool false)], args := [d1, d2, d3, d4] }
  | _ => none }
def FnExactPoolTakeWrongFalsely : Prop := fnExactPoolTakeRow.holds Try.pinned (OpenSpec.ofChange fnExactPoolTakeWrong)

/-- 'laws.FnExactServerNew': WHATEVER THE INPUT: true; the input reads as it did. -/
def fnExactServerNewSpec : ChangeSpec := { name := "fnExactServerNew", fn := fun _ => fun
  | [] => { results := [.lit (.bool true)], args := [] }
  | _ => none }
def fnExactServerNewRow : OpenClaim := { program := "ytlfnjkcgefcidaa", sum := "1b1a9e21fe64a6750d1d1414476edf0c0a1c6b2751f382a63dcd65e46035857e", func := "loop.example/wellhead/laws.FnExactServerNew", spec := "fnExactServerNew", apart := false }
def FnExactServerNewSaid : Prop := fnExactServerNewRow.holds Try.pinned (OpenSpec.ofChange fnExactServerNewSpec)

/-- ITS FALSE NEIGHBOUR: 'it returns false'. Refute it at one input. -/
def fnExactServerNewWrong : ChangeSpec := { name := "fnExactServerNew", fn := fun _ => fun
  | [] => { results := [.lit (.bool false)], args := [] }
  | _ => none }
def FnExactServerNewWrongFalsely : Prop := fnExactServerNewRow.holds Try.pinned (OpenSpec.ofChange fnExactServerNewWrong)

/- THE SECOND FORM. 'bulk': how many values and letters a reading holds, each counted each time it is reached (what is shared counts as often as it is met; a slice's spare places count too). A statement '..UptoSaid' is the law's where the arguments, and the package variables that the reading takes, are together of bulk at most 1048576: NARROWER than '..Said'. Prove '..Said' where nothing that the law and all that it calls make is longer than what came in: it says more and counts as full. Else prove '..UptoSaid'. A law counts once. -/
mutual
def uptoBulk {H : Type} : DataW H → Nat
  | .lit (.string bytes) => bytes.length + 1
  | .lit _ => 1
  | .nil => 1
  | .ptr d => uptoBulk d + 1
  | .slice elems spare => uptoBulkAll elems + uptoBulkAll spare + 1
  | .agg parts => uptoBulkAll parts + 1
  | .iface _ d => uptoBulk d + 1
  | .map entries => uptoBulkEntries entries + 1
  | .held _ => 1
def uptoBulkAll {H : Type} : List (DataW H) → Nat
  | [] => 0
  | d :: r => uptoBulk d + uptoBulkAll r
def uptoBulkEntries {H : Type} : List (Lit × DataW H) → Nat
  | [] => 0
  | x :: r => uptoBulkEntry x + uptoBulkEntries r
def uptoBulkEntry {H : Type} : Lit × DataW H → Nat
  | (.string bytes, d) => bytes.length + uptoBulk d + 1
  | (_, d) => uptoBulk d + 1
 end
def uptoSmall : (H : Type) → List (DataW H) → Bool := fun _ ds => decide (uptoBulkAll ds ≤ 1048576)
def OpenSpec.upto (s : _root_.Go.ChangeSpec) : _root_.Go.OpenSpec := { _root_.Go.OpenSpec.ofChange s with cond := some uptoSmall }

/-- 'laws.FnExactPoolOk', WHERE WHAT IT READS IS OF BULK AT MOST 1048576: true; the input reads as it did. -/
def fnExactPoolOkUptoRow : OpenClaim := { program := "ytlfnjkcgefcidaa", sum := "1b1a9e21fe64a6750d1d1414476edf0c0a1c6b2751f382a63dcd65e46035857e", func := "loop.example/wellhead/laws.FnExactPoolOk", spec := "fnExactPoolOk", apart := false, narrowed := true }
def FnExactPoolOkUptoSaid : Prop := fnExactPoolOkUptoRow.holds Try.pinned (OpenSpec.upto fnExactPoolOkSpec)

/-- 'laws.FnExactPoolOf', WHERE WHAT IT READS IS OF BULK AT MOST 1048576: true; the input reads as it did. -/
def fnExactPoolOfUptoRow : OpenClaim := { program := "ytlfnjkcgefcidaa", sum := "1b1a9e21fe64a6750d1d1414476edf0c0a1c6b2751f382a63dcd65e46035857e", func := "loop.example/wellhead/laws.FnExactPoolOf", spec := "fnExactPoolOf", apart := false, narrowed := true }
def FnExactPoolOfUptoSaid : Prop := fnExactPoolOfUptoRow.holds Try.pinned (OpenSpec.upto fnExactPoolOfSpec)

/-- 'laws.FnPoolLet', WHERE WHAT IT READS IS OF BULK AT MOST 1048576: true; the input reads as it did. -/
def fnPoolLetUptoRow : OpenClaim := { program := "ytlfnjkcgefcidaa", sum := "1b1a9e21fe64a6750d1d1414476edf0c0a1c6b2751f382a63dcd65e46035857e", func := "loop.example/wellhead/laws.FnPoolLet", spec := "fnPoolLet", apart := false, narrowed := true }
def FnPoolLetUptoSaid : Prop := fnPoolLetUptoRow.holds Try.pinned (OpenSpec.upto fnPoolLetSpec)

/-- 'laws.FnExactPoolLet', WHERE WHAT IT READS IS OF BULK AT MOST 1048576: true; the input reads as it did. -/
def fnExactPoolLetUptoRow : OpenClaim := { program := "ytlfnjkcgefcidaa", sum := "1b1a9e21fe64a6750d1d1414476edf0c0a1c6b2751f382a63dcd65e46035857e", func := "loop.example/wellhead/laws.FnExactPoolLet", spec := "fnExactPoolLet", apart := false, narrowed := true }
def FnExactPoolLetUptoSaid : Prop := fnExactPoolLetUptoRow.holds Try.pinned (OpenSpec.upto fnExactPoolLetSpec)

/-- 'laws.FnExactPoolDrop', WHERE WHAT IT READS IS OF BULK AT MOST 1048576: true; the input reads as it did. -/
def fnExactPoolDropUptoRow : OpenClaim := { program := "ytlfnjkcgefcidaa", sum := "1b1a9e21fe64a6750d1d1414476edf0c0a1c6b2751f382a63dcd65e46035857e", func := "loop.example/wellhead/laws.FnExactPoolDrop", spec := "fnExactPoolDrop", apart := false, narrowed := true }
def FnExactPoolDropUptoSaid : Prop := fnExactPoolDropUptoRow.holds Try.pinned (OpenSpec.upto fnExactPoolDropSpec)

/-- 'laws.FnPoolDrop', WHERE WHAT IT READS IS OF BULK AT MOST 1048576: true; the input reads as it did. -/
def fnPoolDropUptoRow : OpenClaim := { program := "ytlfnjkcgefcidaa", sum := "1b1a9e21fe64a6750d1d1414476edf0c0a1c6b2751f382a63dcd65e46035857e", func := "loop.example/wellhead/laws.FnPoolDrop", spec := "fnPoolDrop", apart := false, narrowed := true }
def FnPoolDropUptoSaid : Prop := fnPoolDropUptoRow.holds Try.pinned (OpenSpec.upto fnPoolDropSpec)

/-- 'laws.FnPoolHouse', WHERE WHAT IT READS IS OF BULK AT MOST 1048576: true; the input reads as it did. -/
def fnPoolHouseUptoRow : OpenClaim := { program := "ytlfnjkcgefcidaa", sum := "1b1a9e21fe64a6750d1d1414476edf0c0a1c6b2751f382a63dcd65e46035857e", func := "loop.example/wellhead/laws.FnPoolHouse", spec := "fnPoolHouse", apart := false, narrowed := true }
def FnPoolHouseUptoSaid : Prop := fnPoolHouseUptoRow.holds Try.pinned (OpenSpec.upto fnPoolHouseSpec)

/-- 'laws.FnPoolFull', WHERE WHAT IT READS IS OF BULK AT MOST 1048576: true; the input reads as it did. -/
def fnPoolFullUptoRow : OpenClaim := { program := "ytlfnjkcgefcidaa", sum := "1b1a9e21fe64a6750d1d1414476edf0c0a1c6b2751f382a63dcd65e46035857e", func := "loop.example/wellhead/laws.FnPoolFull", spec := "fnPoolFull", apart := false, narrowed := true }
def FnPoolFullUptoSaid : Prop := fnPoolFullUptoRow.holds Try.pinned (OpenSpec.upto fnPoolFullSpec)

/-- 'laws.FnPoolTake', WHERE WHAT IT READS IS OF BULK AT MOST 1048576: true; the input reads as it did. -/
def fnPoolTakeUptoRow : OpenClaim := { program := "ytlfnjkcgefcidaa", sum := "1b1a9e21fe64a6750d1d1414476edf0c0a1c6b2751f382a63dcd65e46035857e", func := "loop.example/wellhead/laws.FnPoolTake", spec := "fnPoolTake", apart := false, narrowed := true }
def FnPoolTakeUptoSaid : Prop := fnPoolTakeUptoRow.holds Try.pinned (OpenSpec.upto fnPoolTakeSpec)

/-- 'laws.FnPoolAgain', WHERE WHAT IT READS IS OF BULK AT MOST 1048576: true; the input reads as it did. -/
def fnPoolAgainUptoRow : OpenClaim := { program := "ytlfnjkcgefcidaa", sum := "1b1a9e21fe64a6750d1d1414476edf0c0a1c6b2751f382a63dcd65e46035857e", func := "loop.example/wellhead/laws.FnPoolAgain", spec := "fnPoolAgain", apart := false, narrowed := true }
def FnPoolAgainUptoSaid : Prop := fnPoolAgainUptoRow.holds Try.pinned (OpenSpec.upto fnPoolAgainSpec)

/-- 'laws.FnExactPoolTake', WHERE WHAT IT READS IS OF BULK AT MOST 1048576: true; the input reads as it did. -/
def fnExactPoolTakeUptoRow : OpenClaim := { program := "ytlfnjkcgefcidaa", sum := "1b1a9e21fe64a6750d1d1414476edf0c0a1c6b2751f382a63dcd65e46035857e", func := "loop.example/wellhead/laws.FnExactPoolTake", spec := "fnExactPoolTake", apart := false, narrowed := true }
def FnExactPoolTakeUptoSaid : Prop := fnExactPoolTakeUptoRow.holds Try.pinned (OpenSpec.upto fnExactPoolTakeSpec)

/-- 'laws.FnExactServerNew', WHERE WHAT IT READS IS OF BULK AT MOST 1048576: true; the input reads as it did. -/
def fnExactServerNewUptoRow : OpenClaim := { program := "ytlfnjkcgefcidaa", sum := "1b1a9e21fe64a6750d1d1414476edf0c0a1c6b2751f382a63dcd65e46035857e", func := "loop.example/wellhead/laws.FnExactServerNew", spec := "fnExactServerNew", apart := false, narrowed := true }
def FnExactServerNewUptoSaid : Prop := fnExactServerNewUptoRow.holds Try.pinned (OpenSpec.upto fnExactServerNewSpec)

end Rows
end Go.Proofs.Ytlfnjkcgefcidaa
