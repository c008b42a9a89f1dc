/-
  No cell of these rows narrows 'for every input' (looked for: loops, veiled, ifaces, maps, wideKeys, modest, calm, conditions, laid).
  DERIVED. THE GIVEN ROWS OF THIS SEAT. 10 by the template 'for every input the law returns true; each argument reads behind the call as it read before'; 0 by the template 'total and deterministic' (their statements: YtbpmfdpbgcpjeaaTotals.lean).
  GIVEN WITH THE SEED: the statements are not yours to turn. If you find one false, say at which input.
  Laid BY PROGRAM, IN A SANDBOX (cutbox-rows.mjs): the forced cells as the released guide's own fill.sh prints them over the translation 301b7cda782d2c53… (all of the seat's roots in one cut). By AI agents, Wed Nov 11 2026. No macro, syntax, notation, axiom, sorry.
-/
import Derived.Test.YtbpmfdpbgcpjeaaChecked
import GoSem.Claim
import GoSem.ClaimJoined
import GoSem.ClaimMapViews
import Derived.JoinedTies
import Derived.KernelRfl
namespace Go.Proofs.Ytbpmfdpbgcpjeaa
/- THE CELL 'sum', in the pinned program and in every row, IS THE sha256 OF THE DUMP (.gsa) THAT YtbpmfdpbgcpjeaaProg.lean LOADS. Nothing in Lean hashes anything: it is a label: what it is worth is what the hold of that sum in a sandbox is worth. -/
noncomputable def Try.pinned : Pinned := { name := "ytbpmfdpbgcpjeaa", sum := "301b7cda782d2c531ff3addfe016869f72779680203be418961e08bd55b9d21b", checked := Try.checked }
namespace Rows
def none {H : Type} : Left H := { results := [], args := [] }

/-- 'laws.FnExactCatOk': WHATEVER THE INPUT: true; the input reads as it did. -/
def fnExactCatOkSpec : ChangeSpec := { name := "fnExactCatOk", fn := fun _ => fun
  | [d] => { results := [.lit (.bool true)], args := [d] }
  | _ => none }
def fnExactCatOkRow : OpenClaim := { program := "ytbpmfdpbgcpjeaa", sum := "301b7cda782d2c531ff3addfe016869f72779680203be418961e08bd55b9d21b", func := "loop.example/wellhead/laws.FnExactCatOk", spec := "fnExactCatOk", unfollowed := true, recurses := true, apart := false }
def FnExactCatOkSaid : Prop := fnExactCatOkRow.holds Try.pinned (OpenSpec.ofChange fnExactCatOkSpec)

/-- ITS FALSE NEIGHBOUR: 'it returns false'. Refute it at one input. -/
def fnExactCatOkWrong : ChangeSpec := { name := "fnExactCatOk", fn := fun _ => fun
  | [d] => { results := [.lit (.bool false)], args := [d] }
  | _ => none }
def FnExactCatOkWrongFalsely : Prop := fnExactCatOkRow.holds Try.pinned (OpenSpec.ofChange fnExactCatOkWrong)

/-- 'laws.FnExactCatBytes': WHATEVER THE INPUT: true; the input reads as it did. -/
def fnExactCatBytesSpec : ChangeSpec := { name := "fnExactCatBytes", fn := fun _ => fun
  | [d1, d2] => { results := [.lit (.bool true)], args := [d1, d2] }
  | _ => none }
def fnExactCatBytesRow : OpenClaim := { program := "ytbpmfdpbgcpjeaa", sum := "301b7cda782d2c531ff3addfe016869f72779680203be418961e08bd55b9d21b", func := "loop.example/wellhead/laws.FnExactCatBytes", spec := "fnExactCatBytes", unfollowed := true, recurses := true, apart := false }
def FnExactCatBytesSaid : Prop := fnExactCatBytesRow.holds Try.pinned (OpenSpec.ofChange fnExactCatBytesSpec)

/-- ITS FALSE NEIGHBOUR: 'it returns false'. Refute it at one input. -/
def fnExactCatBytesWrong : ChangeSpec := { name := "fnExactCatBytes", fn := fun _ => fun
  | [d1, d2] => { results := [.lit (.bool false)], args := [d1, d2] }
  | _ => none }
def FnExactCatBytesWrongFalsely : Prop := fnExactCatBytesRow.holds Try.pinned (OpenSpec.ofChange fnExactCatBytesWrong)

/-- 'laws.FnExactCatEdition': WHATEVER THE INPUT: true; the input reads as it did. -/
def fnExactCatEditionSpec : ChangeSpec := { name := "fnExactCatEdition", fn := fun _ => fun
  | [d1, d2] => { results := [.lit (.bool true)], args := [d1, d2] }
  | _ => none }
def fnExactCatEditionRow : OpenClaim := { program := "ytbpmfdpbgcpjeaa", sum := "301b7cda782d2c531ff3addfe016869f72779680203be418961e08bd55b9d21b", func := "loop.example/wellhead/laws.FnExactCatEdition", spec := "fnExactCatEdition", unfollowed := true, recurses := true, apart := false }
def FnExactCatEditionSaid : Prop := fnExactCatEditionRow.holds Try.pinned (OpenSpec.ofChange fnExactCatEditionSpec)

/-- ITS FALSE NEIGHBOUR: 'it returns false'. Refute it at one input. -/
def fnExactCatEditionWrong : ChangeSpec := { name := "fnExactCatEdition", fn := fun _ => fun
  | [d1, d2] => { results := [.lit (.bool false)], args := [d1, d2] }
  | _ => none }
def FnExactCatEditionWrongFalsely : Prop := fnExactCatEditionRow.holds Try.pinned (OpenSpec.ofChange fnExactCatEditionWrong)

/-- 'laws.FnExactCatGet': WHATEVER THE INPUT: true; the input reads as it did. -/
def fnExactCatGetSpec : ChangeSpec := { name := "fnExactCatGet", fn := fun _ => fun
  | [d1, d2, d3] => { results := [.lit (.bool true)], args := [d1, d2, d3] }
  | _ => none }
def fnExactCatGetRow : OpenClaim := { program := "ytbpmfdpbgcpjeaa", sum := "301b7cda782d2c531ff3addfe016869f72779680203be418961e08bd55b9d21b", func := "loop.example/wellhead/laws.FnExactCatGet", spec := "fnExactCatGet", unfollowed := true, recurses := true, apart := false }
def FnExactCatGetSaid : Prop := fnExactCatGetRow.holds Try.pinned (OpenSpec.ofChange fnExactCatGetSpec)

/-- ITS FALSE NEIGHBOUR: 'it returns false'. Refute it at one input. -/
def fnExactCatGetWrong : ChangeSpec := { name := "fnExactCatGet", fn := fun _ => fun
  | [d1, d2, d3] => { results := [.lit (.bool false)], args := [d1, d2, d3] }
  | _ => none }
def FnExactCatGetWrongFalsely : Prop := fnExactCatGetRow.holds Try.pinned (OpenSpec.ofChange fnExactCatGetWrong)

/-- 'laws.FnCatBytes': WHATEVER THE INPUT: true; the input reads as it did. -/
def fnCatBytesSpec : ChangeSpec := { name := "fnCatBytes", fn := fun _ => fun
  | [d] => { results := [.lit (.bool true)], args := [d] }
  | _ => none }
def fnCatBytesRow : OpenClaim := { program := "ytbpmfdpbgcpjeaa", sum := "301b7cda782d2c531ff3addfe016869f72779680203be418961e08bd55b9d21b", func := "loop.example/wellhead/laws.FnCatBytes", spec := "fnCatBytes", unfollowed := true, recurses := true, apart := false }
def FnCatBytesSaid : Prop := fnCatBytesRow.holds Try.pinned (OpenSpec.ofChange fnCatBytesSpec)

/-- ITS FALSE NEIGHBOUR: 'it returns false'. Refute it at one input. -/
def fnCatBytesWrong : ChangeSpec := { name := "fnCatBytes", fn := fun _ => fun
  | [d] => { results := [.lit (.bool false)], args := [d] }
  | _ => none }
def FnCatBytesWrongFalsely : Prop := fnCatBytesRow.holds Try.pinned (OpenSpec.ofChange fnCatBytesWrong)

/-- 'laws.FnExactCatTake': WHATEVER THE INPUT: true; the input reads as it did. -/
def fnExactCatTakeSpec : ChangeSpec := { name := "fnExactCatTake", fn := fun _ => fun
  | [d1, d2, d3] => { results := [.lit (.bool true)], args := [d1, d2, d3] }
  | _ => none }
def fnExactCatTakeRow : OpenClaim := { program := "ytbpmfdpbgcpjeaa", sum := "301b7cda782d2c531ff3addfe016869f72779680203be418961e08bd55b9d21b", func := "loop.example/wellhead/laws.FnExactCatTake", spec := "fnExactCatTake", unfollowed := true, recurses := true, apart := false }
def FnExactCatTakeSaid : Prop := fnExactCatTakeRow.holds Try.pinned (OpenSpec.ofChange fnExactCatTakeSpec)

/-- ITS FALSE NEIGHBOUR: 'it returns false'. Refute it at one input. -/
def fnExactCatTakeWrong : ChangeSpec := { name := "fnExactCatTake", fn := fun _ => fun
  | [d1, d2, d3] => { results := [.lit (.bool false)], args := [d1, d2, d3] }
  | _ => none }
def FnExactCatTakeWrongFalsely : Prop := fnExactCatTakeRow.holds Try.pinned (OpenSpec.ofChange fnExactCatTakeWrong)

/-- 'laws.FnCatPut': WHATEVER THE INPUT: true; the input reads as it did. -/
def fnCatPutSpec : ChangeSpec := { name := "fnCatPut", fn := fun _ => fun
  | [d] => { results := [.lit (.bool true)], args := [d] }
  | _ => none }
def fnCatPutRow : OpenClaim := { program := "ytbpmfdpbgcpjeaa", sum := "301b7cda782d2c531ff3addfe016869f72779680203be418961e08bd55b9d21b", func := "loop.example/wellhead/laws.FnCatPut", spec := "fnCatPut", unfollowed := true, recurses := true, apart := false }
def FnCatPutSaid : Prop := fnCatPutRow.holds Try.pinned (OpenSpec.ofChange fnCatPutSpec)

/-- ITS FALSE NEIGHBOUR: 'it returns false'. Refute it at one input. -/
def fnCatPutWrong : ChangeSpec := { name := "fnCatPut", fn := fun _ => fun
  | [d] => { results := [.lit (.bool false)], args := [d] }
  | _ => none }
def FnCatPutWrongFalsely : Prop := fnCatPutRow.holds Try.pinned (OpenSpec.ofChange fnCatPutWrong)

/-- 'laws.FnCatHouse': WHATEVER THE INPUT: true; the input reads as it did. -/
def fnCatHouseSpec : ChangeSpec := { name := "fnCatHouse", fn := fun _ => fun
  | [d] => { results := [.lit (.bool true)], args := [d] }
  | _ => none }
def fnCatHouseRow : OpenClaim := { program := "ytbpmfdpbgcpjeaa", sum := "301b7cda782d2c531ff3addfe016869f72779680203be418961e08bd55b9d21b", func := "loop.example/wellhead/laws.FnCatHouse", spec := "fnCatHouse", unfollowed := true, recurses := true, apart := false }
def FnCatHouseSaid : Prop := fnCatHouseRow.holds Try.pinned (OpenSpec.ofChange fnCatHouseSpec)

/-- ITS FALSE NEIGHBOUR: 'it returns false'. Refute it at one input. -/
def fnCatHouseWrong : ChangeSpec := { name := "fnCatHouse", fn := fun _ => fun
  | [d] => { results := [.lit (.bool false)], args := [d] }
  | _ => none }
def FnCatHouseWrongFalsely : Prop := fnCatHouseRow.holds Try.pinned (OpenSpec.ofChange fnCatHouseWrong)

/-- 'laws.FnExactCatPut': WHATEVER THE INPUT: true; the input reads as it did. -/
def fnExactCatPutSpec : ChangeSpec := { name := "fnExactCatPut", fn := fun _ => fun
  | [d1, d2, d3, d4] => { results := [.lit (.bool true)], args := [d1, d2, d3, d4] }
  | _ => none }
def fnExactCatPutRow : OpenClaim := { program := "ytbpmfdpbgcpjeaa", sum := "301b7cda782d2c531ff3addfe016869f72779680203be418961e08bd55b9d21b", func := "loop.example/wellhead/laws.FnExactCatPut", spec := "fnExactCatPut", unfollowed := true, recurses := true, apart := false }
def FnExactCatPutSaid : Prop := fnExactCatPutRow.holds Try.pinned (OpenSpec.ofChange fnExactCatPutSpec)

/-- ITS FALSE NEIGHBOUR: 'it returns false'. Refute it at one input. -/
def fnExactCatPutWrong : ChangeSpec := { name := "fnExactCatPut", fn := fun _ => fun
  | [d1, d2, d3, d4] => { results := [.lit (.bool false)], args := [d1, d2, d3, d4] }
  | _ => none }
def FnExactCatPutWrongFalsely : Prop := fnExactCatPutRow.holds Try.pinned (OpenSpec.ofChange fnExactCatPutWrong)

/-- 'laws.FnCatTake': WHATEVER THE INPUT: true; the input reads as it did. -/
def fnCatTakeSpec : ChangeSpec := { name := "fnCatTake", fn := fun _ => fun
  | [d] => { results := [.lit (.bool true)], args := [d] }
  | _ => none }
def fnCatTakeRow : OpenClaim := { program := "ytbpmfdpbgcpjeaa", sum := "301b7cda782d2c531ff3addfe016869f72779680203be418961e08bd55b9d21b", func := "loop.example/wellhead/laws.FnCatTake", spec := "fnCatTake", unfollowed := true, recurses := true, apart := false }
def FnCatTakeSaid : Prop := fnCatTakeRow.holds Try.pinned (OpenSpec.ofChange fnCatTakeSpec)

/-- ITS FALSE NEIGHBOUR: 'it returns false'. Refute it at one input. -/
def fnCatTakeWrong : ChangeSpec := { name := "fnCatTake", fn := fun _ => fun
  | [d] => { results := [.lit (.bool false)], args := [d] }
  | _ => none }
def FnCatTakeWrongFalsely : Prop := fnCatTakeRow.holds Try.pinned (OpenSpec.ofChange fnCatTakeWrong)

/- THE SECOND FORM. 'bulk': how many values and letters a reading holds, each counted each time it is reached (what is shared counts as often as it is met; a slice's spare places count too). A statement '..UptoSaid' is the law's where the arguments, and the package variables that the reading takes, are together of bulk at most 1048576: NARROWER than '..Said'. Prove '..Said' where nothing that the law and all that it calls make is longer than what came in: it says more and counts as full. Else prove '..UptoSaid'. A law counts once. -/
mutual
def uptoBulk {H : Type} : DataW H → Nat
  | .lit (.string bytes) => bytes.length + 1
  | .lit _ => 1
  | .nil => 1
  | .ptr d => uptoBulk d + 1
  | .slice elems spare => uptoBulkAll elems + uptoBulkAll spare + 1
  | .agg parts => uptoBulkAll parts + 1
  | .iface _ d => uptoBulk d + 1
  | .map entries => uptoBulkEntries entries + 1
  | .held _ => 1
def uptoBulkAll {H : Type} : List (DataW H) → Nat
  | [] => 0
  | d :: r => uptoBulk d + uptoBulkAll r
def uptoBulkEntries {H : Type} : List (Lit × DataW H) → Nat
  | [] => 0
  | x :: r => uptoBulkEntry x + uptoBulkEntries r
def uptoBulkEntry {H : Type} : Lit × DataW H → Nat
  | (.string bytes, d) => bytes.length + uptoBulk d + 1
  | (_, d) => uptoBulk d + 1
 end
def uptoSmall : (H : Type) → List (DataW H) → Bool := fun _ ds => decide (uptoBulkAll ds ≤ 1048576)
def OpenSpec.upto (s : _root_.Go.ChangeSpec) : _root_.Go.OpenSpec := { _root_.Go.OpenSpec.ofChange s with cond := some uptoSmall }

/-- 'laws.FnExactCatOk', WHERE WHAT IT READS IS OF BULK AT MOST 1048576: true; the input reads as it did. -/
def fnExactCatOkUptoRow : OpenClaim := { program := "ytbpmfdpbgcpjeaa", sum := "301b7cda782d2c531ff3addfe016869f72779680203be418961e08bd55b9d21b", func := "loop.example/wellhead/laws.FnExactCatOk", spec := "fnExactCatOk", unfollowed := true, recurses := true, apart := false, narrowed := true }
def FnExactCatOkUptoSaid : Prop := fnExactCatOkUptoRow.holds Try.pinned (OpenSpec.upto fnExactCatOkSpec)

/-- 'laws.FnExactCatBytes', WHERE WHAT IT READS IS OF BULK AT MOST 1048576: true; the input reads as it did. -/
def fnExactCatBytesUptoRow : OpenClaim := { program := "ytbpmfdpbgcpjeaa", sum := "301b7cda782d2c531ff3addfe016869f72779680203be418961e08bd55b9d21b", func := "loop.example/wellhead/laws.FnExactCatBytes", spec := "fnExactCatBytes", unfollowed := true, recurses := true, apart := false, narrowed := true }
def FnExactCatBytesUptoSaid : Prop := fnExactCatBytesUptoRow.holds Try.pinned (OpenSpec.upto fnExactCatBytesSpec)

/-- 'laws.FnExactCatEdition', WHERE WHAT IT READS IS OF BULK AT MOST 1048576: true; the input reads as it did. -/
def fnExactCatEditionUptoRow : OpenClaim := { program := "ytbpmfdpbgcpjeaa", sum := "301b7cda782d2c531ff3addfe016869f72779680203be418961e08bd55b9d21b", func := "loop.example/wellhead/laws.FnExactCatEdition", spec := "fnExactCatEdition", unfollowed := true, recurses := true, apart := false, narrowed := true }
def FnExactCatEditionUptoSaid : Prop := fnExactCatEditionUptoRow.holds Try.pinned (OpenSpec.upto fnExactCatEditionSpec)

/-- 'laws.FnExactCatGet', WHERE WHAT IT READS IS OF BULK AT MOST 1048576: true; the input reads as it did. -/
def fnExactCatGetUptoRow : OpenClaim := { program := "ytbpmfdpbgcpjeaa", sum := "301b7cda782d2c531ff3addfe016869f72779680203be418961e08bd55b9d21b", func := "loop.example/wellhead/laws.FnExactCatGet", spec := "fnExactCatGet", unfollowed := true, recurses := true, apart := false, narrowed := true }
def FnExactCatGetUptoSaid : Prop := fnExactCatGetUptoRow.holds Try.pinned (OpenSpec.upto fnExactCatGetSpec)

/-- 'laws.FnCatBytes', WHERE WHAT IT READS IS OF BULK AT MOST 1048576: true; the input reads as it did. -/
def fnCatBytesUptoRow : OpenClaim := { program := "ytbpmfdpbgcpjeaa", sum := "301b7cda782d2c531ff3addfe016869f72779680203be418961e08bd55b9d21b", func := "loop.example/wellhead/laws.FnCatBytes", spec := "fnCatBytes", unfollowed := true, recurses := true, apart := false, narrowed := true }
def FnCatBytesUptoSaid : Prop := fnCatBytesUptoRow.holds Try.pinned (OpenSpec.upto fnCatBytesSpec)

/-- 'laws.FnExactCatTake', WHERE WHAT IT READS IS OF BULK AT MOST 1048576: true; the input reads as it did. -/
def fnExactCatTakeUptoRow : OpenClaim := { program := "ytbpmfdpbgcpjeaa", sum := "301b7cda782d2c531ff3addfe016869f72779680203be418961e08bd55b9d21b", func := "loop.example/wellhead/laws.FnExactCatTake", spec := "fnExactCatTake", unfollowed := true, recurses := true, apart := false, narrowed := true }
def FnExactCatTakeUptoSaid : Prop := fnExactCatTakeUptoRow.holds Try.pinned (OpenSpec.upto fnExactCatTakeSpec)

/-- 'laws.FnCatPut', WHERE WHAT IT READS IS OF BULK AT MOST 1048576: true; the input reads as it did. -/
def fnCatPutUptoRow : OpenClaim := { program := "ytbpmfdpbgcpjeaa", sum := "301b7cda782d2c531ff3addfe016869f72779680203be418961e08bd55b9d21b", func := "loop.example/wellhead/laws.FnCatPut", spec := "fnCatPut", unfollowed := true, recurses := true, apart := false, narrowed := true }
def FnCatPutUptoSaid : Prop := fnCatPutUptoRow.holds Try.pinned (OpenSpec.upto fnCatPutSpec)

/-- 'laws.FnCatHouse', WHERE WHAT IT READS IS OF BULK AT MOST 1048576: true; the input reads as it did. -/
def fnCatHouseUptoRow : OpenClaim := { program := "ytbpmfdpbgcpjeaa", sum := "301b7cda782d2c531ff3addfe016869f72779680203be418961e08bd55b9d21b", func := "loop.example/wellhead/laws.FnCatHouse", spec := "fnCatHouse", unfollowed := true, recurses := true, apart := false, narrowed := true }
def FnCatHouseUptoSaid : Prop := fnCatHouseUptoRow.holds Try.pinned (OpenSpec.upto fnCatHouseSpec)

/-- 'laws.FnExactCatPut', WHERE WHAT IT READS IS OF BULK AT MOST 1048576: true; the input reads as it did. -/
def fnExactCatPutUptoRow : OpenClaim := { program := "ytbpmfdpbgcpjeaa", sum := "301b7cda782d2c531ff3addfe016869f72779680203be418961e08bd55b9d21b", func := "loop.example/wellhead/laws.FnExactCatPut", spec := "fnExactCatPut", unfollowed := true, recurses := true, apart := false, narrowed := true }
def FnExactCatPutUptoSaid : Prop := fnExactCatPutUptoRow.holds Try.pinned (OpenSpec.upto fnExactCatPutSpec)

/-- 'laws.FnCatTake', WHERE WHAT IT READS IS OF BULK AT MOST 1048576: true; the input reads as it did. -/
def fnCatTakeUptoRow : OpenClaim := { program := "ytbpmfdpbgcpjeaa", sum := "301b7cda782d2c531ff3addfe016869f72779680203be418961e08bd55b9d21b", func := "loop.example/wellhead/laws.FnCatTake", spec := "fnCatTake", unfollowed := true, recurses := true, apart := false, narrowed := true }
def FnCatTakeUptoSaid : Prop := fnCatTakeUptoRow.holds Try.pinned (OpenSpec.upto fnCatTakeSpec)

end Rows
end Go.Proofs.Ytbpmfdpbgcpjeaa
