import Derived.Orders
/-! The package's variables that are read and never written: block, cells: internal/strconv.uint64pow10. -/
namespace Go.Abs
def gl : List (Nat × List Go.Value) := [(3, (List.range 20).map fun i => .int .u64 ((10 ^ i : Nat) : Int))]
/-- Variables that hold an error each: their blocks: strconv.ErrSyntax, strconv.ErrRange. -/
def glw : List Nat := [1, 2]
end Go.Abs
