import Derived.Orders
/-! The package's variables that are read and never written: block, cells. (A seat without such variables: none.) -/
namespace Go.Abs
def gl : List (Nat × List Go.Value) := []
/-- Variables that hold an error each: their blocks. -/
def glw : List Nat := []
end Go.Abs
