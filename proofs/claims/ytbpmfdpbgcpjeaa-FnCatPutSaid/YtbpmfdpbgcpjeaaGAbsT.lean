import Derived.Orders
/-! The package's variables that are read and never written: block, cells. (A seat without such variables: none.) -/
namespace Go.Abs
def gl : List (Nat × List Go.Value) := []
end Go.Abs
