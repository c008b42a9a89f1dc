-- The print's words that these laws name, taken out by a program of this session. Lean checks them.
import Derived.Test.YtlfnjkcgefcidaaVTab
namespace Go.Proofs.YtlfnjkcgefcidaaW.PrintLast
def up (b : Nat → Bool) (i : Nat) : Nat → Bool := fun j => if j = i then true else b j
end Go.Proofs.YtlfnjkcgefcidaaW.PrintLast
