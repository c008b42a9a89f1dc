import Derived.Test.YtfhcoohdmjfkbaaDoorGWR2
set_option linter.unusedSimpArgs false
set_option linter.unusedVariables false
namespace Go.Abs.D
open Go Go.Abs Go.Proofs Go.RowKit
attribute [local irreducible] IntKind.wrap
end Go.Abs.D
