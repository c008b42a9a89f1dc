import Derived.Test.YtfhcoohdmjfkbaaDoorGAbs25
import Derived.Test.YtfhcoohdmjfkbaaDoorGShelf
set_option linter.unusedSimpArgs false
set_option linter.unusedVariables false
namespace Go.Abs.D
open Go Go.Abs Go.Proofs
attribute [local irreducible] IntKind.wrap
theorem tab_of {w : World} (h : GlobH w) : Lib.TabIs Tryd.prog w "internal/strconv.uint64pow10" .u64 Lib.pow10Tab := by
  obtain ⟨ty, fr, e⟩ := h.1 1 _ rfl
  unfold Lib.TabIs World.var?
  rw [show Tryd.prog.globalNamed "internal/strconv.uint64pow10" = some 1 by kernel_rfl]
  simp only [Option.bind_some, e]
  unfold Lib.pow10Tab
  rw [List.map_map]; rfl
/-- A number in decimals. -/
def dec (n : Int) : ByteArray := ⟨(Lib.itoa n).toArray⟩
theorem itoa_ok (n : Int) (h0 : -9223372036854775808 ≤ n) (h1 : n ≤ 9223372036854775807) : Good Tryd.prog 30 [vint n] [] (vstr (dec n)) [] :=
  good_lit (vs := [.int .i64 n]) fun w hg => Tryd.strconv_Itoa n h0 h1 w (tab_of hg)
end Go.Abs.D
