import Derived.Test.YtfhcoohdmjfkbaaDoorGW1
import Derived.Test.YtfhcoohdmjfkbaaDoorRows
import Derived.LaidSub
set_option linter.unusedSimpArgs false
set_option linter.unusedVariables false
namespace Go.Abs.D
open Go Go.Abs Go.Proofs Go.Proofs.YtfhcoohdmjfkbaaDoor
/-- The table of powers of ten stands in memory as the row's condition tells. -/
theorem glob_of {l : List (String × DataW Unit)} {W : World} (hl : (l.filter fun x => x.1 == "internal/strconv.uint64pow10") = [("internal/strconv.uint64pow10", Lib.tabData .u64 Lib.pow10Tab)]) (h : laidMetH Tryd.prog l W) : Glob W (· < W.heap.size) := by
  have h1 := h.filter (fun x => x.1 == "internal/strconv.uint64pow10")
  rw [hl] at h1
  have h2 := (laidMetH_iff.1 h1).1
  have h3 : laidMet Tryd.prog (("internal/strconv.uint64pow10", Lib.tabData .u64 Lib.pow10Tab) :: []) W := h2
  have ht := Lib.tabIs_of_head (P := Tryd.prog) (g := 1) (t := 114) (e := 98) (n := 20) (by kernel_rfl) (by kernel_rfl) (by kernel_rfl) (by kernel_rfl) (by kernel_rfl) (by kernel_rfl) h3
  intro g vs hg
  unfold gl at hg
  simp only [lk] at hg
  split at hg
  · rename_i e
    subst e
    cases hg
    unfold Lib.TabIs World.var? at ht
    rw [show Tryd.prog.globalNamed "internal/strconv.uint64pow10" = some 1 by kernel_rfl] at ht
    simp only [Option.bind_some] at ht
    split at ht
    · rename_i cs ty fr hh
      cases ht
      refine ⟨(Array.getElem?_eq_some_iff.1 hh).1, ty, fr, ?_⟩
      rw [hh]
      unfold Lib.pow10Tab
      rw [List.map_map]; rfl
    · cases ht
  · cases hg
theorem glob_write {W : World} (h : laidMetH Tryd.prog Rows.fnExactWordWriteRow.laid W) : Glob W (· < W.heap.size) := glob_of (by kernel_rfl) h
end Go.Abs.D
