import Derived.Test.YtfhcoohdmjfkbaaDoorGAbs24
import Derived.Sort.Grow
import Derived.Deep.Draws
set_option linter.unusedSimpArgs false
set_option linter.unusedVariables false
namespace Go.Abs
open Go Go.RowKit
/-- The package's variables, in memory alone. -/
def GlobH (w : World) : Prop := ∀ g vs, lk gl g = some vs → ∃ ty fr, w.heap[g]? = some (.cells vs.toArray ty fr)
/-- A contract of the shelf on plain values (new blocks and draws only) is a contract here. -/
theorem good_lit {P : Program} {f : FuncId} {vs : List Value} {r : Value} (h : ∀ w, GlobH w → Calls P f vs.toArray w fun e w' => e = .returned r ∧ ∃ k os, w' = Go.Sort.grow (w.drewN k) os) : Good P f (vs.map fun v => lit v) [] (lit r) [] := by
  intro w us σ S hl hr hin hlent hap hS hG
  have hu : us = vs.toArray := by
    apply Array.ext'
    apply List.ext_getElem (by simpa using hl.symm)
    intro i h1 h2
    have := hr i (lit vs[i]) us[i] (by rw [List.getElem?_map, List.getElem?_eq_getElem (by simpa using h2)]; rfl) (by rw [Array.getElem?_eq_getElem (by simpa using h1)])
    have := lit_inv this rfl
    simpa using this
  subst hu
  refine Calls.mono (h w fun g vs hg => (hG g vs hg).2) ?_
  rintro e w' ⟨rfl, k, os, rfl⟩
  have hheap : ∀ j, j < w.heap.size → (Go.Sort.grow (w.drewN k) os).heap[j]? = w.heap[j]? := fun j hj => by
    show (w.heap ++ os)[j]? = _
    rw [Array.getElem?_append_left hj]
  have hsize : w.heap.size ≤ (Go.Sort.grow (w.drewN k) os).heap.size := by
    show w.heap.size ≤ (w.heap ++ os).size
    rw [Array.size_append]; omega
  exact ⟨r, rfl, σ, S, .one (.p (.lit r)), .one trivial, Nat.le_refl _, fun b blk q => by simp at q, fun b b' q => by simp at q, fun b q => rfl, fun b q1 q2 => by simp at q2, fun j hj => Nat.lt_of_lt_of_le (hS j hj) hsize, fun j hj _ => hj, rfl, rfl, rfl, hsize, fun j hj _ => hheap j hj⟩
end Go.Abs
