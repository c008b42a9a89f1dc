import Derived.Test.YtmieklaakjabaaaGreatGAbs24
import Derived.Sort.Grow
import Derived.Deep.Draws
set_option linter.unusedSimpArgs false
set_option linter.unusedVariables false
namespace Go.Abs
open Go Go.RowKit
/-- The package's variables, in memory alone. -/
def GlobH (w : World) : Prop := (∀ g vs, lk gl g = some vs → ∃ ty fr, w.heap[g]? = some (.cells vs.toArray ty fr)) ∧ ∀ g, g ∈ glw → ∃ t v ty fr, w.heap[g]? = some (.cells #[.iface t v] ty fr)
theorem Glob.h {w : World} {S : Kx → Prop} (h : Glob w S) : GlobH w := ⟨fun g vs hl => (h.1 g vs hl).2, fun g hl => (h.2 g hl).2⟩
/-- A contract of the shelf on plain values (new blocks and draws only) is a contract here. -/
theorem good_lit {P : Program} {f : FuncId} {vs : List Value} {r : Value} (h : ∀ w, GlobH w → Calls P f vs.toArray w fun e w' => e = .returned r ∧ ∃ k os, w' = Go.Sort.grow (w.drewN k) os) : Good P f (vs.map fun v => lit v) [] (lit r) [] := by
  intro w us σ S hl hr hin hlent hap hS hG hF
  have hu : us = vs.toArray := by
    apply Array.ext'
    apply List.ext_getElem (by simpa using hl.symm)
    intro i h1 h2
    have := hr i (lit vs[i]) us[i] (by rw [List.getElem?_map, List.getElem?_eq_getElem (by simpa using h2)]; rfl) (by rw [Array.getElem?_eq_getElem (by simpa using h1)])
    have := lit_inv this rfl
    simpa using this
  subst hu
  refine Calls.mono (h w hG.h) ?_
  rintro e w' ⟨rfl, k, os, rfl⟩
  have hheap : ∀ j, j < w.heap.size → (Go.Sort.grow (w.drewN k) os).heap[j]? = w.heap[j]? := fun j hj => by
    show (w.heap ++ os)[j]? = _
    rw [Array.getElem?_append_left hj]
  have hsize : w.heap.size ≤ (Go.Sort.grow (w.drewN k) os).heap.size := by
    show w.heap.size ≤ (w.heap ++ os).size
    rw [Array.size_append]; omega
  exact ⟨r, rfl, σ, S, .one (.p (.lit r)), .one trivial, Nat.le_refl _, fun b blk q => by simp at q, fun b b' q => by simp at q, fun b q => rfl, fun b q1 q2 => by simp at q2, fun j hj => Nat.lt_of_lt_of_le (hS j hj) hsize, fun j hj _ => hj, rfl, rfl, rfl, hsize, fun j hj _ => hheap j hj, hF.ok, fun _ => hF⟩
theorem litsArgs {vs : List Value} {us : Array Value} {w : World} {σ : Nat → Loc} {S : Kx → Prop} (hl : (vs.map fun v => lit v).length = us.size) (hr : ∀ (i : Nat) av v, (vs.map fun v => lit v)[i]? = some av → us[i]? = some v → RepV w S σ av v) : us = vs.toArray := by
  apply Array.ext'
  apply List.ext_getElem (by simpa using hl.symm)
  intro i h1 h2
  have := hr i (lit vs[i]) us[i] (by rw [List.getElem?_map, List.getElem?_eq_getElem (by simpa using h2)]; rfl) (by rw [Array.getElem?_eq_getElem (by simpa using h1)])
  have := lit_inv this rfl
  simpa using this
/-- The same where only the blocks that were there are told to stand, and the result is what it may be. -/
theorem good_below {P : Program} {f : FuncId} {vs : List Value} {r : AV} {v : Value} (hr : ∀ w S σ, RepV w S σ r v) (hA : ∀ A, r.InA A) (h : ∀ w, GlobH w → Calls P f vs.toArray w fun e w' => e = .returned v ∧ Below w.heap.size w w') : Good P f (vs.map fun v => lit v) [] r [] := by
  intro w us σ S hl hrep hin hlent hap hS hG hF
  have hu := litsArgs hl hrep
  subst hu
  refine Calls.mono (h w hG.h) ?_
  rintro e w' ⟨rfl, hb⟩
  exact ⟨v, rfl, σ, S, hr _ _ _, hA _, Nat.le_refl _, fun b blk q => by simp at q, fun b b' q => by simp at q, fun b q => rfl, fun b q1 q2 => by simp at q2, fun j hj => Nat.lt_of_lt_of_le (hS j hj) hb.size, fun j hj _ => hj, hb.os, hb.tape, hb.output, hb.size, fun j hj _ => hb.block j hj, hF.ok, fun _ => hF⟩
theorem rep_tup {vs : List Value} (w : World) (S : Kx → Prop) (σ : Nat → Loc) : RepV w S σ (.tup (vs.map fun v => lit v)) (.tuple vs.toArray) := by
  refine .tup _ _ (by simp) fun i a v h1 h2 => ?_
  rw [List.getElem?_map] at h1
  simp only [List.getElem?_toArray] at h2
  rw [h2] at h1
  simp only [Option.map_some, Option.some.injEq] at h1
  subst h1
  exact .one (.p (.lit v))
theorem inA_tup {vs : List Value} (A : Nat → Prop) : (AV.tup (vs.map fun v => lit v)).InA A := .tup fun a ha => by
  obtain ⟨v, _, rfl⟩ := List.mem_map.1 ha
  exact .one trivial
theorem good_tupB {P : Program} {f : FuncId} {vs rs : List Value} (h : ∀ w, GlobH w → Calls P f vs.toArray w fun e w' => e = .returned (.tuple rs.toArray) ∧ Below w.heap.size w w') : Good P f (vs.map fun v => lit v) [] (.tup (rs.map fun v => lit v)) [] :=
  good_below (fun _ _ _ => rep_tup _ _ _) (fun _ => inA_tup _) h
theorem good_litB {P : Program} {f : FuncId} {vs : List Value} {r : Value} (h : ∀ w, GlobH w → Calls P f vs.toArray w fun e w' => e = .returned r ∧ Below w.heap.size w w') : Good P f (vs.map fun v => lit v) [] (lit r) [] :=
  good_below (fun _ _ _ => .one (.p (.lit r))) (fun _ => .one trivial) h
end Go.Abs
