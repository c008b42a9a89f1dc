import Derived.Test.YtbpmfdpbgcpjeaaGreatDoorMWord
import Derived.Test.YtbpmfdpbgcpjeaaGreatDoorRows
import Derived.LaidSub
import Derived.LaidLaws
import Derived.Lib.LaidTab
set_option linter.unusedSimpArgs false
set_option linter.unusedVariables false
namespace Go.Abs.W
open Go Go.Abs Go.Proofs Go.RowKit
theorem sent_of_head {P : Program} {W : World} {name nm : String} {d : DataW Unit} {rest : List (String × DataW Unit)} {g : Nat} {t : TypeId} {ms : Array (String × TypeId)} (hg : P.globalNamed name = some g) (hty : (P.globals[g]?).map (·.type) = some t)
    (hi : P.underlying t = some (.interface ms)) (h : laidMet P ((name, .iface nm d) :: rest) W) : g < W.heap.size ∧ ∃ u v ty fr, W.heap[g]? = some (.cells #[.iface u v] ty fr) := by
  obtain ⟨ps, ⟨g', t', cs, fuel, p, q, hg', ht', hvar, hd, _, _⟩, _⟩ := h
  obtain rfl := Option.some.inj (hg.symm.trans hg')
  obtain rfl := Option.some.inj (hty.symm.trans ht')
  obtain ⟨f', u, v, hc, _⟩ := iface_of_trod hi hd
  unfold World.var? at hvar
  rw [hg] at hvar
  simp only [Option.bind_some] at hvar
  split at hvar
  · rename_i cs' ty fr hh
    cases hvar
    exact ⟨(Array.getElem?_eq_some_iff.1 hh).1, u, v, ty, fr, by rw [hh, show cs = #[.iface u v] from Array.ext' hc]⟩
  · cases hvar
theorem tab_at {W : World} {rest : List (String × DataW Unit)} (h : laidMet Tryz.prog (("internal/strconv.uint64pow10", Lib.tabData .u64 Lib.pow10Tab) :: rest) W) {g : Nat} {t e : TypeId} {n : Nat} (hg : Tryz.prog.globalNamed "internal/strconv.uint64pow10" = some g) (hty : (Tryz.prog.globals[g]?).map (·.type) = some t)
    (ht : Tryz.prog.underlying t = some (.array n e)) (he : Tryz.prog.underlying e = some (.int .u64)) (hce : Tryz.prog.cellsOf e = 1) (hct : Tryz.prog.cellsOf t = n) : g < W.heap.size ∧ ∃ ty fr, W.heap[g]? = some (.cells ((List.range 20).map fun i => Value.int .u64 ((10 ^ i : Nat) : Int)).toArray ty fr) := by
  have h2 := Lib.tabIs_of_head (P := Tryz.prog) hg hty ht he hce hct h
  unfold Lib.TabIs World.var? at h2
  rw [hg] at h2
  simp only [Option.bind_some] at h2
  split at h2
  · rename_i cs ty fr hh
    cases h2
    refine ⟨(Array.getElem?_eq_some_iff.1 hh).1, ty, fr, ?_⟩
    rw [hh]
    unfold Lib.pow10Tab
    rw [List.map_map]; rfl
  · cases h2
theorem laid_one {P : Program} {l : List (String × DataW Unit)} {W : World} {n : String} {d : DataW Unit} (hl : (l.filter fun x => x.1 == n) = [(n, d)]) (hd : d.handleName? = none) (h : laidMetH P l W) : laidMet P [(n, d)] W := by
  have h1 := h.filter (fun x => x.1 == n)
  rw [hl] at h1
  have h2 := (laidMetH_iff.1 h1).1
  have e : ([(n, d)].filter fun x => x.2.handleName?.isNone) = [(n, d)] := by simp [hd]
  rw [e] at h2
  exact h2
theorem glob_of {l : List (String × DataW Unit)} {W : World} (d2 d3 : DataW Unit) (n2 n3 : String) (h1 : (l.filter fun x => x.1 == "internal/strconv.uint64pow10") = [("internal/strconv.uint64pow10", Lib.tabData .u64 Lib.pow10Tab)])
    (h2 : (l.filter fun x => x.1 == "strconv.ErrSyntax") = [("strconv.ErrSyntax", .iface n2 d2)]) (e2 : (DataW.iface n2 d2).handleName? = none) (h3 : (l.filter fun x => x.1 == "strconv.ErrRange") = [("strconv.ErrRange", .iface n3 d3)]) (e3 : (DataW.iface n3 d3).handleName? = none) (h : laidMetH Tryz.prog l W) : Glob W (· < W.heap.size) := by
  have t1 := tab_at (laid_one h1 rfl h) (g := 3) (t := 135) (e := 110) (n := 20) (by kernel_rfl) (by kernel_rfl) (by kernel_rfl) (by kernel_rfl) (by kernel_rfl) (by kernel_rfl)
  have t2 := sent_of_head (P := Tryz.prog) (g := 1) (t := 80) (by kernel_rfl) (by kernel_rfl) Tryz.underlying80 (laid_one h2 e2 h)
  have t3 := sent_of_head (P := Tryz.prog) (g := 2) (t := 80) (by kernel_rfl) (by kernel_rfl) Tryz.underlying80 (laid_one h3 e3 h)
  refine ⟨fun g vs hg => ?_, fun g hg => ?_⟩
  · unfold gl at hg
    simp only [lk] at hg
    split at hg
    · rename_i e
      subst e
      cases hg
      exact t1
    · cases hg
  · unfold glw at hg
    simp only [List.mem_cons, List.not_mem_nil, or_false] at hg
    rcases hg with rfl | rfl
    · exact t2
    · exact t3
@[reducible] def dSyn : DataW Unit := .ptr (.agg [.lit (.string [105, 110, 118, 97, 108, 105, 100, 32, 115, 121, 110, 116, 97, 120])])
@[reducible] def dRng : DataW Unit := .ptr (.agg [.lit (.string [118, 97, 108, 117, 101, 32, 111, 117, 116, 32, 111, 102, 32, 114, 97, 110, 103, 101])])
theorem glob_of1 {W : World} (h : laidMetH Tryz.prog Go.Proofs.YtbpmfdpbgcpjeaaGreatDoor.Rows.fnCatOfRow.laid W) : Glob W (· < W.heap.size) := glob_of dSyn dRng "*errors.errorString" "*errors.errorString" (by kernel_rfl) (by kernel_rfl) (by kernel_rfl) (by kernel_rfl) (by kernel_rfl) h
theorem glob_of2 {W : World} (h : laidMetH Tryz.prog Go.Proofs.YtbpmfdpbgcpjeaaGreatDoor.Rows.fnExactCatOfRow.laid W) : Glob W (· < W.heap.size) := glob_of dSyn dRng "*errors.errorString" "*errors.errorString" (by kernel_rfl) (by kernel_rfl) (by kernel_rfl) (by kernel_rfl) (by kernel_rfl) h
end Go.Abs.W
