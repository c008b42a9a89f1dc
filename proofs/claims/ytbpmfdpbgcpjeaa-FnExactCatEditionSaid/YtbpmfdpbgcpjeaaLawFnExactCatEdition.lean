/-
The row of the law FnExactCatEdition: for every input that can be read the call returns true, and each argument reads behind the call as it read before.
Conditions: none beyond the form's own reach.
-/
import Derived.Test.YtbpmfdpbgcpjeaaRows
import Derived.Test.YtbpmfdpbgcpjeaaPFnExactCatEditionx14
import Derived.Test.YtbpmfdpbgcpjeaaPureFnExactCatEdition
import Derived.Test.YtbpmfdpbgcpjeaaReads
import Derived.WalkKit
import Derived.ProofKit
import Derived.OpenShut
import Derived.ShutString
import Derived.ChangeOld
import Derived.Below
import Derived.SizedLaws
namespace Go.Proofs.Ytbpmfdpbgcpjeaa.fnExactCatEdition
open Go.ChangeShapes Go.WideShapes Go.ChangeAt Go.RowKit Go.Proofs.Ytbpmfdpbgcpjeaa.Rd Go.Proofs.YtbpmfdpbgcpjeaaW.PrintWords Go.Proofs.Ytbpmfdpbgcpjeaa.PFnExactCatEdition
open Go.ChangeMaps (open_string shut_string)
set_option linter.unusedVariables false
theorem own : ownKnob Try.prog.godebug = none := by kernel_rfl
theorem laidOut : laidOutB Try.prog = true := by kernel_rfl
set_option maxRecDepth 100000 in
theorem lifted (os : Os) (started : os.Started) (H : Type) (enc : TypeId × Value → H) :
    ReturnsInHanded {} Try.checked os 5 .any (Rows.fnExactCatEditionSpec.pre6 enc Try.prog Try.f5 Rows.fnExactCatEditionRow.domain false) (Rows.fnExactCatEditionSpec.post enc Try.prog Try.f5 false true false false) := by
  refine returnsInHanded_of_change_sized (C := Try.checked) own started (by kernel_rfl) Try.func5
    (ChangeSpec.witness6 (enc := enc) (C := Try.checked) false ⟨#[], #[.agg #[.int .i64 0, .slice none 0 0], .int .i64 0], []⟩ 8 (by kernel_rfl) (by kernel_rfl) (by kernel_rfl) (by kernel_rfl)) ?_
  intro W base args ds gs before hval0 hW hcnd hsz0 _
  have hval : ∀ (j : Nat) t v, Try.f5.params[j]? = some t → args[j]? = some v → Value.okWide Try.prog W .any base t v := hval0
  have hW' := hW
  obtain ⟨p, q, hA0, hV, rfl, hfz, hnd⟩ := hW
  have hA : DataW.TrodAll enc Try.prog W 0 (fun _ => true) true Try.f5.params.toList args.toList ds p := hA0
  rw [Try.params5] at hA hval
  obtain ⟨v0, vs0, d0, ds0, p0, q0, hargs, rfl, rfl, h0, r0⟩ := trodAll_cons hA
  obtain ⟨v1, vs1, d1, ds1, p1, q1, rfl, rfl, rfl, h1, r1⟩ := trodAll_cons r0
  obtain ⟨rfl, rfl, rfl⟩ := trodAll_nil r1
  obtain rfl : args = #[v0, v1] := by cases args; simp_all
  obtain ⟨rfl, rfl⟩ := trodVars_none hV
  have k0 := h0
  have lt0 : ∀ x ∈ p0, x.block < W.heap.size := by obtain ⟨m, hm⟩ := k0; exact DataW.trod_lt m _ _ _ hm
  obtain ⟨fuel0, hf0⟩ := h0
  obtain ⟨b0, hK0, ok0⟩ := (Rdr.struct Try.underlying24 (by kernel_rfl) (FRdr.cons rfl (Rdr.int Try.underlying3 (by kernel_rfl)) (FRdr.last rfl (Rdr.slice Try.underlying22 (by kernel_rfl) (show Rdr Try.prog 78 k78 _ from Rdr.iso (Rdr.struct Try.underlying78 (by kernel_rfl) (FRdr.cons rfl (Rdr.int Try.underlying3 (by kernel_rfl)) (FRdr.cons rfl (Rdr.string Try.underlying9 (by kernel_rfl)) (FRdr.cons rfl (Rdr.int Try.underlying3 (by kernel_rfl)) (FRdr.last rfl (Rdr.string Try.underlying9 (by kernel_rfl))))))) _ (fun b => ⟨b.1, b.2.1, b.2.2.1, b.2.2.2⟩) (fun _ => rfl)))))).read hf0
  obtain ⟨cs0, rfl, _⟩ := okWide_struct Try.underlying24 (hval 0 24 v0 rfl rfl)
  obtain ⟨a0_0, l0_1⟩ := b0
  obtain ⟨_, _, hcs0, rfl, ⟨A0_1, c0_1, rfl, hc0_1, hr0_1⟩⟩ := hK0
  obtain rfl : cs0 = #[.int .i64 a0_0, .slice A0_1 l0_1.length c0_1] := by
    apply Array.toList_inj.1
    simpa [Value.cells] using hcs0
  obtain ⟨a1, rfl, rfl, rfl, ok1⟩ := open_int Try.underlying3 (hval 1 3 v1 rfl rfl) h1
  clear hA0 hval0 hsz0
  obtain ⟨k, h⟩ := Pure.FnExactCatEdition a0_0 l0_1 a1 ok0 ok1
  refine (laws_FnExactCatEdition.calls k _ _ _ _ _ true W hr0_1 hc0_1 h).mono fun e W' ⟨he, bel0⟩ => ?_
  have bel : Below W.heap.size W W' := bel0
  subst he
  exact ⟨_, rfl, _, _, _, [], _, [], hW', trodAll_mk1 (shut_bool Try.underlying4 _), (trodAll_cons_mk (Below.trod laidOut (by kernel_rfl) (of_decide_eq_true (by kernel_rfl)) k0 bel lt0) (trodAll_cons_mk (shut_int Try.underlying3 ok1) trodAll_mk0)), rfl, bel.frame _, fun h => by cases h⟩
theorem over : Rows.fnExactCatEditionRow.holds Try.pinned (OpenSpec.ofChange Rows.fnExactCatEditionSpec) :=
  OpenClaim.holds_of_wide 5 Try.f5 rfl rfl rfl rfl rfl rfl rfl ⟨rfl, rfl, rfl, rfl, rfl⟩ rfl rfl rfl rfl rfl (by kernel_rfl) Try.func5 (by kernel_rfl)
    (of_decide_eq_true (by kernel_rfl)) (by unfold Func.isWrapper; first | (rw [if_pos (by decide +kernel)]; kernel_rfl) | (rw [if_neg (by decide +kernel)]; exact ⟨rfl, rfl⟩))
    (fun os started H enc _ => lifted os started H enc)
theorem proved : Rows.FnExactCatEditionSaid := over
#print axioms proved
end Go.Proofs.Ytbpmfdpbgcpjeaa.fnExactCatEdition
namespace Go.Proofs.Ytbpmfdpbgcpjeaa
/-- The row, under a short name, for the claim. -/
theorem fnExactCatEdition_holds : Rows.FnExactCatEditionSaid := fnExactCatEdition.proved
end Go.Proofs.Ytbpmfdpbgcpjeaa
