/-
The row of the law FnExactCatTake: for every input that can be read the call returns true, and each argument reads behind the call as it read before.
Conditions: none beyond the form's own reach.
-/
import Derived.Test.YtbpmfdpbgcpjeaaRows
import Derived.Test.YtbpmfdpbgcpjeaaPFnExactCatTakex21
import Derived.Test.YtbpmfdpbgcpjeaaPureFnExactCatTake
import Derived.Test.YtbpmfdpbgcpjeaaVReads
import Derived.WalkKit
import Derived.ProofKit
import Derived.OpenShut
import Derived.ShutString
import Derived.ChangeOld
import Derived.Below
import Derived.SizedLaws
namespace Go.Proofs.Ytbpmfdpbgcpjeaa.fnExactCatTake
open Go.ChangeShapes Go.WideShapes Go.ChangeAt Go.RowKit Go.Proofs.Ytbpmfdpbgcpjeaa.Rd Go.Proofs.YtbpmfdpbgcpjeaaW.PrintWords Go.Proofs.Ytbpmfdpbgcpjeaa.PFnExactCatTake
open Go.ChangeMaps (open_string shut_string)
set_option linter.unusedVariables false
theorem own : ownKnob Try.prog.godebug = none := by kernel_rfl
theorem laidOut : laidOutB Try.prog = true := by kernel_rfl
set_option maxRecDepth 100000 in
theorem lifted (os : Os) (started : os.Started) (H : Type) (enc : TypeId × Value → H) :
    ReturnsInHanded {} Try.checked os 8 .any (Rows.fnExactCatTakeSpec.pre6 enc Try.prog Try.f8 Rows.fnExactCatTakeRow.domain false) (Rows.fnExactCatTakeSpec.post enc Try.prog Try.f8 false true false false) := by
  refine returnsInHanded_of_change_sized (C := Try.checked) own started (by kernel_rfl) Try.func8
    (ChangeSpec.witness6 (enc := enc) (C := Try.checked) false ⟨#[], #[.agg #[.int .i64 0, .slice none 0 0], .int .i64 0, .string ByteArray.empty], []⟩ 8 (by kernel_rfl) (by kernel_rfl) (by kernel_rfl) (by kernel_rfl)) ?_
  intro W base args ds gs before hval0 hW hcnd hsz0 _
  have hval : ∀ (j : Nat) t v, Try.f8.params[j]? = some t → args[j]? = some v → Value.okWide Try.prog W .any base t v := hval0
  have hW' := hW
  obtain ⟨p, q, hA0, hV, rfl, hfz, hnd⟩ := hW
  have hA : DataW.TrodAll enc Try.prog W 0 (fun _ => true) true Try.f8.params.toList args.toList ds p := hA0
  rw [Try.params8] at hA hval
  obtain ⟨v0, vs0, d0, ds0, p0, q0, hargs, rfl, rfl, h0, r0⟩ := trodAll_cons hA
  obtain ⟨v1, vs1, d1, ds1, p1, q1, rfl, rfl, rfl, h1, r1⟩ := trodAll_cons r0
  obtain ⟨v2, vs2, d2, ds2, p2, q2, rfl, rfl, rfl, h2, r2⟩ := trodAll_cons r1
  obtain ⟨rfl, rfl, rfl⟩ := trodAll_nil r2
  obtain rfl : args = #[v0, v1, v2] := by cases args; simp_all
  obtain ⟨rfl, rfl⟩ := trodVars_none hV
  have k0 := h0
  have lt0 : ∀ x ∈ p0, x.block < W.heap.size := by obtain ⟨m, hm⟩ := k0; exact DataW.trod_lt m _ _ _ hm
  obtain ⟨fuel0, hf0⟩ := h0
  obtain ⟨b0, hK0, ok0⟩ := (Rdr.struct Try.underlying24 (by kernel_rfl) (FRdr.cons rfl (Rdr.int Try.underlying3 (by kernel_rfl)) (FRdr.last rfl (Rdr.slice Try.underlying22 (by kernel_rfl) (show Rdr Try.prog 78 k78 _ from Rdr.iso (Rdr.struct Try.underlying78 (by kernel_rfl) (FRdr.cons rfl (Rdr.int Try.underlying3 (by kernel_rfl)) (FRdr.cons rfl (Rdr.string Try.underlying9 (by kernel_rfl)) (FRdr.cons rfl (Rdr.int Try.underlying3 (by kernel_rfl)) (FRdr.last rfl (Rdr.string Try.underlying9 (by kernel_rfl))))))) _ (fun b => ⟨b.1, b.2.1, b.2.2.1, b.2.2.2⟩) (fun _ => rfl)))))).read hf0
  obtain ⟨cs0, rfl, _⟩ := okWide_struct Try.underlying24 (hval 0 24 v0 rfl rfl)
  obtain ⟨a0_0, l0_1⟩ := b0
  obtain ⟨_, _, hcs0, rfl, ⟨A0_1, c0_1, rfl, hc0_1, hr0_1⟩⟩ := hK0
  obtain rfl : cs0 = #[.int .i64 a0_0, .slice A0_1 l0_1.length c0_1] := by
    apply Array.toList_inj.1
    simpa [Value.cells] using hcs0
  obtain ⟨a1, rfl, rfl, rfl, ok1⟩ := open_int Try.underlying3 (hval 1 3 v1 rfl rfl) h1
  obtain ⟨a2, rfl, rfl, rfl, ok2⟩ := open_string Try.underlying9 (hval 2 9 v2 rfl rfl) h2
  clear hA0 hval0 hsz0
  obtain ⟨k, h⟩ := Pure.FnExactCatTake a0_0 l0_1 a1 a2 ok0 ok1 ok2
  refine (laws_FnExactCatTake.calls k _ _ _ _ _ _ true W hr0_1 hc0_1 h).mono fun e W' ⟨he, bel0⟩ => ?_
  have bel : Below W.heap.size W W' := bel0
  subst he
  exact ⟨_, rfl, _, _, _, [], _, [], hW', trodAll_mk1 (shut_bool Try.underlying4 _), (trodAll_cons_mk (Below.trod laidOut (by kernel_rfl) (of_decide_eq_true (by kernel_rfl)) k0 bel lt0) (trodAll_cons_mk (shut_int Try.underlying3 ok1) (trodAll_cons_mk (shut_string Try.underlying9 ok2) trodAll_mk0))), rfl, bel.frame _, fun h => by cases h⟩
theorem over : Rows.fnExactCatTakeRow.holds Try.pinned (OpenSpec.ofChange Rows.fnExactCatTakeSpec) :=
  OpenClaim.holds_of_wide 8 Try.f8 rfl rfl rfl rfl rfl rfl rfl ⟨rfl, rfl, rfl, rfl, rfl⟩ rfl rfl rfl rfl rfl (by kernel_rfl) Try.func8 (by kernel_rfl)
    (of_decide_eq_true (by kernel_rfl)) (by unfold Func.isWrapper; first | (rw [if_pos (by decide +kernel)]; kernel_rfl) | (rw [if_neg (by decide +kernel)]; exact ⟨rfl, rfl⟩))
    (fun os started H enc _ => lifted os started H enc)
theorem proved : Rows.FnExactCatTakeSaid := over
#print axioms proved
end Go.Proofs.Ytbpmfdpbgcpjeaa.fnExactCatTake
namespace Go.Proofs.Ytbpmfdpbgcpjeaa
/-- The row, under a short name, for the claim. -/
theorem fnExactCatTake_holds : Rows.FnExactCatTakeSaid := fnExactCatTake.proved
end Go.Proofs.Ytbpmfdpbgcpjeaa
