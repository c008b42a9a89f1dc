/-
The row of the law FnExactCatOf: for every input that can be read the call returns true, and each argument reads behind the call as it read before.
Conditions: none beyond the form's own reach.
-/
import Derived.Test.YtbpmfdpbgcpjeaaGreatDoorRows
import Derived.Test.YtbpmfdpbgcpjeaaGreatDoorMLawX
import Derived.Test.YtbpmfdpbgcpjeaaGreatDoorMGlob
import Derived.Test.YtbpmfdpbgcpjeaaGreatDoorCards
import Derived.Test.YtbpmfdpbgcpjeaaGreatDoorTie
import Derived.WalkKit
import Derived.ProofKit
import Derived.OpenShut
import Derived.ShutString
import Derived.ChangeOld
import Derived.Below
import Derived.SizedLaws
import Derived.LaidMore
import Derived.Stop.Joined
import Derived.SevenTiedAt
import Derived.Lay
import Derived.MakeChecks
namespace Go.Proofs.YtbpmfdpbgcpjeaaGreatDoor.fnExactCatOf
open Go.ChangeShapes Go.WideShapes Go.ChangeAt Go.RowKit Go.Abs Go.Proofs.YtbpmfdpbgcpjeaaGreatDoor
open Go.ChangeMaps (open_string shut_string)
set_option linter.unusedVariables false
theorem own : ownKnob Tryz.prog.godebug = none := by kernel_rfl
theorem laidOut : laidOutB Tryz.prog = true := by kernel_rfl
theorem door_met (os : Os) (args : Array Value) : laidMetH Tryz.prog Rows.fnExactCatOfRow.laid ((World.laidAll Tryz.prog os Rows.fnExactCatOfRow.laid).forCall (fun _ _ => 0) ⟨#[], args, []⟩).memory :=
  by rw [MakeChecks.laidMetH_plain _ _ _ (by kernel_rfl)]; exact laidMet_laidAll args (by kernel_rfl) (by kernel_rfl)
set_option maxRecDepth 100000 in
theorem lifted (os : Os) (started : os.Started) (H : Type) (enc : TypeId × Value → H) :
    ReturnsInHanded {} Tryz.checked os 3 .any (fun w args => (Rows.fnExactCatOfSpec.pre enc Tryz.prog Tryz.f3 Rows.fnExactCatOfRow.domain false w args ∧ laidMetH Tryz.prog Rows.fnExactCatOfRow.laid w) ∧ sizedMet enc Tryz.prog Tryz.f3 (OpenSpec.ofChange Rows.fnExactCatOfSpec) false w args) (Rows.fnExactCatOfSpec.post enc Tryz.prog Tryz.f3 false true false false) := by
  refine returnsInHanded_of_change_and (C := Tryz.checked) (X := fun w _ => laidMetH Tryz.prog Rows.fnExactCatOfRow.laid w) (fun _ _ _ hh h => h.of_heap hh) own started (by kernel_rfl) Tryz.func3
    (ChangeSpec.witness_shaped (enc := enc) (C := Tryz.checked) (os := os) (X := fun w _ => laidMetH Tryz.prog Rows.fnExactCatOfRow.laid w) false (World.laidAll Tryz.prog os Rows.fnExactCatOfRow.laid) #[.slice none 0 0] 8 (World.laidAll_os _ _ _) (World.shaped_of_ZipB (by kernel_rfl) (by kernel_rfl)) (by kernel_rfl) (by kernel_rfl) (by kernel_rfl) (door_met os _)) ?_
  intro W base args ds gs before hval0 hW hcnd hsz0 hL _
  have hval : ∀ (j : Nat) t v, Tryz.f3.params[j]? = some t → args[j]? = some v → Value.okWide Tryz.prog W .any base t v := hval0
  have hW' := hW
  obtain ⟨p, q, hA0, hV, rfl, hfz, hnd⟩ := hW
  have hA : DataW.TrodAll enc Tryz.prog W 0 (fun _ => true) true Tryz.f3.params.toList args.toList ds p := hA0
  rw [Tryz.params3] at hA hval
  obtain ⟨v0, vs0, d0, ds0, p0, q0, hargs, rfl, rfl, h0, r0⟩ := trodAll_cons hA
  obtain ⟨rfl, rfl, rfl⟩ := trodAll_nil r0
  obtain rfl : args = #[v0] := by cases args; simp_all
  obtain ⟨rfl, rfl⟩ := trodVars_none hV
  have k0 := h0
  have lt0 : ∀ x ∈ p0, x.block < W.heap.size := by obtain ⟨m, hm⟩ := k0; exact DataW.trod_lt m _ _ _ hm
  obtain ⟨fuel0, hf0⟩ := h0
  obtain ⟨a0, ok0, hl0, _, hr0⟩ := (Rd.slice Tryz.underlying22 (by kernel_rfl) (by decide) (Rd.string Tryz.underlying9 (by kernel_rfl))).read hf0
  have hc0 : v0.cells.toList = [v0] := by
    obtain ⟨A, n, c, rfl⟩ := okWide_slice Tryz.underlying22 (hval 0 22 v0 rfl rfl)
    rfl
  have rep0 : ∀ σ, RepV W (· < W.heap.size) σ _ v0 := fun σ => repV_one (σ := σ) (hr0 0 _ v0 rfl (by rw [hc0]; rfl))
  clear hA0 hval0 hsz0
  obtain ⟨r, out, rfl, h⟩ := Go.Abs.C.fnExactCatOf_good a0 ok0
  have hcl := good_calls h (w := W) (vs := #[v0]) rfl (by
    intro i av v h1 h2 σ
    rcases i with _ | i
    · cases h1; cases h2; exact rep0 σ
    · simp at h1)
    (by
      intro av hm
      cases List.mem_singleton.1 hm
      all_goals first | exact inA_one | exact inA_agg) (Go.Abs.W.glob_of2 hL)
  refine hcl.mono fun e W' ⟨he, bel⟩ => ?_
  subst he
  exact ⟨_, rfl, _, _, _, [], _, [], hW', trodAll_mk1 (shut_bool Tryz.underlying4 _), (trodAll_cons_mk (Below.trod laidOut (by kernel_rfl) (of_decide_eq_true (by kernel_rfl)) k0 bel lt0) trodAll_mk0), rfl, bel.frame _, fun h => by cases h⟩
theorem over : Rows.fnExactCatOfRow.holds Tryz.pinned (OpenSpec.ofChange Rows.fnExactCatOfSpec) :=
  OpenClaim.holds_of_wide 3 Tryz.f3 rfl rfl rfl rfl rfl rfl rfl ⟨rfl, rfl, rfl, rfl, rfl⟩ rfl rfl rfl rfl rfl (by kernel_rfl) Tryz.func3 (by kernel_rfl)
    (of_decide_eq_true (by kernel_rfl)) (by unfold Func.isWrapper; first | (rw [if_pos (by decide +kernel)]; kernel_rfl) | (rw [if_neg (by decide +kernel)]; exact ⟨rfl, rfl⟩))
    (fun os started H enc _ => lifted os started H enc)
theorem proved : Rows.FnExactCatOfCardSaid :=
  Claim7.holds_tied_plain_at .later [] [.data, .data, .data, .sentinel, .sentinel] true (true, "ee0e4366b9f1a2ab5db48058b8a3ba1f27b1d09998526d08eb4369241362948b") true
    over (fun _ h => by cases h) (by kernel_rfl) (fun _ h => by cases h) fnExactCatOf_row_tie rfl ⟨rfl, rfl⟩ (by kernel_rfl) rfl
    (fun f fn hf hfn => by
      obtain rfl : f = 3 := Option.some.inj ((show Tryz.prog.funcNamed "loop.example/wellhead/laws.FnExactCatOf" = some 3 by kernel_rfl).symm.trans hf) |>.symm
      obtain rfl : fn = Tryz.f3 := (Option.some.inj (Tryz.func3.symm.trans hfn)).symm
      exact ⟨by kernel_rfl, fun j t ht => by
        rw [Tryz.params3] at ht
        have hm : t ∈ [22] := by simpa using Array.mem_of_getElem? ht
        have hall : ([22].all fun u => !Tryz.prog.wantsStandIn u) = true := by kernel_rfl
        exact (show Tryz.prog.wantsStandIn t = false by simpa using List.all_eq_true.1 hall t hm)⟩)
    (by kernel_rfl)
#print axioms proved
end Go.Proofs.YtbpmfdpbgcpjeaaGreatDoor.fnExactCatOf
namespace Go.Proofs.YtbpmfdpbgcpjeaaGreatDoor
/-- The row, under a short name, for the claim. -/
theorem fnExactCatOf_holds : Rows.FnExactCatOfCardSaid := fnExactCatOf.proved
end Go.Proofs.YtbpmfdpbgcpjeaaGreatDoor
