/-
The row of the law FnPlanText: for every input that can be read the call returns true, and each argument reads behind the call as it read before.
Conditions: none beyond the form's own reach.
-/
import Derived.Test.YtfhcoohdmjfkbaaDoorRows
import Derived.Test.YtfhcoohdmjfkbaaDoorMPlan
import Derived.Test.YtfhcoohdmjfkbaaDoorGGlobR
import Derived.Test.YtfhcoohdmjfkbaaDoorCards
import Derived.Test.YtfhcoohdmjfkbaaDoorTie
import Derived.WalkKit
import Derived.ProofKit
import Derived.OpenShut
import Derived.ShutString
import Derived.ChangeOld
import Derived.Below
import Derived.SizedLaws
import Derived.LaidMore
import Derived.Stop.Joined
import Derived.SevenTiedAt
import Derived.Lay
import Derived.MakeChecks
namespace Go.Proofs.YtfhcoohdmjfkbaaDoor.fnPlanText
open Go.ChangeShapes Go.WideShapes Go.ChangeAt Go.RowKit Go.Abs Go.Proofs.YtfhcoohdmjfkbaaDoor
open Go.ChangeMaps (open_string shut_string)
set_option linter.unusedVariables false
theorem own : ownKnob Tryd.prog.godebug = none := by kernel_rfl
theorem laidOut : laidOutB Tryd.prog = true := by kernel_rfl
theorem door_met (os : Os) (args : Array Value) : laidMetH Tryd.prog Rows.fnPlanTextRow.laid ((World.laidAll Tryd.prog os Rows.fnPlanTextRow.laid).forCall (fun _ _ => 0) ⟨#[], args, []⟩).memory :=
  by rw [MakeChecks.laidMetH_plain _ _ _ (by kernel_rfl)]; exact laidMet_laidAll args (by kernel_rfl) (by kernel_rfl)
set_option maxRecDepth 100000 in
theorem lifted (os : Os) (started : os.Started) (H : Type) (enc : TypeId × Value → H) :
    ReturnsInHanded {} Tryd.checked os 7 .any (fun w args => (Rows.fnPlanTextSpec.pre enc Tryd.prog Tryd.f7 Rows.fnPlanTextRow.domain false w args ∧ laidMetH Tryd.prog Rows.fnPlanTextRow.laid w) ∧ sizedMet enc Tryd.prog Tryd.f7 (OpenSpec.ofChange Rows.fnPlanTextSpec) false w args) (Rows.fnPlanTextSpec.post enc Tryd.prog Tryd.f7 false true false false) := by
  refine returnsInHanded_of_change_and (C := Tryd.checked) (X := fun w _ => laidMetH Tryd.prog Rows.fnPlanTextRow.laid w) (fun _ _ _ hh h => h.of_heap hh) own started (by kernel_rfl) Tryd.func7
    (ChangeSpec.witness_shaped (enc := enc) (C := Tryd.checked) (os := os) (X := fun w _ => laidMetH Tryd.prog Rows.fnPlanTextRow.laid w) false (World.laidAll Tryd.prog os Rows.fnPlanTextRow.laid) #[.slice none 0 0, .slice none 0 0] 8 (World.laidAll_os _ _ _) (World.shaped_of_ZipB (by kernel_rfl) (by kernel_rfl)) (by kernel_rfl) (by kernel_rfl) (by kernel_rfl) (door_met os _)) ?_
  intro W base args ds gs before hval0 hW hcnd hsz0 hL _
  have hval : ∀ (j : Nat) t v, Tryd.f7.params[j]? = some t → args[j]? = some v → Value.okWide Tryd.prog W .any base t v := hval0
  have hW' := hW
  obtain ⟨p, q, hA0, hV, rfl, hfz, hnd⟩ := hW
  have hA : DataW.TrodAll enc Tryd.prog W 0 (fun _ => true) true Tryd.f7.params.toList args.toList ds p := hA0
  rw [Tryd.params7] at hA hval
  obtain ⟨v0, vs0, d0, ds0, p0, q0, hargs, rfl, rfl, h0, r0⟩ := trodAll_cons hA
  obtain ⟨v1, vs1, d1, ds1, p1, q1, rfl, rfl, rfl, h1, r1⟩ := trodAll_cons r0
  obtain ⟨rfl, rfl, rfl⟩ := trodAll_nil r1
  obtain rfl : args = #[v0, v1] := by cases args; simp_all
  obtain ⟨rfl, rfl⟩ := trodVars_none hV
  have k0 := h0
  have lt0 : ∀ x ∈ p0, x.block < W.heap.size := by obtain ⟨m, hm⟩ := k0; exact DataW.trod_lt m _ _ _ hm
  obtain ⟨fuel0, hf0⟩ := h0
  obtain ⟨a0, ok0, hl0, _, hr0⟩ := (Rd.slice Tryd.underlying33 (by kernel_rfl) (by decide) (Rd.int Tryd.underlying5 (by kernel_rfl))).read hf0
  have hc0 : v0.cells.toList = [v0] := by
    obtain ⟨A, n, c, rfl⟩ := okWide_slice Tryd.underlying33 (hval 0 33 v0 rfl rfl)
    rfl
  have rep0 : ∀ σ, RepV W (· < W.heap.size) σ _ v0 := fun σ => repV_one (σ := σ) (hr0 0 _ v0 rfl (by rw [hc0]; rfl))
  have k1 := h1
  have lt1 : ∀ x ∈ p1, x.block < W.heap.size := by obtain ⟨m, hm⟩ := k1; exact DataW.trod_lt m _ _ _ hm
  obtain ⟨fuel1, hf1⟩ := h1
  obtain ⟨a1, ok1, hl1, _, hr1⟩ := (Rd.slice Tryd.underlying33 (by kernel_rfl) (by decide) (Rd.int Tryd.underlying5 (by kernel_rfl))).read hf1
  have hc1 : v1.cells.toList = [v1] := by
    obtain ⟨A, n, c, rfl⟩ := okWide_slice Tryd.underlying33 (hval 1 33 v1 rfl rfl)
    rfl
  have rep1 : ∀ σ, RepV W (· < W.heap.size) σ _ v1 := fun σ => repV_one (σ := σ) (hr1 0 _ v1 rfl (by rw [hc1]; rfl))
  clear hA0 hval0 hsz0
  obtain ⟨r, out, rfl, h⟩ := Go.Abs.D.fnPlanText_good a0 a1 ok0 ok1
  have hcl := good_calls h (w := W) (vs := #[v0, v1]) rfl (by
    intro i av v h1 h2 σ
    rcases i with _ | i
    · cases h1; cases h2; exact rep0 σ
    rcases i with _ | i
    · cases h1; cases h2; exact rep1 σ
    · simp at h1)
    (by
      intro av hm
      simp only [List.mem_cons, List.not_mem_nil, or_false] at hm
      rcases hm with rfl | rfl
      all_goals first | exact inA_one | exact inA_agg) (Go.Abs.D.glob_plan hL)
  refine hcl.mono fun e W' ⟨he, bel⟩ => ?_
  subst he
  exact ⟨_, rfl, _, _, _, [], _, [], hW', trodAll_mk1 (shut_bool Tryd.underlying4 _), (trodAll_cons_mk (Below.trod laidOut (by kernel_rfl) (of_decide_eq_true (by kernel_rfl)) k0 bel lt0) (trodAll_cons_mk (Below.trod laidOut (by kernel_rfl) (of_decide_eq_true (by kernel_rfl)) k1 bel lt1) trodAll_mk0)), rfl, bel.frame _, fun h => by cases h⟩
theorem over : Rows.fnPlanTextRow.holds Tryd.pinned (OpenSpec.ofChange Rows.fnPlanTextSpec) :=
  OpenClaim.holds_of_wide 7 Tryd.f7 rfl rfl rfl rfl rfl rfl rfl ⟨rfl, rfl, rfl, rfl, rfl⟩ rfl rfl rfl rfl rfl (by kernel_rfl) Tryd.func7 (by kernel_rfl)
    (of_decide_eq_true (by kernel_rfl)) (by unfold Func.isWrapper; first | (rw [if_pos (by decide +kernel)]; kernel_rfl) | (rw [if_neg (by decide +kernel)]; exact ⟨rfl, rfl⟩))
    (fun os started H enc _ => lifted os started H enc)
theorem proved : Rows.FnPlanTextCardSaid :=
  Claim7.holds_tied_plain_at .later [] [.data, .data, .data, .data, .sentinel, .sentinel, .pinned] true (true, "859fb48bebbe08803bef618249babfaa1322c48c846eeaa755dfaebdc7aa3228") true
    over (fun _ h => by cases h) (by kernel_rfl) (fun _ h => by cases h) fnPlanText_row_tie rfl ⟨rfl, rfl⟩ (by kernel_rfl) rfl
    (fun f fn hf hfn => by
      obtain rfl : f = 7 := Option.some.inj ((show Tryd.prog.funcNamed "loop.example/wellhead/laws.FnPlanText" = some 7 by kernel_rfl).symm.trans hf) |>.symm
      obtain rfl : fn = Tryd.f7 := (Option.some.inj (Tryd.func7.symm.trans hfn)).symm
      exact ⟨by kernel_rfl, fun j t ht => by
        rw [Tryd.params7] at ht
        have hm : t ∈ [33, 33] := by simpa using Array.mem_of_getElem? ht
        have hall : ([33, 33].all fun u => !Tryd.prog.wantsStandIn u) = true := by kernel_rfl
        exact (show Tryd.prog.wantsStandIn t = false by simpa using List.all_eq_true.1 hall t hm)⟩)
    (by kernel_rfl)
#print axioms proved
end Go.Proofs.YtfhcoohdmjfkbaaDoor.fnPlanText
namespace Go.Proofs.YtfhcoohdmjfkbaaDoor
/-- The row, under a short name, for the claim. -/
theorem fnPlanText_holds : Rows.FnPlanTextCardSaid := fnPlanText.proved
end Go.Proofs.YtfhcoohdmjfkbaaDoor
