/-
The row of the law FnExactLogTorn: for every input that can be read the call returns true, and each argument reads behind the call as it read before.
Conditions: none beyond the form's own reach.
-/
import Derived.Test.YtilogdijodgcgaaDoorRows
import Derived.Test.YtilogdijodgcgaaDoorGLog6
import Derived.Test.YtilogdijodgcgaaDoorGGlob
import Derived.Test.YtilogdijodgcgaaDoorCards
import Derived.Test.YtilogdijodgcgaaDoorTie
import Derived.WalkKit
import Derived.ProofKit
import Derived.OpenShut
import Derived.ShutString
import Derived.ChangeOld
import Derived.Below
import Derived.SizedLaws
import Derived.OpenVars
import Derived.ChangeVars
import Derived.LaidMore
import Derived.Stop.Joined
import Derived.SevenTiedAt
import Derived.Lay
import Derived.MakeChecks
namespace Go.Proofs.YtilogdijodgcgaaDoor.fnExactLogTorn
open Go.ChangeShapes Go.WideShapes Go.ChangeAt Go.RowKit Go.Abs Go.Proofs.YtilogdijodgcgaaDoor
open Go.ChangeMaps (open_string shut_string)
set_option linter.unusedVariables false
theorem own : ownKnob Tryd.prog.godebug = none := by kernel_rfl
theorem laidOut : laidOutB Tryd.prog = true := by kernel_rfl
theorem door_met (os : Os) (args : Array Value) : laidMetH Tryd.prog Rows.fnExactLogTornRow.laid ((World.laidAll Tryd.prog os Rows.fnExactLogTornRow.laid).forCall (fun _ _ => 0) ⟨#[], args, []⟩).memory :=
  by rw [MakeChecks.laidMetH_plain _ _ _ (by kernel_rfl)]; exact laidMet_laidAll args (by kernel_rfl) (by kernel_rfl)
set_option maxRecDepth 100000 in
theorem lifted (os : Os) (started : os.Started) (H : Type) (enc : TypeId × Value → H) :
    ReturnsInHanded {} Tryd.checked os 7 .any (fun w args => (Rows.fnExactLogTornSpec.pre enc Tryd.prog Tryd.f7 Rows.fnExactLogTornRow.domain false w args ∧ laidMetH Tryd.prog Rows.fnExactLogTornRow.laid w) ∧ sizedMet enc Tryd.prog Tryd.f7 (OpenSpec.ofChange Rows.fnExactLogTornSpec) false w args) (Rows.fnExactLogTornSpec.post enc Tryd.prog Tryd.f7 false true false false) := by
  refine returnsInHanded_of_change_and (C := Tryd.checked) (X := fun w _ => laidMetH Tryd.prog Rows.fnExactLogTornRow.laid w) (fun _ _ _ hh h => h.of_heap hh) own started (by kernel_rfl) Tryd.func7
    (ChangeSpec.witness_shaped (enc := enc) (C := Tryd.checked) (os := os) (X := fun w _ => laidMetH Tryd.prog Rows.fnExactLogTornRow.laid w) false (World.laidAll Tryd.prog os Rows.fnExactLogTornRow.laid) #[.string ByteArray.empty, .string ByteArray.empty, .int .i64 0] 8 (World.laidAll_os _ _ _) (World.shaped_of_ZipB (by kernel_rfl) (by kernel_rfl)) (by kernel_rfl) (by kernel_rfl) (by kernel_rfl) (door_met os _)) ?_
  intro W base args ds gs before hval0 hW hcnd hsz0 hL _
  have hval : ∀ (j : Nat) t v, Tryd.f7.params[j]? = some t → args[j]? = some v → Value.okWide Tryd.prog W .any base t v := hval0
  have hW' := hW
  obtain ⟨p, q, hA0, hV, rfl, hfz, hnd⟩ := hW
  have hA : DataW.TrodAll enc Tryd.prog W 0 (fun _ => true) true Tryd.f7.params.toList args.toList ds p := hA0
  rw [Tryd.params7] at hA hval
  obtain ⟨v0, vs0, d0, ds0, p0, q0, hargs, rfl, rfl, h0, r0⟩ := trodAll_cons hA
  obtain ⟨v1, vs1, d1, ds1, p1, q1, rfl, rfl, rfl, h1, r1⟩ := trodAll_cons r0
  obtain ⟨v2, vs2, d2, ds2, p2, q2, rfl, rfl, rfl, h2, r2⟩ := trodAll_cons r1
  obtain ⟨rfl, rfl, rfl⟩ := trodAll_nil r2
  obtain rfl : args = #[v0, v1, v2] := by cases args; simp_all
  obtain ⟨dg, rfl⟩ : ∃ d, gs = [d] := by obtain ⟨_, _, _, _, d, _, h, _⟩ := Go.ChangeShapes.trodVars_one hV; exact ⟨d, h⟩
  have k0 := h0
  have lt0 : ∀ x ∈ p0, x.block < W.heap.size := by obtain ⟨m, hm⟩ := k0; exact DataW.trod_lt m _ _ _ hm
  obtain ⟨fuel0, hf0⟩ := h0
  obtain ⟨a0, ok0, hl0, _, hr0⟩ := (Rd.string Tryd.underlying9 (by kernel_rfl)).read hf0
  have hc0 : v0.cells.toList = [v0] := by
    obtain ⟨a, e, _⟩ := open_string Tryd.underlying9 (hval 0 9 v0 rfl rfl) k0
    rw [e]; rfl
  have rep0 : ∀ σ, RepV W (· < W.heap.size) σ _ v0 := fun σ => repV_one (σ := σ) (hr0 0 _ v0 rfl (by rw [hc0]; rfl))
  have k1 := h1
  have lt1 : ∀ x ∈ p1, x.block < W.heap.size := by obtain ⟨m, hm⟩ := k1; exact DataW.trod_lt m _ _ _ hm
  obtain ⟨fuel1, hf1⟩ := h1
  obtain ⟨a1, ok1, hl1, _, hr1⟩ := (Rd.string Tryd.underlying9 (by kernel_rfl)).read hf1
  have hc1 : v1.cells.toList = [v1] := by
    obtain ⟨a, e, _⟩ := open_string Tryd.underlying9 (hval 1 9 v1 rfl rfl) k1
    rw [e]; rfl
  have rep1 : ∀ σ, RepV W (· < W.heap.size) σ _ v1 := fun σ => repV_one (σ := σ) (hr1 0 _ v1 rfl (by rw [hc1]; rfl))
  have k2 := h2
  have lt2 : ∀ x ∈ p2, x.block < W.heap.size := by obtain ⟨m, hm⟩ := k2; exact DataW.trod_lt m _ _ _ hm
  obtain ⟨fuel2, hf2⟩ := h2
  obtain ⟨a2, ok2, hl2, _, hr2⟩ := (Rd.int Tryd.underlying3 (by kernel_rfl)).read hf2
  have hc2 : v2.cells.toList = [v2] := by
    obtain ⟨a, e, _⟩ := open_int Tryd.underlying3 (hval 2 3 v2 rfl rfl) k2
    rw [e]; rfl
  have rep2 : ∀ σ, RepV W (· < W.heap.size) σ _ v2 := fun σ => repV_one (σ := σ) (hr2 0 _ v2 rfl (by rw [hc2]; rfl))
  clear hA0 hval0 hsz0
  obtain ⟨r, out, rfl, h⟩ := Go.Abs.E.torn_good a0 a1 a2 ok0 ok1 ok2
  have hcl := good_calls h (w := W) (vs := #[v0, v1, v2]) rfl (by
    intro i av v h1 h2 σ
    rcases i with _ | i
    · cases h1; cases h2; exact rep0 σ
    rcases i with _ | i
    · cases h1; cases h2; exact rep1 σ
    rcases i with _ | i
    · cases h1; cases h2; exact rep2 σ
    · simp at h1)
    (by
      intro av hm
      simp only [List.mem_cons, List.not_mem_nil, or_false] at hm
      rcases hm with rfl | rfl | rfl
      all_goals first | exact inA_one | exact inA_agg) (Go.Abs.E.glob_ExactLogTorn hL)
  refine hcl.mono fun e W' ⟨he, bel⟩ => ?_
  subst he
  exact ⟨_, rfl, _, _, _, [], _, q, hW', trodAll_mk1 (shut_bool Tryd.underlying4 _), (trodAll_cons_mk (Below.trod laidOut (by kernel_rfl) (of_decide_eq_true (by kernel_rfl)) k0 bel lt0) (trodAll_cons_mk (Below.trod laidOut (by kernel_rfl) (of_decide_eq_true (by kernel_rfl)) k1 bel lt1) (trodAll_cons_mk (Below.trod laidOut (by kernel_rfl) (of_decide_eq_true (by kernel_rfl)) k2 bel lt2) trodAll_mk0))), bel.trodVars laidOut (by kernel_rfl) hV, bel.frame _, fun h => by cases h⟩
theorem over : Rows.fnExactLogTornRow.holds Tryd.pinned (OpenSpec.ofChange Rows.fnExactLogTornSpec) :=
  OpenClaim.holds_of_wide 7 Tryd.f7 rfl rfl rfl rfl rfl rfl rfl ⟨rfl, rfl, rfl, rfl, rfl⟩ rfl rfl rfl rfl rfl (by kernel_rfl) Tryd.func7 (by kernel_rfl)
    (of_decide_eq_true (by kernel_rfl)) (by unfold Func.isWrapper; first | (rw [if_pos (by decide +kernel)]; kernel_rfl) | (rw [if_neg (by decide +kernel)]; exact ⟨rfl, rfl⟩))
    (fun os started H enc _ => lifted os started H enc)
theorem proved : Rows.FnExactLogTornCardSaid :=
  Claim7.holds_tied_plain_at .later [] [.data, .data, .data, .sentinel, .sentinel, .data] true (true, "4d53b854b2aabfe110c339551de6bc8455ab25b7f82409324f4764d9631be3f5") true
    over (fun _ h => by cases h) (by kernel_rfl) (fun _ h => by cases h) fnExactLogTorn_row_tie rfl ⟨rfl, rfl⟩ (by kernel_rfl) rfl
    (fun f fn hf hfn => by
      obtain rfl : f = 7 := Option.some.inj ((show Tryd.prog.funcNamed "loop.example/wellhead/laws.FnExactLogTorn" = some 7 by kernel_rfl).symm.trans hf) |>.symm
      obtain rfl : fn = Tryd.f7 := (Option.some.inj (Tryd.func7.symm.trans hfn)).symm
      exact ⟨by kernel_rfl, fun j t ht => by
        rw [Tryd.params7] at ht
        have hm : t ∈ [9, 9, 3] := by simpa using Array.mem_of_getElem? ht
        have hall : ([9, 9, 3].all fun u => !Tryd.prog.wantsStandIn u) = true := by kernel_rfl
        exact (show Tryd.prog.wantsStandIn t = false by simpa using List.all_eq_true.1 hall t hm)⟩)
    (by kernel_rfl)
#print axioms proved
end Go.Proofs.YtilogdijodgcgaaDoor.fnExactLogTorn
namespace Go.Proofs.YtilogdijodgcgaaDoor
/-- The row, under a short name, for the claim. -/
theorem fnExactLogTorn_holds : Rows.FnExactLogTornCardSaid := fnExactLogTorn.proved
end Go.Proofs.YtilogdijodgcgaaDoor
