/-
The row of the law FnExactGetAdd: for every input that can be read the call returns true, and each argument reads behind the call as it read before.
Conditions: none beyond the form's own reach.
-/
import Derived.Test.YtmieklaakjabaaaGreatRows
import Derived.Test.YtmieklaakjabaaaGreatMD
import Derived.WalkKit
import Derived.ProofKit
import Derived.OpenShut
import Derived.ShutString
import Derived.ChangeOld
import Derived.Below
import Derived.SizedLaws
namespace Go.Proofs.YtmieklaakjabaaaGreat.fnExactGetAdd
open Go.ChangeShapes Go.WideShapes Go.ChangeAt Go.RowKit Go.Abs Go.Proofs.YtmieklaakjabaaaGreat
open Go.ChangeMaps (open_string shut_string)
set_option linter.unusedVariables false
theorem own : ownKnob Tryz.prog.godebug = none := by kernel_rfl
theorem laidOut : laidOutB Tryz.prog = true := by kernel_rfl
set_option maxRecDepth 100000 in
theorem lifted (os : Os) (started : os.Started) (H : Type) (enc : TypeId × Value → H) :
    ReturnsInHanded {} Tryz.checked os 4 .any (Rows.fnExactGetAddSpec.pre6 enc Tryz.prog Tryz.f4 Rows.fnExactGetAddRow.domain false) (Rows.fnExactGetAddSpec.post enc Tryz.prog Tryz.f4 false true false false) := by
  refine returnsInHanded_of_change_sized (C := Tryz.checked) own started (by kernel_rfl) Tryz.func4
    (ChangeSpec.witness6 (enc := enc) (C := Tryz.checked) false ⟨#[], #[.agg #[.int .i64 0, .int .i64 0, .slice none 0 0, .slice none 0 0, .int .i64 0, .int .i64 0, .slice none 0 0], .int .i64 0, .string ByteArray.empty], []⟩ 8 (by kernel_rfl) (by kernel_rfl) (by kernel_rfl) (by kernel_rfl)) ?_
  intro W base args ds gs before hval0 hW hcnd hsz0 _
  have hval : ∀ (j : Nat) t v, Tryz.f4.params[j]? = some t → args[j]? = some v → Value.okWide Tryz.prog W .any base t v := hval0
  have hW' := hW
  obtain ⟨p, q, hA0, hV, rfl, hfz, hnd⟩ := hW
  have hA : DataW.TrodAll enc Tryz.prog W 0 (fun _ => true) true Tryz.f4.params.toList args.toList ds p := hA0
  rw [Tryz.params4] at hA hval
  obtain ⟨v0, vs0, d0, ds0, p0, q0, hargs, rfl, rfl, h0, r0⟩ := trodAll_cons hA
  obtain ⟨v1, vs1, d1, ds1, p1, q1, rfl, rfl, rfl, h1, r1⟩ := trodAll_cons r0
  obtain ⟨v2, vs2, d2, ds2, p2, q2, rfl, rfl, rfl, h2, r2⟩ := trodAll_cons r1
  obtain ⟨rfl, rfl, rfl⟩ := trodAll_nil r2
  obtain rfl : args = #[v0, v1, v2] := by cases args; simp_all
  obtain ⟨rfl, rfl⟩ := trodVars_none hV
  have k0 := h0
  have lt0 : ∀ x ∈ p0, x.block < W.heap.size := by obtain ⟨m, hm⟩ := k0; exact DataW.trod_lt m _ _ _ hm
  obtain ⟨fuel0, hf0⟩ := h0
  obtain ⟨a0, ok0, hl0, _, hr0⟩ := (Rd.struct Tryz.underlying45 (by kernel_rfl) (FRd.cons rfl (Rd.struct Tryz.underlying40 (by kernel_rfl) (FRd.cons rfl (Rd.int Tryz.underlying3 (by kernel_rfl)) (FRd.cons rfl (Rd.int Tryz.underlying3 (by kernel_rfl)) (FRd.cons rfl (Rd.slice Tryz.underlying23 (by kernel_rfl) (by decide) (Rd.int Tryz.underlying3 (by kernel_rfl))) (FRd.last rfl (Rd.slice Tryz.underlying23 (by kernel_rfl) (by decide) (Rd.int Tryz.underlying3 (by kernel_rfl)))))))) (FRd.last rfl (Rd.struct Tryz.underlying43 (by kernel_rfl) (FRd.cons rfl (Rd.int Tryz.underlying3 (by kernel_rfl)) (FRd.cons rfl (Rd.int Tryz.underlying3 (by kernel_rfl)) (FRd.last rfl (Rd.slice Tryz.underlying41 (by kernel_rfl) (by decide) (Rd.struct Tryz.underlying121 (by kernel_rfl) (FRd.cons rfl (Rd.slice Tryz.underlying23 (by kernel_rfl) (by decide) (Rd.int Tryz.underlying3 (by kernel_rfl))) (FRd.last rfl (Rd.string Tryz.underlying9 (by kernel_rfl))))))))))))).read hf0
  obtain ⟨cs0, rfl, _⟩ := okWide_struct Tryz.underlying45 (hval 0 45 v0 rfl rfl)
  have rep0 : ∀ σ, RepV W (Sz W.heap.size) σ _ _ := fun σ => repV_agg (σ := σ) (cs := cs0) (by rw [Rd.len (Rd.struct Tryz.underlying45 (by kernel_rfl) (FRd.cons rfl (Rd.struct Tryz.underlying40 (by kernel_rfl) (FRd.cons rfl (Rd.int Tryz.underlying3 (by kernel_rfl)) (FRd.cons rfl (Rd.int Tryz.underlying3 (by kernel_rfl)) (FRd.cons rfl (Rd.slice Tryz.underlying23 (by kernel_rfl) (by decide) (Rd.int Tryz.underlying3 (by kernel_rfl))) (FRd.last rfl (Rd.slice Tryz.underlying23 (by kernel_rfl) (by decide) (Rd.int Tryz.underlying3 (by kernel_rfl)))))))) (FRd.last rfl (Rd.struct Tryz.underlying43 (by kernel_rfl) (FRd.cons rfl (Rd.int Tryz.underlying3 (by kernel_rfl)) (FRd.cons rfl (Rd.int Tryz.underlying3 (by kernel_rfl)) (FRd.last rfl (Rd.slice Tryz.underlying41 (by kernel_rfl) (by decide) (Rd.struct Tryz.underlying121 (by kernel_rfl) (FRd.cons rfl (Rd.slice Tryz.underlying23 (by kernel_rfl) (by decide) (Rd.int Tryz.underlying3 (by kernel_rfl))) (FRd.last rfl (Rd.string Tryz.underlying9 (by kernel_rfl))))))))))))) a0]; exact hl0) hr0
  have k1 := h1
  have lt1 : ∀ x ∈ p1, x.block < W.heap.size := by obtain ⟨m, hm⟩ := k1; exact DataW.trod_lt m _ _ _ hm
  obtain ⟨fuel1, hf1⟩ := h1
  obtain ⟨a1, ok1, hl1, _, hr1⟩ := (Rd.int Tryz.underlying3 (by kernel_rfl)).read hf1
  have hc1 : v1.cells.toList = [v1] := by
    obtain ⟨a, e, _⟩ := open_int Tryz.underlying3 (hval 1 3 v1 rfl rfl) k1
    rw [e]; rfl
  have rep1 : ∀ σ, RepV W (Sz W.heap.size) σ _ v1 := fun σ => repV_one (σ := σ) (hr1 0 _ v1 rfl (by rw [hc1]; rfl))
  have k2 := h2
  have lt2 : ∀ x ∈ p2, x.block < W.heap.size := by obtain ⟨m, hm⟩ := k2; exact DataW.trod_lt m _ _ _ hm
  obtain ⟨fuel2, hf2⟩ := h2
  obtain ⟨a2, ok2, hl2, _, hr2⟩ := (Rd.string Tryz.underlying9 (by kernel_rfl)).read hf2
  have hc2 : v2.cells.toList = [v2] := by
    obtain ⟨a, e, _⟩ := open_string Tryz.underlying9 (hval 2 9 v2 rfl rfl) k2
    rw [e]; rfl
  have rep2 : ∀ σ, RepV W (Sz W.heap.size) σ _ v2 := fun σ => repV_one (σ := σ) (hr2 0 _ v2 rfl (by rw [hc2]; rfl))
  clear hA0 hval0 hsz0
  obtain ⟨r, out, rfl, h⟩ := Go.Abs.F.fnExact_good a0 a1 a2 ok0 ok1 ok2
  have hcl := good_calls h (w := W) (vs := #[.agg cs0, v1, v2]) rfl (by
    intro i av v h1 h2 σ
    rcases i with _ | i
    · cases h1; cases h2; exact rep0 σ
    rcases i with _ | i
    · cases h1; cases h2; exact rep1 σ
    rcases i with _ | i
    · cases h1; cases h2; exact rep2 σ
    · simp at h1)
    (by
      intro av hm
      simp only [List.mem_cons, List.not_mem_nil, or_false] at hm
      rcases hm with rfl | rfl | rfl
      all_goals first | exact inA_one | exact inA_agg) (⟨fun g vs hg => by simp [gl, lk] at hg, fun g hg => by simp [glw] at hg⟩)
  refine hcl.mono fun e W' ⟨he, bel⟩ => ?_
  subst he
  exact ⟨_, rfl, _, _, _, [], _, [], hW', trodAll_mk1 (shut_bool Tryz.underlying4 _), (trodAll_cons_mk (Below.trod laidOut (by kernel_rfl) (of_decide_eq_true (by kernel_rfl)) k0 bel lt0) (trodAll_cons_mk (Below.trod laidOut (by kernel_rfl) (of_decide_eq_true (by kernel_rfl)) k1 bel lt1) (trodAll_cons_mk (Below.trod laidOut (by kernel_rfl) (of_decide_eq_true (by kernel_rfl)) k2 bel lt2) trodAll_mk0))), rfl, bel.frame _, fun h => by cases h⟩
theorem over : Rows.fnExactGetAddRow.holds Tryz.pinned (OpenSpec.ofChange Rows.fnExactGetAddSpec) :=
  OpenClaim.holds_of_wide 4 Tryz.f4 rfl rfl rfl rfl rfl rfl rfl ⟨rfl, rfl, rfl, rfl, rfl⟩ rfl rfl rfl rfl rfl (by kernel_rfl) Tryz.func4 (by kernel_rfl)
    (of_decide_eq_true (by kernel_rfl)) (by unfold Func.isWrapper; first | (rw [if_pos (by decide +kernel)]; kernel_rfl) | (rw [if_neg (by decide +kernel)]; exact ⟨rfl, rfl⟩))
    (fun os started H enc _ => lifted os started H enc)
theorem proved : Rows.FnExactGetAddSaid := over
#print axioms proved
end Go.Proofs.YtmieklaakjabaaaGreat.fnExactGetAdd
namespace Go.Proofs.YtmieklaakjabaaaGreat
/-- The row, under a short name, for the claim. -/
theorem fnExactGetAdd_holds : Rows.FnExactGetAddSaid := fnExactGetAdd.proved
end Go.Proofs.YtmieklaakjabaaaGreat
