-- Written by a program of this session over the print's form. Lean checks it.
import Derived.Test.YtbpmfdpbgcpjeaaDoorPFnExactCatRecordx0
namespace Go.Proofs.YtbpmfdpbgcpjeaaDoor.PFnExactCatRecord
open Go.RowKit Go.Proofs.YtbpmfdpbgcpjeaaDoorW.PrintWords Go.Proofs.YtbpmfdpbgcpjeaaDoorW.PrintLast Go.Proofs.YtbpmfdpbgcpjeaaDoorW.PrintMore
attribute [local go_sem] max2_int min2_int max_two min_two max_three min_three max_four min_four   -- for this text's walks alone
set_option linter.unusedVariables false
set_option linter.unusedSimpArgs false

/-! ### strconv_FormatInt: function 36 -/
set_option maxHeartbeats 4000000 in
theorem small01 (a0 : Int) (r : ByteArray) (w : World) (h : (a0 = 0 ∧ r = ⟨#[48]⟩) ∨ (a0 = 1 ∧ r = ⟨#[49]⟩)) :
  Calls Tryd.prog 46 #[.int .i64 a0] w fun e w' => e = .returned (.string r) ∧ Drawn0 w w' := by
 rcases h with ⟨rfl, rfl⟩ | ⟨rfl, rfl⟩
 ·go_enter Tryd.func46, Tryd.ntmps46
  go_wp2
  go_ret
  exact ⟨rfl,by repeat (first|exact Drawn0.refl _|apply Drawn0.step)⟩
 ·go_enter Tryd.func46, Tryd.ntmps46
  go_wp2
  go_ret
  exact ⟨rfl,by repeat (first|exact Drawn0.refl _|apply Drawn0.step)⟩
def strconv_FormatInt.f (a0 : Int) (a1 : Int) : Option (ByteArray) := if a1 = 10 then (if a0 = 0 then some ⟨#[48]⟩ else if a0 = 1 then some ⟨#[49]⟩ else none) else none
set_option maxHeartbeats 4000000 in
theorem strconv_FormatInt.calls (a0 : Int) (a1 : Int) (r : ByteArray) (w : World) (h : strconv_FormatInt.f a0 a1 = some r) :
  Calls Tryd.prog 36 #[.int .i64 a0, .int .i64 a1] w fun e w' => e = .returned (.string r) ∧ Drawn0 w w' := by
 unfold strconv_FormatInt.f at h
 by_cases h1 : a1 = 10
 ·subst h1
  rw [if_pos rfl] at h
  have hh : (a0 = 0 ∧ r = ⟨#[48]⟩) ∨ (a0 = 1 ∧ r = ⟨#[49]⟩):=by
   by_cases h2 : a0 = 0
   ·rw [if_pos h2] at h;exact .inl ⟨h2,(Option.some.inj h).symm⟩
   ·rw [if_neg h2] at h
    by_cases h3 : a0 = 1
    ·rw [if_pos h3] at h;exact .inr ⟨h3,(Option.some.inj h).symm⟩
    ·rw [if_neg h3] at h; cases h
  have hc := fun W => small01 a0 r W hh
  have HC := Aside0.mk hc
  clear hc h
  rcases hh with ⟨rfl, rfl⟩ | ⟨rfl, rfl⟩
  ·go_enter Tryd.func36, Tryd.ntmps36
   go_wp2_with (go_at_call 46;refine (HC.out _).mono ?_;rintro e w' ⟨rfl,hd⟩)
   go_ret
   exact ⟨rfl, hd⟩
  ·go_enter Tryd.func36, Tryd.ntmps36
   go_wp2_with (go_at_call 46;refine (HC.out _).mono ?_;rintro e w' ⟨rfl,hd⟩)
   go_ret
   exact ⟨rfl, hd⟩
 ·rw [if_neg h1] at h; cases h

end Go.Proofs.YtbpmfdpbgcpjeaaDoor.PFnExactCatRecord
