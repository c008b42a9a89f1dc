-- Written by a program of this session over the print's form. Lean checks it.
import Derived.Test.YtbpmfdpbgcpjeaaDoorPFnExactCatRecordx0
import Derived.Test.YtbpmfdpbgcpjeaaDoorPFnExactCatRecordx3
import Derived.Test.YtbpmfdpbgcpjeaaDoorPFnExactCatRecordx4
import Derived.Test.YtbpmfdpbgcpjeaaDoorPFnExactCatRecordx5
namespace Go.Proofs.YtbpmfdpbgcpjeaaDoor.PFnExactCatRecord
open Go.RowKit Go.Proofs.YtbpmfdpbgcpjeaaDoorW.PrintWords Go.Proofs.YtbpmfdpbgcpjeaaDoorW.PrintLast Go.Proofs.YtbpmfdpbgcpjeaaDoorW.PrintMore
attribute [local go_sem] max2_int min2_int max_two min_two max_three min_three max_four min_four   -- for this text's walks alone
set_option linter.unusedVariables false
set_option linter.unusedSimpArgs false

/-! ### strconv_Itoa_25: function 25 -/
def strconv_Itoa_25.f (a0 : Int) : Option (ByteArray) := (strconv_FormatInt.f a0 10).bind fun t136 => (some t136)
set_option maxHeartbeats 8000000 in
set_option maxRecDepth 100000 in
theorem strconv_Itoa_25.calls (a0 : Int) (r : ByteArray) (w : World) (h : strconv_Itoa_25.f a0 = some r) :
  Calls Tryd.prog 25 #[.int .i64 a0] w fun e w' => e = .returned (.string r) ∧ Drawn0 w w' := by
 have H : ((strconv_FormatInt.f a0 10).bind fun t136 => (some t136)) = some r:=h
 clear h
 replace H := Option.bind_eq_some_iff.mp H
 obtain ⟨t136, A20, H⟩ := H
 replace H : (some t136) = some r := H
 have A2 := Aside0.mk A20
 clear A20
 obtain rfl := Option.some.inj H
 go_enter Tryd.func25, Tryd.ntmps25
 go_wp2_with (first|((with_reducible refine gate_callee (f:=36) rfl ?_);refine goesL_ (some 4) rfl rfl Tryd.func36 (by kernel_rfl) rfl #[.int .i64 a0,.int .i64 10] rfl (by (try simp only [List.map_toArray,List.map_cons,List.map_nil]);first|done|rfl|(simp only [List.length_drop,List.length_take];rfl)) ?_;(with_reducible refine (strconv_FormatInt.calls a0 10 t136 _ A2.out).mono ?_);rintro e w' ⟨rfl,⟨nd,rfl⟩⟩;refine ⟨_,rfl,?_⟩))
 go_ret
 exact ⟨by first|rfl|(simp;done)|(simp [*];done),by repeat (first|exact Drawn0.refl _|apply Drawn0.step)⟩

/-! ### strconv_Itoa_14: function 14 -/
def strconv_Itoa_14.f (a0 : Int) : Option (ByteArray) := (strconv_Itoa_25.f a0).bind fun t137 => (some t137)
set_option maxHeartbeats 8000000 in
set_option maxRecDepth 100000 in
theorem strconv_Itoa_14.calls (a0 : Int) (r : ByteArray) (w : World) (h : strconv_Itoa_14.f a0 = some r) :
  Calls Tryd.prog 14 #[.int .i64 a0] w fun e w' => e = .returned (.string r) ∧ Drawn0 w w' := by
 have H : ((strconv_Itoa_25.f a0).bind fun t137 => (some t137)) = some r:=h
 clear h
 replace H := Option.bind_eq_some_iff.mp H
 obtain ⟨t137, A20, H⟩ := H
 replace H : (some t137) = some r := H
 have A2 := Aside0.mk A20
 clear A20
 obtain rfl := Option.some.inj H
 go_enter Tryd.func14, Tryd.ntmps14
 go_wp2_with (first|((with_reducible refine gate_callee (f:=25) rfl ?_);refine goesL_ (some 4) rfl rfl Tryd.func25 (by kernel_rfl) rfl #[.int .i64 a0] rfl (by (try simp only [List.map_toArray,List.map_cons,List.map_nil]);first|done|rfl|(simp only [List.length_drop,List.length_take];rfl)) ?_;(with_reducible refine (strconv_Itoa_25.calls a0 t137 _ A2.out).mono ?_);rintro e w' ⟨rfl,⟨nd,rfl⟩⟩;refine ⟨_,rfl,?_⟩))
 go_ret
 exact ⟨by first|rfl|(simp;done)|(simp [*];done),by repeat (first|exact Drawn0.refl _|apply Drawn0.step)⟩

/-! ### impl_CatRecord: function 6 -/
def impl_CatRecord.f (k : Nat) (a0 : Int) (a1 : ByteArray) (a2 : ByteArray) : Option (ByteArray) := (impl_house.f a0).bind fun t138 => (if t138 = true then ((impl_NameOk.f k a1).bind fun t139 => (if t139 = true then (if (a2.size : Int) > 300 then (some (⟨#[]⟩ : ByteArray)) else ((strconv_Itoa_14.f a0).bind fun t140 => (if t140.size + 1 ≤ 9223372036854775807 then (if (t140 ++ (⟨#[32]⟩ : ByteArray)).size + a1.size ≤ 9223372036854775807 then (if ((t140 ++ (⟨#[32]⟩ : ByteArray)) ++ a1).size + 1 ≤ 9223372036854775807 then (if (((t140 ++ (⟨#[32]⟩ : ByteArray)) ++ a1) ++ (⟨#[58]⟩ : ByteArray)).size + a2.size ≤ 9223372036854775807 then (some ((((t140 ++ (⟨#[32]⟩ : ByteArray)) ++ a1) ++ (⟨#[58]⟩ : ByteArray)) ++ a2)) else (none)) else (none)) else (none)) else (none)))) else (some (⟨#[]⟩ : ByteArray)))) else (some (⟨#[]⟩ : ByteArray)))
theorem impl_CatRecord.mono : ∀ a0 a1 a2 k, LeO (impl_CatRecord.f k a0 a1 a2) (impl_CatRecord.f (k + 1) a0 a1 a2) := by
 intro a0 a1 a2 k
 unfold impl_CatRecord.f
 repeat' first
   | (with_reducible exact impl_NameOk.mono _ _)
   | (with_reducible exact LeO.refl _)
   | (with_reducible exact LeO.none _)
   | (with_reducible refine LeO.ite ?_ ?_)
   | (with_reducible refine LeO.bind ?_ (fun _ => ?_))
   | exact impl_NameOk.mono _ _
   | exact LeO.none _
   | refine LeO.ite ?_ ?_
   | refine LeO.bind ?_ (fun _ => ?_)
set_option maxHeartbeats 8000000 in
set_option maxRecDepth 100000 in
theorem impl_CatRecord.calls (k : Nat) (a0 : Int) (a1 : ByteArray) (a2 : ByteArray) (r : ByteArray) (w : World) (h : impl_CatRecord.f k a0 a1 a2 = some r) :
  Calls Tryd.prog 6 #[.int .i64 a0, .string a1, .string a2] w fun e w' => e = .returned (.string r) ∧ Drawn0 w w' := by
 have H : ((impl_house.f a0).bind fun t138 => (if t138 = true then ((impl_NameOk.f k a1).bind fun t139 => (if t139 = true then (if (a2.size : Int) > 300 then (some (⟨#[]⟩ : ByteArray)) else ((strconv_Itoa_14.f a0).bind fun t140 => (if t140.size + 1 ≤ 9223372036854775807 then (if (t140++(⟨#[32]⟩ : ByteArray)).size + a1.size ≤ 9223372036854775807 then (if ((t140++(⟨#[32]⟩ : ByteArray))++a1).size + 1 ≤ 9223372036854775807 then (if (((t140++(⟨#[32]⟩ : ByteArray))++a1)++(⟨#[58]⟩ : ByteArray)).size + a2.size ≤ 9223372036854775807 then (some ((((t140++(⟨#[32]⟩ : ByteArray))++a1)++(⟨#[58]⟩ : ByteArray))++a2)) else (none)) else (none)) else (none)) else (none)))) else (some (⟨#[]⟩ : ByteArray)))) else (some (⟨#[]⟩ : ByteArray)))) = some r:=h
 clear h
 replace H := Option.bind_eq_some_iff.mp H
 obtain ⟨t138, A40, H⟩ := H
 replace H : (if t138 = true then ((impl_NameOk.f k a1).bind fun t139 => (if t139 = true then (if (a2.size : Int) > 300 then (some (⟨#[]⟩ : ByteArray)) else ((strconv_Itoa_14.f a0).bind fun t140 => (if t140.size + 1 ≤ 9223372036854775807 then (if (t140++(⟨#[32]⟩ : ByteArray)).size + a1.size ≤ 9223372036854775807 then (if ((t140++(⟨#[32]⟩ : ByteArray))++a1).size + 1 ≤ 9223372036854775807 then (if (((t140++(⟨#[32]⟩ : ByteArray))++a1)++(⟨#[58]⟩ : ByteArray)).size + a2.size ≤ 9223372036854775807 then (some ((((t140++(⟨#[32]⟩ : ByteArray))++a1)++(⟨#[58]⟩ : ByteArray))++a2)) else (none)) else (none)) else (none)) else (none)))) else (some (⟨#[]⟩ : ByteArray)))) else (some (⟨#[]⟩ : ByteArray))) = some r:=H
 have A4 := Aside0.mk A40
 clear A40
 by_cases c5 : t138 = true
 ·subst c5
  have H1 : ((impl_NameOk.f k a1).bind fun t139 => (if t139 = true then (if (a2.size : Int) > 300 then (some (⟨#[]⟩ : ByteArray)) else ((strconv_Itoa_14.f a0).bind fun t140 => (if t140.size + 1 ≤ 9223372036854775807 then (if (t140++(⟨#[32]⟩ : ByteArray)).size + a1.size ≤ 9223372036854775807 then (if ((t140++(⟨#[32]⟩ : ByteArray))++a1).size + 1 ≤ 9223372036854775807 then (if (((t140++(⟨#[32]⟩ : ByteArray))++a1)++(⟨#[58]⟩ : ByteArray)).size + a2.size ≤ 9223372036854775807 then (some ((((t140++(⟨#[32]⟩ : ByteArray))++a1)++(⟨#[58]⟩ : ByteArray))++a2)) else (none)) else (none)) else (none)) else (none)))) else (some (⟨#[]⟩ : ByteArray)))) = some r:=by rw [if_pos rfl] at H;exact H
  clear H
  have H := H1
  clear H1
  replace H := Option.bind_eq_some_iff.mp H
  obtain ⟨t139, A60, H⟩ := H
  replace H : (if t139 = true then (if (a2.size : Int) > 300 then (some (⟨#[]⟩ : ByteArray)) else ((strconv_Itoa_14.f a0).bind fun t140 => (if t140.size + 1 ≤ 9223372036854775807 then (if (t140++(⟨#[32]⟩ : ByteArray)).size + a1.size ≤ 9223372036854775807 then (if ((t140++(⟨#[32]⟩ : ByteArray))++a1).size + 1 ≤ 9223372036854775807 then (if (((t140++(⟨#[32]⟩ : ByteArray))++a1)++(⟨#[58]⟩ : ByteArray)).size + a2.size ≤ 9223372036854775807 then (some ((((t140++(⟨#[32]⟩ : ByteArray))++a1)++(⟨#[58]⟩ : ByteArray))++a2)) else (none)) else (none)) else (none)) else (none)))) else (some (⟨#[]⟩ : ByteArray))) = some r:=H
  have A6 := Aside0.mk A60
  clear A60
  by_cases c7 : t139 = true
  ·subst c7
   have H1 : (if (a2.size : Int) > 300 then (some (⟨#[]⟩ : ByteArray)) else ((strconv_Itoa_14.f a0).bind fun t140 => (if t140.size + 1 ≤ 9223372036854775807 then (if (t140++(⟨#[32]⟩ : ByteArray)).size + a1.size ≤ 9223372036854775807 then (if ((t140++(⟨#[32]⟩ : ByteArray))++a1).size + 1 ≤ 9223372036854775807 then (if (((t140++(⟨#[32]⟩ : ByteArray))++a1)++(⟨#[58]⟩ : ByteArray)).size + a2.size ≤ 9223372036854775807 then (some ((((t140++(⟨#[32]⟩ : ByteArray))++a1)++(⟨#[58]⟩ : ByteArray))++a2)) else (none)) else (none)) else (none)) else (none)))) = some r:=by rw [if_pos rfl] at H;exact H
   clear H
   have H := H1
   clear H1
   by_cases c8 : (a2.size : Int) > 300
   ·rw [if_pos c8] at H
    have c8b0 : decide (300 < (a2.size : Int)) = true:=decide_eq_true c8
    have c8b1 : decide (300 < a2.size) = true:=decide_eq_true (by omega)
    clear c8
    obtain rfl := Option.some.inj H
    go_enter Tryd.func6, Tryd.ntmps6
    go_wp2_with (first|((with_reducible refine gate_callee (f:=12) rfl ?_);refine goesL_ (some 8) rfl rfl Tryd.func12 (by kernel_rfl) rfl #[.int .i64 a0] rfl (by (try simp only [List.map_toArray,List.map_cons,List.map_nil]);first|done|rfl|(simp only [List.length_drop,List.length_take];rfl)) ?_;(with_reducible refine (impl_house.calls a0 true _ A4.out).mono ?_);rintro e w' ⟨rfl,⟨nd,rfl⟩⟩;refine ⟨_,rfl,?_⟩)|(go_at_call 13;(with_reducible refine (impl_NameOk.calls k a1 true _ A6.out).mono ?_);rintro e w' ⟨rfl,⟨nd,rfl⟩⟩))
    go_ret
    exact ⟨by first|rfl|(simp;done)|(simp [*];done),by repeat (first|exact Drawn0.refl _|apply Drawn0.step)⟩
   ·rw [if_neg c8] at H
    have c8b0 : decide (300 < (a2.size : Int)) = false:=decide_eq_false c8
    have c8b1 : decide (300 < a2.size) = false:=decide_eq_false (by omega)
    clear c8
    replace H := Option.bind_eq_some_iff.mp H
    obtain ⟨t140, A90, H⟩ := H
    replace H : (if t140.size + 1 ≤ 9223372036854775807 then (if (t140++(⟨#[32]⟩ : ByteArray)).size + a1.size ≤ 9223372036854775807 then (if ((t140++(⟨#[32]⟩ : ByteArray))++a1).size + 1 ≤ 9223372036854775807 then (if (((t140++(⟨#[32]⟩ : ByteArray))++a1)++(⟨#[58]⟩ : ByteArray)).size + a2.size ≤ 9223372036854775807 then (some ((((t140++(⟨#[32]⟩ : ByteArray))++a1)++(⟨#[58]⟩ : ByteArray))++a2)) else (none)) else (none)) else (none)) else (none)) = some r:=H
    have A9 := Aside0.mk A90
    clear A90
    by_cases c10 : t140.size + 1 ≤ 9223372036854775807
    ·rw [if_pos c10] at H
     have c10b0 := eq_true c10
     have c10b1 : decide (t140.size + 1 ≤ 9223372036854775807) = true:=decide_eq_true c10
     try have c10b2 : (9223372036854775807 < t140.size + 1) = False:=eq_false (Nat.not_lt.2 c10)
     by_cases c11 : (t140++(⟨#[32]⟩ : ByteArray)).size + a1.size ≤ 9223372036854775807
     ·rw [if_pos c11] at H
      have c11b0 := eq_true c11
      have c11b1 : decide ((t140++(⟨#[32]⟩ : ByteArray)).size + a1.size ≤ 9223372036854775807) = true:=decide_eq_true c11
      try have c11b2 : (9223372036854775807 < (t140++(⟨#[32]⟩ : ByteArray)).size + a1.size) = False:=eq_false (Nat.not_lt.2 c11)
      try have c11b3 : (9223372036854775807 < t140.size + 1 + a1.size) = False:=eq_false (Nat.not_lt.2 (by have h_:=c11;(repeat rw [ByteArray.size_append] at h_);exact h_))
      by_cases c12 : ((t140++(⟨#[32]⟩ : ByteArray))++a1).size + 1 ≤ 9223372036854775807
      ·rw [if_pos c12] at H
       have c12b0 := eq_true c12
       have c12b1 : decide (((t140++(⟨#[32]⟩ : ByteArray))++a1).size + 1 ≤ 9223372036854775807) = true:=decide_eq_true c12
       try have c12b2 : (9223372036854775807 < ((t140++(⟨#[32]⟩ : ByteArray))++a1).size + 1) = False:=eq_false (Nat.not_lt.2 c12)
       try have c12b3 : (9223372036854775807 < t140.size + 1 + a1.size + 1) = False:=eq_false (Nat.not_lt.2 (by have h_:=c12;(repeat rw [ByteArray.size_append] at h_);exact h_))
       by_cases c13 : (((t140++(⟨#[32]⟩ : ByteArray))++a1)++(⟨#[58]⟩ : ByteArray)).size + a2.size ≤ 9223372036854775807
       ·rw [if_pos c13] at H
        have c13b0 := eq_true c13
        have c13b1 : decide ((((t140++(⟨#[32]⟩ : ByteArray))++a1)++(⟨#[58]⟩ : ByteArray)).size + a2.size ≤ 9223372036854775807) = true:=decide_eq_true c13
        try have c13b2 : (9223372036854775807 < (((t140++(⟨#[32]⟩ : ByteArray))++a1)++(⟨#[58]⟩ : ByteArray)).size + a2.size) = False:=eq_false (Nat.not_lt.2 c13)
        try have c13b3 : (9223372036854775807 < t140.size + 1 + a1.size + 1 + a2.size) = False:=eq_false (Nat.not_lt.2 (by have h_:=c13;(repeat rw [ByteArray.size_append] at h_);exact h_))
        obtain rfl := Option.some.inj H
        go_enter Tryd.func6, Tryd.ntmps6
        go_wp2_with (first|((with_reducible refine gate_callee (f:=12) rfl ?_);refine goesL_ (some 8) rfl rfl Tryd.func12 (by kernel_rfl) rfl #[.int .i64 a0] rfl (by (try simp only [List.map_toArray,List.map_cons,List.map_nil]);first|done|rfl|(simp only [List.length_drop,List.length_take];rfl)) ?_;(with_reducible refine (impl_house.calls a0 true _ A4.out).mono ?_);rintro e w' ⟨rfl,⟨nd,rfl⟩⟩;refine ⟨_,rfl,?_⟩)|(go_at_call 13;(with_reducible refine (impl_NameOk.calls k a1 true _ A6.out).mono ?_);rintro e w' ⟨rfl,⟨nd,rfl⟩⟩)|((with_reducible refine gate_callee (f:=14) rfl ?_);refine goesL_ (some 21) rfl rfl Tryd.func14 (by kernel_rfl) rfl #[.int .i64 a0] rfl (by (try simp only [List.map_toArray,List.map_cons,List.map_nil]);first|done|rfl|(simp only [List.length_drop,List.length_take];rfl)) ?_;(with_reducible refine (strconv_Itoa_14.calls a0 t140 _ A9.out).mono ?_);rintro e w' ⟨rfl,⟨nd,rfl⟩⟩;refine ⟨_,rfl,?_⟩))
        go_ret
        exact ⟨by first|rfl|(simp;done)|(simp [*];done),by repeat (first|exact Drawn0.refl _|apply Drawn0.step)⟩
       ·rw [if_neg c13] at H
        exact absurd H (by simp)
      ·rw [if_neg c12] at H
       exact absurd H (by simp)
     ·rw [if_neg c11] at H
      exact absurd H (by simp)
    ·rw [if_neg c10] at H
     exact absurd H (by simp)
  ·replace c7 := Bool.eq_false_iff.mpr c7
   subst c7
   have H1 : (some (⟨#[]⟩ : ByteArray)) = some r:=by rw [if_neg (show ¬ (false = true) by decide)] at H;exact H
   clear H
   have H := H1
   clear H1
   obtain rfl := Option.some.inj H
   go_enter Tryd.func6, Tryd.ntmps6
   go_wp2_with (first|((with_reducible refine gate_callee (f:=12) rfl ?_);refine goesL_ (some 8) rfl rfl Tryd.func12 (by kernel_rfl) rfl #[.int .i64 a0] rfl (by (try simp only [List.map_toArray,List.map_cons,List.map_nil]);first|done|rfl|(simp only [List.length_drop,List.length_take];rfl)) ?_;(with_reducible refine (impl_house.calls a0 true _ A4.out).mono ?_);rintro e w' ⟨rfl,⟨nd,rfl⟩⟩;refine ⟨_,rfl,?_⟩)|(go_at_call 13;(with_reducible refine (impl_NameOk.calls k a1 false _ A6.out).mono ?_);rintro e w' ⟨rfl,⟨nd,rfl⟩⟩))
   go_ret
   exact ⟨by first|rfl|(simp;done)|(simp [*];done),by repeat (first|exact Drawn0.refl _|apply Drawn0.step)⟩
 ·replace c5 := Bool.eq_false_iff.mpr c5
  subst c5
  have H1 : (some (⟨#[]⟩ : ByteArray)) = some r:=by rw [if_neg (show ¬ (false = true) by decide)] at H;exact H
  clear H
  have H := H1
  clear H1
  obtain rfl := Option.some.inj H
  go_enter Tryd.func6, Tryd.ntmps6
  go_wp2_with (first|((with_reducible refine gate_callee (f:=12) rfl ?_);refine goesL_ (some 8) rfl rfl Tryd.func12 (by kernel_rfl) rfl #[.int .i64 a0] rfl (by (try simp only [List.map_toArray,List.map_cons,List.map_nil]);first|done|rfl|(simp only [List.length_drop,List.length_take];rfl)) ?_;(with_reducible refine (impl_house.calls a0 false _ A4.out).mono ?_);rintro e w' ⟨rfl,⟨nd,rfl⟩⟩;refine ⟨_,rfl,?_⟩))
  go_ret
  exact ⟨by first|rfl|(simp;done)|(simp [*];done),by repeat (first|exact Drawn0.refl _|apply Drawn0.step)⟩

/-! ### laws_FnExactCatRecord: function 3 -/
def laws_FnExactCatRecord.f (k : Nat) (a0 : Int) (a1 : ByteArray) (a2 : ByteArray) : Option (Bool) := if (a1.size : Int) > 1048576 then (some true) else (if (a2.size : Int) > 1048576 then (some true) else ((spec_CatRecord.f k a0 a1 a2).bind fun t141 => ((impl_CatRecord.f k a0 a1 a2).bind fun t142 => (if t142.toList = t141.toList then (some true) else (some false)))))
theorem laws_FnExactCatRecord.mono : ∀ a0 a1 a2 k, LeO (laws_FnExactCatRecord.f k a0 a1 a2) (laws_FnExactCatRecord.f (k + 1) a0 a1 a2) := by
 intro a0 a1 a2 k
 unfold laws_FnExactCatRecord.f
 repeat' first
   | (with_reducible exact impl_CatRecord.mono _ _ _ _)
   | (with_reducible exact spec_CatRecord.mono _ _ _ _)
   | (with_reducible exact LeO.refl _)
   | (with_reducible exact LeO.none _)
   | (with_reducible refine LeO.ite ?_ ?_)
   | (with_reducible refine LeO.bind ?_ (fun _ => ?_))
   | exact impl_CatRecord.mono _ _ _ _
   | exact spec_CatRecord.mono _ _ _ _
   | exact LeO.none _
   | refine LeO.ite ?_ ?_
   | refine LeO.bind ?_ (fun _ => ?_)
set_option maxHeartbeats 8000000 in
set_option maxRecDepth 100000 in
theorem laws_FnExactCatRecord.calls (k : Nat) (a0 : Int) (a1 : ByteArray) (a2 : ByteArray) (r : Bool) (w : World) (h : laws_FnExactCatRecord.f k a0 a1 a2 = some r) :
  Calls Tryd.prog 3 #[.int .i64 a0, .string a1, .string a2] w fun e w' => e = .returned (.bool r) ∧ Below w.heap.size w w' := by
 have HB := Aside0.mk (Below.refl w.heap.size w)
 have H : (if (a1.size : Int) > 1048576 then (some true) else (if (a2.size : Int) > 1048576 then (some true) else ((spec_CatRecord.f k a0 a1 a2).bind fun t141 => ((impl_CatRecord.f k a0 a1 a2).bind fun t142 => (if t142.toList = t141.toList then (some true) else (some false)))))) = some r:=h
 clear h
 by_cases c4 : (a1.size : Int) > 1048576
 ·rw [if_pos c4] at H
  have c4b0 : decide (1048576 < (a1.size : Int)) = true:=decide_eq_true c4
  have c4b1 : decide (1048576 < a1.size) = true:=decide_eq_true (by omega)
  clear c4
  obtain rfl := Option.some.inj H
  go_enter Tryd.func3, Tryd.ntmps3
  go_wp2
  go_ret
  exact ⟨by first|rfl|(simp [errW_none,errW_some] <;> rfl)|(simp [*,errW_none,errW_some] <;> rfl),by repeat (first|(with_reducible first|exact HB.out|apply below_alloc|apply pw_below_drewN|apply below_drew1)|exact HB.out)⟩
 ·rw [if_neg c4] at H
  have c4b0 : decide (1048576 < (a1.size : Int)) = false:=decide_eq_false c4
  have c4b1 : decide (1048576 < a1.size) = false:=decide_eq_false (by omega)
  clear c4
  by_cases c5 : (a2.size : Int) > 1048576
  ·rw [if_pos c5] at H
   have c5b0 : decide (1048576 < (a2.size : Int)) = true:=decide_eq_true c5
   have c5b1 : decide (1048576 < a2.size) = true:=decide_eq_true (by omega)
   clear c5
   obtain rfl := Option.some.inj H
   go_enter Tryd.func3, Tryd.ntmps3
   go_wp2
   go_ret
   exact ⟨by first|rfl|(simp [errW_none,errW_some] <;> rfl)|(simp [*,errW_none,errW_some] <;> rfl),by repeat (first|(with_reducible first|exact HB.out|apply below_alloc|apply pw_below_drewN|apply below_drew1)|exact HB.out)⟩
  ·rw [if_neg c5] at H
   have c5b0 : decide (1048576 < (a2.size : Int)) = false:=decide_eq_false c5
   have c5b1 : decide (1048576 < a2.size) = false:=decide_eq_false (by omega)
   clear c5
   replace H := Option.bind_eq_some_iff.mp H
   obtain ⟨t141, A60, H⟩ := H
   replace H : ((impl_CatRecord.f k a0 a1 a2).bind fun t142 => (if t142.toList = t141.toList then (some true) else (some false))) = some r:=H
   have A6 := Aside0.mk A60
   clear A60
   replace H := Option.bind_eq_some_iff.mp H
   obtain ⟨t142, A70, H⟩ := H
   replace H : (if t142.toList = t141.toList then (some true) else (some false)) = some r:=H
   have A7 := Aside0.mk A70
   clear A70
   by_cases c8 : t142.toList = t141.toList
   ·rw [if_pos c8] at H
    have c8b0 : (t142.toList == t141.toList) = true:=beq_iff_eq.mpr c8
    have c8b1 : (t142.toList != t141.toList) = false:=bne_eq_false_iff_eq.mpr c8
    clear c8
    obtain rfl := Option.some.inj H
    go_enter Tryd.func3, Tryd.ntmps3
    go_wp2_with (first|((with_reducible refine gate_callee (f:=5) rfl ?_);refine goesL_ (some 18) rfl rfl Tryd.func5 (by kernel_rfl) rfl #[.int .i64 a0,.string a1,.string a2] rfl (by (try simp only [List.map_toArray,List.map_cons,List.map_nil]);first|done|rfl|(simp only [List.length_drop,List.length_take];rfl)) ?_;(with_reducible refine (spec_CatRecord.calls k a0 a1 a2 t141 _ A6.out).mono ?_);rintro e w9 ⟨rfl,hb⟩;refine ⟨_,rfl,?_⟩;have n0_:=Aside0.mk (below_step (by repeat (first|(with_reducible first|exact HB.out|apply below_alloc|apply pw_below_drewN|apply below_drew1)|exact HB.out)) hb);clear HB;have HB:=n0_;clear n0_;(try clear hb);(try clear hb2);(try clear hk);(try clear hi))|((with_reducible refine gate_callee (f:=6) rfl ?_);refine goesL_ (some 22) rfl rfl Tryd.func6 (by kernel_rfl) rfl #[.int .i64 a0,.string a1,.string a2] rfl (by (try simp only [List.map_toArray,List.map_cons,List.map_nil]);first|done|rfl|(simp only [List.length_drop,List.length_take];rfl)) ?_;(with_reducible refine (impl_CatRecord.calls k a0 a1 a2 t142 _ A7.out).mono ?_);rintro e w' ⟨rfl,⟨nd,rfl⟩⟩;refine ⟨_,rfl,?_⟩))
    go_ret
    exact ⟨by first|rfl|(simp [errW_none,errW_some] <;> rfl)|(simp [*,errW_none,errW_some] <;> rfl),by repeat (first|(with_reducible first|exact HB.out|apply below_alloc|apply pw_below_drewN|apply below_drew1)|exact HB.out)⟩
   ·rw [if_neg c8] at H
    have c8b0 : (t142.toList == t141.toList) = false:=beq_eq_false_iff_ne.mpr c8
    have c8b1 : (t142.toList != t141.toList) = true:=bne_iff_ne.mpr c8
    obtain rfl := Option.some.inj H
    go_enter Tryd.func3, Tryd.ntmps3
    go_wp2_with (first|((with_reducible refine gate_callee (f:=5) rfl ?_);refine goesL_ (some 18) rfl rfl Tryd.func5 (by kernel_rfl) rfl #[.int .i64 a0,.string a1,.string a2] rfl (by (try simp only [List.map_toArray,List.map_cons,List.map_nil]);first|done|rfl|(simp only [List.length_drop,List.length_take];rfl)) ?_;(with_reducible refine (spec_CatRecord.calls k a0 a1 a2 t141 _ A6.out).mono ?_);rintro e w10 ⟨rfl,hb⟩;refine ⟨_,rfl,?_⟩;have n0_:=Aside0.mk (below_step (by repeat (first|(with_reducible first|exact HB.out|apply below_alloc|apply pw_below_drewN|apply below_drew1)|exact HB.out)) hb);clear HB;have HB:=n0_;clear n0_;(try clear hb);(try clear hb2);(try clear hk);(try clear hi))|((with_reducible refine gate_callee (f:=6) rfl ?_);refine goesL_ (some 22) rfl rfl Tryd.func6 (by kernel_rfl) rfl #[.int .i64 a0,.string a1,.string a2] rfl (by (try simp only [List.map_toArray,List.map_cons,List.map_nil]);first|done|rfl|(simp only [List.length_drop,List.length_take];rfl)) ?_;(with_reducible refine (impl_CatRecord.calls k a0 a1 a2 t142 _ A7.out).mono ?_);rintro e w' ⟨rfl,⟨nd,rfl⟩⟩;refine ⟨_,rfl,?_⟩))
    go_ret
    exact ⟨by first|rfl|(simp [errW_none,errW_some] <;> rfl)|(simp [*,errW_none,errW_some] <;> rfl),by repeat (first|(with_reducible first|exact HB.out|apply below_alloc|apply pw_below_drewN|apply below_drew1)|exact HB.out)⟩

/-- THE ONE PURE STATEMENT of laws_FnExactCatRecord: yours. -/
def laws_FnExactCatRecord.Pure : Prop := ∀ (a0 : Int) (a1 : ByteArray) (a2 : ByteArray), (Lit.int .i64 a0).wf = true → a1.size ≤ 140737488351232 → a2.size ≤ 140737488351232 → ∃ k, laws_FnExactCatRecord.f k a0 a1 a2 = some true
theorem laws_FnExactCatRecord.walk (P : laws_FnExactCatRecord.Pure) (a0 : Int) (a1 : ByteArray) (a2 : ByteArray) (w : World) (w0 : (Lit.int .i64 a0).wf = true) (w1 : a1.size ≤ 140737488351232) (w2 : a2.size ≤ 140737488351232) :
  Calls Tryd.prog 3 #[.int .i64 a0, .string a1, .string a2] w fun e w' => e = .returned (.bool true) ∧ Below w.heap.size w w' := by
 obtain ⟨k, h⟩ := P a0 a1 a2 w0 w1 w2
 refine (laws_FnExactCatRecord.calls k a0 a1 a2 true w h).mono ?_
 rintro e w' ⟨rfl, hd⟩
 exact ⟨rfl, hd⟩

end Go.Proofs.YtbpmfdpbgcpjeaaDoor.PFnExactCatRecord
