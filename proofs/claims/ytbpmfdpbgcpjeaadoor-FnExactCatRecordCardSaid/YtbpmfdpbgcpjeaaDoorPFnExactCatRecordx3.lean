-- Written by a program of this session over the print's form. Lean checks it.
import Derived.Test.YtbpmfdpbgcpjeaaDoorPFnExactCatRecordx0
import Derived.Test.YtbpmfdpbgcpjeaaDoorPFnExactCatRecordx1
import Derived.Test.YtbpmfdpbgcpjeaaDoorPFnExactCatRecordx2
namespace Go.Proofs.YtbpmfdpbgcpjeaaDoor.PFnExactCatRecord
open Go.RowKit Go.Proofs.YtbpmfdpbgcpjeaaDoorW.PrintWords Go.Proofs.YtbpmfdpbgcpjeaaDoorW.PrintLast Go.Proofs.YtbpmfdpbgcpjeaaDoorW.PrintMore
attribute [local go_sem] max2_int min2_int max_two min_two max_three min_three max_four min_four   -- for this text's walks alone
set_option linter.unusedVariables false
set_option linter.unusedSimpArgs false

/-! ### spec_CatRecord: function 5 -/
def spec_CatRecord.j0 : Nat → Int → ByteArray → ByteArray → ByteArray → Option (ByteArray)
 | 0, _, _, _, _ => none
 | k + 1, x0, x1, x2, x7 => (spec_l9Ok.f k x0 x1 0 x7).bind fun t114 => (if t114 = true then ((spec_l1Dec.f k x0).bind fun t115 => (if t115.size + 1 ≤ 9223372036854775807 then (if (t115 ++ (⟨#[32]⟩ : ByteArray)).size + x1.size ≤ 9223372036854775807 then (if ((t115 ++ (⟨#[32]⟩ : ByteArray)) ++ x1).size + 1 ≤ 9223372036854775807 then (if (((t115 ++ (⟨#[32]⟩ : ByteArray)) ++ x1) ++ (⟨#[58]⟩ : ByteArray)).size + x2.size ≤ 9223372036854775807 then (some ((((t115 ++ (⟨#[32]⟩ : ByteArray)) ++ x1) ++ (⟨#[58]⟩ : ByteArray)) ++ x2)) else (none)) else (none)) else (none)) else (none))) else (some (⟨#[]⟩ : ByteArray)))
def spec_CatRecord.f (k : Nat) (a0 : Int) (a1 : ByteArray) (a2 : ByteArray) : Option (ByteArray) := if a2.toList = ([] : List UInt8) then (spec_CatRecord.j0 k a0 a1 a2 (⟨#[120]⟩ : ByteArray)) else (spec_CatRecord.j0 k a0 a1 a2 a2)
theorem spec_CatRecord.mono_l : ∀ k, (∀ y0 y1 y2 y3, LeO (spec_CatRecord.j0 k y0 y1 y2 y3) (spec_CatRecord.j0 (k + 1) y0 y1 y2 y3))
 | 0 => fun _ _ _ _ r h => by simp [spec_CatRecord.j0] at h
 | k + 1 => by
  have ih0 := spec_CatRecord.mono_l k
  ·intro y0 y1 y2 y3
   unfold spec_CatRecord.j0
   repeat' first
   | (with_reducible exact ih0 _ _ _ _)
   | (with_reducible exact spec_l1Dec.mono _ _)
   | (with_reducible exact spec_l9Ok.mono _ _ _ _ _)
   | (with_reducible exact LeO.refl _)
   | (with_reducible exact LeO.none _)
   | (with_reducible refine LeO.ite ?_ ?_)
   | (with_reducible refine LeO.bind ?_ (fun _ => ?_))
   | exact ih0 _ _ _ _
   | exact spec_l1Dec.mono _ _
   | exact spec_l9Ok.mono _ _ _ _ _
   | exact LeO.none _
   | refine LeO.ite ?_ ?_
   | refine LeO.bind ?_ (fun _ => ?_)
theorem spec_CatRecord.mono : ∀ a0 a1 a2 k, LeO (spec_CatRecord.f k a0 a1 a2) (spec_CatRecord.f (k + 1) a0 a1 a2) := by
 intro a0 a1 a2 k
 have ih0 := spec_CatRecord.mono_l k
 unfold spec_CatRecord.f
 repeat' first
   | (with_reducible exact ih0 _ _ _ _)
   | (with_reducible exact spec_l1Dec.mono _ _)
   | (with_reducible exact spec_l9Ok.mono _ _ _ _ _)
   | (with_reducible exact LeO.refl _)
   | (with_reducible exact LeO.none _)
   | (with_reducible refine LeO.ite ?_ ?_)
   | (with_reducible refine LeO.bind ?_ (fun _ => ?_))
   | exact ih0 _ _ _ _
   | exact spec_l1Dec.mono _ _
   | exact spec_l9Ok.mono _ _ _ _ _
   | exact LeO.none _
   | refine LeO.ite ?_ ?_
   | refine LeO.bind ?_ (fun _ => ?_)
set_option maxHeartbeats 8000000 in
set_option maxRecDepth 100000 in
theorem spec_CatRecord.calls (k : Nat) (a0 : Int) (a1 : ByteArray) (a2 : ByteArray) (r : ByteArray) (w : World) (h : spec_CatRecord.f k a0 a1 a2 = some r) :
  Calls Tryd.prog 5 #[.int .i64 a0, .string a1, .string a2] w fun e w' => e = .returned (.string r) ∧ Below w.heap.size w w' := by
 have hu34 := Tryd.underlying34
 have HB := Aside0.mk (Below.refl w.heap.size w)
 have H : (if a2.toList = ([] : List UInt8) then (spec_CatRecord.j0 k a0 a1 a2 (⟨#[120]⟩ : ByteArray)) else (spec_CatRecord.j0 k a0 a1 a2 a2)) = some r:=h
 clear h
 have HC4 := Aside0.mk H
 clear H
 go_enter Tryd.func5, Tryd.ntmps5
 go_upto_if 10 with (fail)
 go_cut [7] (fun v7 wc => ∃ (kq : Nat) (x7_3 : ByteArray),v7 = .string x7_3 ∧ Aside0 (spec_CatRecord.j0 kq a0 a1 a2 x7_3 = some r) ∧ Aside0 (kq ≤ k) ∧ Aside0 (Below w.heap.size w wc))
 case first =>
  have H := HC4.out
  clear HC4
  by_cases c5 : a2.toList = ([] : List UInt8)
  ·rw [if_pos c5] at H
   have c5b0 : (a2.toList == ([] : List UInt8)) = true:=beq_iff_eq.mpr c5
   have c5b1 : (a2.toList != ([] : List UInt8)) = false:=bne_eq_false_iff_eq.mpr c5
   have c5b2 : (a2.toList).isEmpty = true:=List.isEmpty_iff.mpr c5
   clear c5
   (first|rw [c5b0]|rw [c5b2]|(simp only [i64_w,i32_w];rw [c5b0])|skip)
   have H' := Aside0.mk H
   clear H
   go_wp2
   go_meet
   case rel => exact ⟨_,((⟨#[120]⟩ : ByteArray)),(by first|rfl|(simp;done)|(simp [*];done)),H',⟨by first|omega|exact Nat.le_refl _⟩,⟨by repeat (first|(with_reducible first|exact HB.out|apply below_alloc|apply pw_below_drewN|apply below_drew1)|exact HB.out)⟩⟩
  ·rw [if_neg c5] at H
   have c5b0 : (a2.toList == ([] : List UInt8)) = false:=beq_eq_false_iff_ne.mpr c5
   have c5b1 : (a2.toList != ([] : List UInt8)) = true:=bne_iff_ne.mpr c5
   have c5b2 : (a2.toList).isEmpty = false:=List.isEmpty_eq_false_iff.mpr c5
   (first|rw [c5b0]|rw [c5b2]|(simp only [i64_w,i32_w];rw [c5b0])|skip)
   have H' := Aside0.mk H
   clear H
   go_wp2
   go_meet
   case rel => exact ⟨_,(a2),(by first|rfl|(simp;done)|(simp [*];done)),H',⟨by first|omega|exact Nat.le_refl _⟩,⟨by repeat (first|(with_reducible first|exact HB.out|apply below_alloc|apply pw_below_drewN|apply below_drew1)|exact HB.out)⟩⟩
 case rest =>
  clear HC4
  try clear p2
  try clear c5
  try clear c5b0
  try clear c5b1
  obtain ⟨kq, x7_3, rfl, HA, HJ3, HB⟩ := hcut
  cases kq with
  | zero => exact absurd HA.out (by simp [spec_CatRecord.j0])
  | succ kj3 =>
   have H := HA.out
   clear HA
   simp only [spec_CatRecord.j0] at H
   replace H := Option.bind_eq_some_iff.mp H
   obtain ⟨t114, A60, H⟩ := H
   replace H : (if t114 = true then ((spec_l1Dec.f kj3 a0).bind fun t115 => (if t115.size + 1 ≤ 9223372036854775807 then (if (t115++(⟨#[32]⟩ : ByteArray)).size + a1.size ≤ 9223372036854775807 then (if ((t115++(⟨#[32]⟩ : ByteArray))++a1).size + 1 ≤ 9223372036854775807 then (if (((t115++(⟨#[32]⟩ : ByteArray))++a1)++(⟨#[58]⟩ : ByteArray)).size + a2.size ≤ 9223372036854775807 then (some ((((t115++(⟨#[32]⟩ : ByteArray))++a1)++(⟨#[58]⟩ : ByteArray))++a2)) else (none)) else (none)) else (none)) else (none))) else (some (⟨#[]⟩ : ByteArray))) = some r:=H
   have A6 := Aside0.mk A60
   clear A60
   by_cases c7 : t114 = true
   ·subst c7
    have H1 : ((spec_l1Dec.f kj3 a0).bind fun t115 => (if t115.size + 1 ≤ 9223372036854775807 then (if (t115++(⟨#[32]⟩ : ByteArray)).size + a1.size ≤ 9223372036854775807 then (if ((t115++(⟨#[32]⟩ : ByteArray))++a1).size + 1 ≤ 9223372036854775807 then (if (((t115++(⟨#[32]⟩ : ByteArray))++a1)++(⟨#[58]⟩ : ByteArray)).size + a2.size ≤ 9223372036854775807 then (some ((((t115++(⟨#[32]⟩ : ByteArray))++a1)++(⟨#[58]⟩ : ByteArray))++a2)) else (none)) else (none)) else (none)) else (none))) = some r:=by rw [if_pos rfl] at H;exact H
    clear H
    have H := H1
    clear H1
    replace H := Option.bind_eq_some_iff.mp H
    obtain ⟨t115, A80, H⟩ := H
    replace H : (if t115.size + 1 ≤ 9223372036854775807 then (if (t115++(⟨#[32]⟩ : ByteArray)).size + a1.size ≤ 9223372036854775807 then (if ((t115++(⟨#[32]⟩ : ByteArray))++a1).size + 1 ≤ 9223372036854775807 then (if (((t115++(⟨#[32]⟩ : ByteArray))++a1)++(⟨#[58]⟩ : ByteArray)).size + a2.size ≤ 9223372036854775807 then (some ((((t115++(⟨#[32]⟩ : ByteArray))++a1)++(⟨#[58]⟩ : ByteArray))++a2)) else (none)) else (none)) else (none)) else (none)) = some r:=H
    have A8 := Aside0.mk A80
    clear A80
    by_cases c9 : t115.size + 1 ≤ 9223372036854775807
    ·rw [if_pos c9] at H
     have c9b0 := eq_true c9
     have c9b1 : decide (t115.size + 1 ≤ 9223372036854775807) = true:=decide_eq_true c9
     try have c9b2 : (9223372036854775807 < t115.size + 1) = False:=eq_false (Nat.not_lt.2 c9)
     by_cases c10 : (t115++(⟨#[32]⟩ : ByteArray)).size + a1.size ≤ 9223372036854775807
     ·rw [if_pos c10] at H
      have c10b0 := eq_true c10
      have c10b1 : decide ((t115++(⟨#[32]⟩ : ByteArray)).size + a1.size ≤ 9223372036854775807) = true:=decide_eq_true c10
      try have c10b2 : (9223372036854775807 < (t115++(⟨#[32]⟩ : ByteArray)).size + a1.size) = False:=eq_false (Nat.not_lt.2 c10)
      try have c10b3 : (9223372036854775807 < t115.size + 1 + a1.size) = False:=eq_false (Nat.not_lt.2 (by have h_:=c10;(repeat rw [ByteArray.size_append] at h_);exact h_))
      by_cases c11 : ((t115++(⟨#[32]⟩ : ByteArray))++a1).size + 1 ≤ 9223372036854775807
      ·rw [if_pos c11] at H
       have c11b0 := eq_true c11
       have c11b1 : decide (((t115++(⟨#[32]⟩ : ByteArray))++a1).size + 1 ≤ 9223372036854775807) = true:=decide_eq_true c11
       try have c11b2 : (9223372036854775807 < ((t115++(⟨#[32]⟩ : ByteArray))++a1).size + 1) = False:=eq_false (Nat.not_lt.2 c11)
       try have c11b3 : (9223372036854775807 < t115.size + 1 + a1.size + 1) = False:=eq_false (Nat.not_lt.2 (by have h_:=c11;(repeat rw [ByteArray.size_append] at h_);exact h_))
       by_cases c12 : (((t115++(⟨#[32]⟩ : ByteArray))++a1)++(⟨#[58]⟩ : ByteArray)).size + a2.size ≤ 9223372036854775807
       ·rw [if_pos c12] at H
        have c12b0 := eq_true c12
        have c12b1 : decide ((((t115++(⟨#[32]⟩ : ByteArray))++a1)++(⟨#[58]⟩ : ByteArray)).size + a2.size ≤ 9223372036854775807) = true:=decide_eq_true c12
        try have c12b2 : (9223372036854775807 < (((t115++(⟨#[32]⟩ : ByteArray))++a1)++(⟨#[58]⟩ : ByteArray)).size + a2.size) = False:=eq_false (Nat.not_lt.2 c12)
        try have c12b3 : (9223372036854775807 < t115.size + 1 + a1.size + 1 + a2.size) = False:=eq_false (Nat.not_lt.2 (by have h_:=c12;(repeat rw [ByteArray.size_append] at h_);exact h_))
        obtain rfl := Option.some.inj H
        go_wp2_with (first|((with_reducible refine gate_callee (f:=10) rfl ?_);refine goesL_ (some 15) rfl rfl Tryd.func10 (by kernel_rfl) rfl #[.agg #[.int .i64 a0,.string a1,.int .i64 0,.string x7_3]] rfl (by (try simp only [List.map_toArray,List.map_cons,List.map_nil]);first|done|rfl|(simp only [List.length_drop,List.length_take];rfl)) ?_;(with_reducible refine (spec_l9Ok.calls kj3 a0 a1 0 x7_3 true _ A6.out).mono ?_);rintro e w13 ⟨rfl,hb⟩;refine ⟨_,rfl,?_⟩;have n0_:=Aside0.mk (below_step (by repeat (first|(with_reducible first|exact HB.out|apply below_alloc|apply pw_below_drewN|apply below_drew1)|exact HB.out)) hb);clear HB;have HB:=n0_;clear n0_;(try clear hb);(try clear hb2);(try clear hk);(try clear hi))|((with_reducible refine gate_callee (f:=11) rfl ?_);refine goesL_ (some 18) rfl rfl Tryd.func11 (by kernel_rfl) rfl #[.int .i64 a0] rfl (by (try simp only [List.map_toArray,List.map_cons,List.map_nil]);first|done|rfl|(simp only [List.length_drop,List.length_take];rfl)) ?_;(with_reducible refine (spec_l1Dec.calls kj3 a0 t115 _ A8.out).mono ?_);rintro e w14 ⟨rfl,hb⟩;refine ⟨_,rfl,?_⟩;have n0_:=Aside0.mk (below_step (by repeat (first|(with_reducible first|exact HB.out|apply below_alloc|apply pw_below_drewN|apply below_drew1)|exact HB.out)) hb);clear HB;have HB:=n0_;clear n0_;(try clear hb);(try clear hb2);(try clear hk);(try clear hi)))
        go_ret
        exact ⟨by first|rfl|(simp [errW_none,errW_some] <;> rfl)|(simp [*,errW_none,errW_some] <;> rfl),by repeat (first|(with_reducible first|exact HB.out|apply below_alloc|apply pw_below_drewN|apply below_drew1)|exact HB.out)⟩
       ·rw [if_neg c12] at H
        exact absurd H (by simp)
      ·rw [if_neg c11] at H
       exact absurd H (by simp)
     ·rw [if_neg c10] at H
      exact absurd H (by simp)
    ·rw [if_neg c9] at H
     exact absurd H (by simp)
   ·replace c7 := Bool.eq_false_iff.mpr c7
    subst c7
    have H1 : (some (⟨#[]⟩ : ByteArray)) = some r:=by rw [if_neg (show ¬ (false = true) by decide)] at H;exact H
    clear H
    have H := H1
    clear H1
    obtain rfl := Option.some.inj H
    go_wp2_with (first|((with_reducible refine gate_callee (f:=10) rfl ?_);refine goesL_ (some 15) rfl rfl Tryd.func10 (by kernel_rfl) rfl #[.agg #[.int .i64 a0,.string a1,.int .i64 0,.string x7_3]] rfl (by (try simp only [List.map_toArray,List.map_cons,List.map_nil]);first|done|rfl|(simp only [List.length_drop,List.length_take];rfl)) ?_;(with_reducible refine (spec_l9Ok.calls kj3 a0 a1 0 x7_3 false _ A6.out).mono ?_);rintro e w15 ⟨rfl,hb⟩;refine ⟨_,rfl,?_⟩;have n0_:=Aside0.mk (below_step (by repeat (first|(with_reducible first|exact HB.out|apply below_alloc|apply pw_below_drewN|apply below_drew1)|exact HB.out)) hb);clear HB;have HB:=n0_;clear n0_;(try clear hb);(try clear hb2);(try clear hk);(try clear hi)))
    go_ret
    exact ⟨by first|rfl|(simp [errW_none,errW_some] <;> rfl)|(simp [*,errW_none,errW_some] <;> rfl),by repeat (first|(with_reducible first|exact HB.out|apply below_alloc|apply pw_below_drewN|apply below_drew1)|exact HB.out)⟩

/-! ### impl_within: function 24 -/
def impl_within.f (a0 : Int) (a1 : Int) (a2 : Int) : Option (Bool) := if a0 ≥ a1 then (some (decide (a0 ≤ a2))) else (some false)
set_option maxHeartbeats 8000000 in
set_option maxRecDepth 100000 in
theorem impl_within.calls (a0 : Int) (a1 : Int) (a2 : Int) (r : Bool) (w : World) (h : impl_within.f a0 a1 a2 = some r) :
  Calls Tryd.prog 24 #[.int .i64 a0, .int .i64 a1, .int .i64 a2] w fun e w' => e = .returned (.bool r) ∧ Drawn0 w w' := by
 have H : (if a0 ≥ a1 then (some (decide (a0 ≤ a2))) else (some false)) = some r:=h
 clear h
 by_cases c4 : a0 ≥ a1
 ·rw [if_pos c4] at H
  have c4b0 : decide (a1 ≤ a0) = true := decide_eq_true c4
  clear c4
  obtain rfl := Option.some.inj H
  go_enter Tryd.func24, Tryd.ntmps24
  go_wp2
  go_ret
  exact ⟨by first|rfl|(simp;done)|(simp [*];done),by repeat (first|exact Drawn0.refl _|apply Drawn0.step)⟩
 ·rw [if_neg c4] at H
  have c4b0 : decide (a1 ≤ a0) = false := decide_eq_false c4
  clear c4
  obtain rfl := Option.some.inj H
  go_enter Tryd.func24, Tryd.ntmps24
  go_wp2
  go_ret
  exact ⟨by first|rfl|(simp;done)|(simp [*];done),by repeat (first|exact Drawn0.refl _|apply Drawn0.step)⟩

/-! ### impl_house: function 12 -/
def impl_house.f (a0 : Int) : Option (Bool) := (impl_within.f a0 0 1).bind fun t116 => (some t116)
set_option maxHeartbeats 8000000 in
set_option maxRecDepth 100000 in
theorem impl_house.calls (a0 : Int) (r : Bool) (w : World) (h : impl_house.f a0 = some r) :
  Calls Tryd.prog 12 #[.int .i64 a0] w fun e w' => e = .returned (.bool r) ∧ Drawn0 w w' := by
 have H : ((impl_within.f a0 0 1).bind fun t116 => (some t116)) = some r:=h
 clear h
 replace H := Option.bind_eq_some_iff.mp H
 obtain ⟨t116, A20, H⟩ := H
 replace H : (some t116) = some r := H
 have A2 := Aside0.mk A20
 clear A20
 obtain rfl := Option.some.inj H
 go_enter Tryd.func12, Tryd.ntmps12
 go_wp2_with (first|((with_reducible refine gate_callee (f:=24) rfl ?_);refine goesL_ (some 4) rfl rfl Tryd.func24 (by kernel_rfl) rfl #[.int .i64 a0,.int .i64 0,.int .i64 1] rfl (by (try simp only [List.map_toArray,List.map_cons,List.map_nil]);first|done|rfl|(simp only [List.length_drop,List.length_take];rfl)) ?_;(with_reducible refine (impl_within.calls a0 0 1 t116 _ A2.out).mono ?_);rintro e w' ⟨rfl,⟨nd,rfl⟩⟩;refine ⟨_,rfl,?_⟩))
 go_ret
 exact ⟨by first|rfl|(simp;done)|(simp [*];done),by repeat (first|exact Drawn0.refl _|apply Drawn0.step)⟩

end Go.Proofs.YtbpmfdpbgcpjeaaDoor.PFnExactCatRecord
