-- Written by a program of this session over the print's form. Lean checks it.
import Derived.Test.YtlfnjkcgefcidaaPFnPoolDropx0
import Derived.Test.YtlfnjkcgefcidaaPFnPoolDropx1
namespace Go.Proofs.Ytlfnjkcgefcidaa.PFnPoolDrop
open Go.RowKit Go.Proofs.YtlfnjkcgefcidaaW.PrintWords Go.Proofs.YtlfnjkcgefcidaaW.PrintLast Go.Proofs.YtlfnjkcgefcidaaW.PrintMore
attribute [local go_sem] max2_int min2_int max_two min_two max_three min_three max_four min_four   -- for this text's walks alone
set_option linter.unusedVariables false
set_option linter.unusedSimpArgs false

attribute [local go_sem high] eqA41
/-! ### spec_l1In: function 41 -/
def spec_l1In.f (a0 : Int) (a1 : Int) (a2 : Int) : Option (Bool) := if a0 ≥ a1 then (some (decide (a0 ≤ a2))) else (some false)
set_option maxHeartbeats 8000000 in
set_option maxRecDepth 100000 in
theorem spec_l1In.calls (a0 : Int) (a1 : Int) (a2 : Int) (r : Bool) (w : World) (h : spec_l1In.f a0 a1 a2 = some r) :
  Calls Try.prog 41 #[.int .i64 a0, .int .i64 a1, .int .i64 a2] w fun e w' => e = .returned (.bool r) ∧ Drawn0 w w' := by
 have H : (if a0 ≥ a1 then (some (decide (a0 ≤ a2))) else (some false)) = some r:=h;clear h
 by_cases c4 : a0 ≥ a1
 ·rw [if_pos c4] at H;have c4b0 : decide (a1 ≤ a0) = true := z_e c4;clear c4;obtain rfl := Option.some.inj H
  go_enter Try.func41, Try.ntmps41
  go_wp2
  go_ret
  exact ⟨by first|rfl|(simp;done)|(simp [*];done),by repeat (first|exact Drawn0.refl _|apply Drawn0.step)⟩
 rw [if_neg c4] at H;have c4b0 : decide (a1 ≤ a0) = false := decide_eq_false c4;clear c4;obtain rfl := Option.some.inj H
 go_enter Try.func41, Try.ntmps41
 go_wp2
 go_ret
 exact ⟨by first|rfl|(simp;done)|(simp [*];done),by repeat (first|exact Drawn0.refl _|apply Drawn0.step)⟩

/-! ### spec_l10Ok: function 42 -/
def spec_l10Ok.f (a0_0 : Int) (a0_1 : Int) (a0_2 : Int) (a0_3 : Int) (a0_4 : Bool) : Option (Bool) := if a0_1 = 0 then (some (a0_0 == 0 && (a0_1 == 0 && (a0_2 == 0 && (a0_3 == 0 && (!a0_4)))))) else ((spec_l1In.f a0_0 0 1).bind fun t102 => (if t102 = true then ((spec_l1In.f a0_1 1 99999).bind fun t103 => (if t103 = true then ((spec_l1In.f a0_2 0 23).bind fun t104 => (if t104 = true then ((spec_l1In.f a0_3 0 99999).bind fun t105 => (some t105)) else (some false))) else (some false))) else (some false)))
set_option maxHeartbeats 8000000 in
set_option maxRecDepth 100000 in
theorem spec_l10Ok.calls (a0_0 : Int) (a0_1 : Int) (a0_2 : Int) (a0_3 : Int) (a0_4 : Bool) (r : Bool) (w : World) (h : spec_l10Ok.f a0_0 a0_1 a0_2 a0_3 a0_4 = some r) :
  Calls Try.prog 42 #[.agg #[.int .i64 a0_0, .int .i64 a0_1, .int .i64 a0_2, .int .i64 a0_3, .bool a0_4]] w fun e w' => e = .returned (.bool r) ∧ Below w.heap.size w w' := by
 have hu41 := Try.underlying41;have HB := z_a (Below.refl w.heap.size w);have H : (if a0_1 = 0 then (some (a0_0 == 0 && (a0_1 == 0 && (a0_2 == 0 && (a0_3 == 0 && (!a0_4)))))) else ((spec_l1In.f a0_0 0 1).bind fun t102 => (if t102 = true then ((spec_l1In.f a0_1 1 99999).bind fun t103 => (if t103 = true then ((spec_l1In.f a0_2 0 23).bind fun t104 => (if t104 = true then ((spec_l1In.f a0_3 0 99999).bind fun t105 => (some t105)) else (some false))) else (some false))) else (some false)))) = some r:=h;clear h
 by_cases c2 : a0_1 = 0
 ·rw [if_pos c2] at H;have c2b0 : (a0_1 == 0) = true := beq_iff_eq.mpr c2;have c2b1 : (a0_1 != 0) = false:=bne_eq_false_iff_eq.mpr c2;clear c2;obtain rfl := Option.some.inj H
  go_enter Try.func42, Try.ntmps42
  go_wp2_with (first|((with_reducible refine gate_dst (N:=1) rfl ?_);refine box_event ?hg (N:=1) ?hd (cs:=#[.int .i64 a0_0,.int .i64 a0_1,.int .i64 a0_2,.int .i64 a0_3,.bool a0_4]) (t:=41) ?hr ?_;(case hd => rfl);(case hg => rfl);(case hr => first|(go_simp;done)|(go_simp;rfl));intro gb101 hg w3 hbox hb;have n0_:=z_a (z_f zB hb);have n1_:=z_a (hbox);have n2_:=z_a ((by rw [hg];exact (z_g zB) : w.heap.size ≤ gb101));have n3_:=z_a ((by rw [hg];exact (z_g zB) : w.heap.size ≤ gb101));clear HB;have HB:=n0_;have BK101:=n1_;have GW101:=n2_;have GE101:=n3_;clear n0_ n1_ n2_ n3_;clear hb hbox hg;have hcz4_0 : w3.cell? ⟨gb101,0,none⟩ = some (.int .i64 a0_0):=(z_b BK101.out 0).trans rfl;have hcz4_1 : w3.cell? ⟨gb101,1,none⟩ = some (.int .i64 a0_1):=(z_b BK101.out 1).trans rfl;have hcz4_2 : w3.cell? ⟨gb101,2,none⟩ = some (.int .i64 a0_2):=(z_b BK101.out 2).trans rfl;have hcz4_3 : w3.cell? ⟨gb101,3,none⟩ = some (.int .i64 a0_3):=(z_b BK101.out 3).trans rfl;have hcz4_4 : w3.cell? ⟨gb101,4,none⟩ = some (.bool a0_4):=(z_b BK101.out 4).trans rfl;have hfz4_0:=z_4 BK101.out 0;have hfz4_1:=z_4 BK101.out 1;have hfz4_2:=z_4 BK101.out 2;have hfz4_3:=z_4 BK101.out 3;have hfz4_4:=z_4 BK101.out 4))
  go_ret
  exact ⟨by first|rfl|(simp [errW_none,errW_some] <;> rfl)|(simp [*,errW_none,errW_some] <;> rfl),zB⟩
 rw [if_neg c2] at H;have c2b0 : (a0_1 == 0) = false:=beq_eq_false_iff_ne.mpr c2;have c2b1 : (a0_1 != 0) = true := bne_iff_ne.mpr c2;replace H := z_8 H;obtain ⟨t102, A50, H⟩ := H;replace H : (if t102 = true then ((spec_l1In.f a0_1 1 99999).bind fun t103 => (if t103 = true then ((spec_l1In.f a0_2 0 23).bind fun t104 => (if t104 = true then ((spec_l1In.f a0_3 0 99999).bind fun t105 => (some t105)) else (some false))) else (some false))) else (some false)) = some r:=H;have A5 := z_a A50;clear A50
 by_cases c6 : t102 = true
 ·subst c6;have H1 : ((spec_l1In.f a0_1 1 99999).bind fun t103 => (if t103 = true then ((spec_l1In.f a0_2 0 23).bind fun t104 => (if t104 = true then ((spec_l1In.f a0_3 0 99999).bind fun t105 => (some t105)) else (some false))) else (some false))) = some r:=by rw [if_pos rfl] at H;exact H
  clear H;have H := H1;clear H1;replace H := z_8 H;obtain ⟨t103, A70, H⟩ := H;replace H : (if t103 = true then ((spec_l1In.f a0_2 0 23).bind fun t104 => (if t104 = true then ((spec_l1In.f a0_3 0 99999).bind fun t105 => (some t105)) else (some false))) else (some false)) = some r:=H;have A7 := z_a A70;clear A70
  by_cases c8 : t103 = true
  ·subst c8;have H1 : ((spec_l1In.f a0_2 0 23).bind fun t104 => (if t104 = true then ((spec_l1In.f a0_3 0 99999).bind fun t105 => (some t105)) else (some false))) = some r:=by rw [if_pos rfl] at H;exact H
   clear H;have H := H1;clear H1;replace H := z_8 H;obtain ⟨t104, A90, H⟩ := H;replace H : (if t104 = true then ((spec_l1In.f a0_3 0 99999).bind fun t105 => (some t105)) else (some false)) = some r:=H;have A9 := z_a A90;clear A90
   by_cases c10 : t104 = true
   ·subst c10;have H1 : ((spec_l1In.f a0_3 0 99999).bind fun t105 => (some t105)) = some r:=by rw [if_pos rfl] at H;exact H
    clear H;have H := H1;clear H1;replace H := z_8 H;obtain ⟨t105, A110, H⟩ := H;replace H : (some t105) = some r := H;have A11 := z_a A110;clear A110;obtain rfl := Option.some.inj H
    go_enter Try.func42, Try.ntmps42
    go_wp2_with (first|((with_reducible refine gate_dst (N:=1) rfl ?_);refine box_event ?hg (N:=1) ?hd (cs:=#[.int .i64 a0_0,.int .i64 a0_1,.int .i64 a0_2,.int .i64 a0_3,.bool a0_4]) (t:=41) ?hr ?_;(case hd => rfl);(case hg => rfl);(case hr => first|(go_simp;done)|(go_simp;rfl));intro gb101 hg w12 hbox hb;have n0_:=z_a (z_f zB hb);have n1_:=z_a (hbox);have n2_:=z_a ((by rw [hg];exact (z_g zB) : w.heap.size ≤ gb101));have n3_:=z_a ((by rw [hg];exact (z_g zB) : w.heap.size ≤ gb101));clear HB;have HB:=n0_;have BK101:=n1_;have GW101:=n2_;have GE101:=n3_;clear n0_ n1_ n2_ n3_;clear hb hbox hg;have hcz13_0 : w12.cell? ⟨gb101,0,none⟩ = some (.int .i64 a0_0):=(z_b BK101.out 0).trans rfl;have hcz13_1 : w12.cell? ⟨gb101,1,none⟩ = some (.int .i64 a0_1):=(z_b BK101.out 1).trans rfl;have hcz13_2 : w12.cell? ⟨gb101,2,none⟩ = some (.int .i64 a0_2):=(z_b BK101.out 2).trans rfl;have hcz13_3 : w12.cell? ⟨gb101,3,none⟩ = some (.int .i64 a0_3):=(z_b BK101.out 3).trans rfl;have hcz13_4 : w12.cell? ⟨gb101,4,none⟩ = some (.bool a0_4):=(z_b BK101.out 4).trans rfl;have hfz13_0:=z_4 BK101.out 0;have hfz13_1:=z_4 BK101.out 1;have hfz13_2:=z_4 BK101.out 2;have hfz13_3:=z_4 BK101.out 3;have hfz13_4:=z_4 BK101.out 4)|((with_reducible refine gate_callee (f:=41) rfl ?_);refine goesL_ (some 11) rfl rfl Try.func41 (by kernel_rfl) rfl #[.int .i64 a0_0,.int .i64 0,.int .i64 1] rfl (by (try simp only [z_7,List.map_cons,List.map_nil]);first|done|rfl|(simp only [z_6,z_5];rfl)) ?_;(with_reducible refine (spec_l1In.calls a0_0 0 1 true _ A5.out).mono ?_);rintro e w' ⟨rfl,⟨nd,rfl⟩⟩;refine ⟨_,rfl,?_⟩)|(go_at_call 41;(with_reducible refine (spec_l1In.calls a0_1 1 99999 true _ A7.out).mono ?_);rintro e w' ⟨rfl,⟨nd,rfl⟩⟩)|(go_at_call 41;(with_reducible refine (spec_l1In.calls a0_2 0 23 true _ A9.out).mono ?_);rintro e w' ⟨rfl,⟨nd,rfl⟩⟩)|(go_at_call 41;(with_reducible refine (spec_l1In.calls a0_3 0 99999 t105 _ A11.out).mono ?_);rintro e w' ⟨rfl,⟨nd,rfl⟩⟩))
    go_ret
    exact ⟨by first|rfl|(simp [errW_none,errW_some] <;> rfl)|(simp [*,errW_none,errW_some] <;> rfl),zB⟩
   replace c10 := Bool.eq_false_iff.mpr c10;subst c10;have H1 : (some false) = some r:=by rw [if_neg (show ¬ (false = true) by decide)] at H;exact H
   clear H;have H := H1;clear H1;obtain rfl := Option.some.inj H
   go_enter Try.func42, Try.ntmps42
   go_wp2_with (first|((with_reducible refine gate_dst (N:=1) rfl ?_);refine box_event ?hg (N:=1) ?hd (cs:=#[.int .i64 a0_0,.int .i64 a0_1,.int .i64 a0_2,.int .i64 a0_3,.bool a0_4]) (t:=41) ?hr ?_;(case hd => rfl);(case hg => rfl);(case hr => first|(go_simp;done)|(go_simp;rfl));intro gb101 hg w14 hbox hb;have n0_:=z_a (z_f zB hb);have n1_:=z_a (hbox);have n2_:=z_a ((by rw [hg];exact (z_g zB) : w.heap.size ≤ gb101));have n3_:=z_a ((by rw [hg];exact (z_g zB) : w.heap.size ≤ gb101));clear HB;have HB:=n0_;have BK101:=n1_;have GW101:=n2_;have GE101:=n3_;clear n0_ n1_ n2_ n3_;clear hb hbox hg;have hcz15_0 : w14.cell? ⟨gb101,0,none⟩ = some (.int .i64 a0_0):=(z_b BK101.out 0).trans rfl;have hcz15_1 : w14.cell? ⟨gb101,1,none⟩ = some (.int .i64 a0_1):=(z_b BK101.out 1).trans rfl;have hcz15_2 : w14.cell? ⟨gb101,2,none⟩ = some (.int .i64 a0_2):=(z_b BK101.out 2).trans rfl;have hcz15_3 : w14.cell? ⟨gb101,3,none⟩ = some (.int .i64 a0_3):=(z_b BK101.out 3).trans rfl;have hcz15_4 : w14.cell? ⟨gb101,4,none⟩ = some (.bool a0_4):=(z_b BK101.out 4).trans rfl;have hfz15_0:=z_4 BK101.out 0;have hfz15_1:=z_4 BK101.out 1;have hfz15_2:=z_4 BK101.out 2;have hfz15_3:=z_4 BK101.out 3;have hfz15_4:=z_4 BK101.out 4)|((with_reducible refine gate_callee (f:=41) rfl ?_);refine goesL_ (some 11) rfl rfl Try.func41 (by kernel_rfl) rfl #[.int .i64 a0_0,.int .i64 0,.int .i64 1] rfl (by (try simp only [z_7,List.map_cons,List.map_nil]);first|done|rfl|(simp only [z_6,z_5];rfl)) ?_;(with_reducible refine (spec_l1In.calls a0_0 0 1 true _ A5.out).mono ?_);rintro e w' ⟨rfl,⟨nd,rfl⟩⟩;refine ⟨_,rfl,?_⟩)|(go_at_call 41;(with_reducible refine (spec_l1In.calls a0_1 1 99999 true _ A7.out).mono ?_);rintro e w' ⟨rfl,⟨nd,rfl⟩⟩)|(go_at_call 41;(with_reducible refine (spec_l1In.calls a0_2 0 23 false _ A9.out).mono ?_);rintro e w' ⟨rfl,⟨nd,rfl⟩⟩))
   go_ret
   exact ⟨by first|rfl|(simp [errW_none,errW_some] <;> rfl)|(simp [*,errW_none,errW_some] <;> rfl),zB⟩
  replace c8 := Bool.eq_false_iff.mpr c8;subst c8;have H1 : (some false) = some r:=by rw [if_neg (show ¬ (false = true) by decide)] at H;exact H
  clear H;have H := H1;clear H1;obtain rfl := Option.some.inj H
  go_enter Try.func42, Try.ntmps42
  go_wp2_with (first|((with_reducible refine gate_dst (N:=1) rfl ?_);refine box_event ?hg (N:=1) ?hd (cs:=#[.int .i64 a0_0,.int .i64 a0_1,.int .i64 a0_2,.int .i64 a0_3,.bool a0_4]) (t:=41) ?hr ?_;(case hd => rfl);(case hg => rfl);(case hr => first|(go_simp;done)|(go_simp;rfl));intro gb101 hg w16 hbox hb;have n0_:=z_a (z_f zB hb);have n1_:=z_a (hbox);have n2_:=z_a ((by rw [hg];exact (z_g zB) : w.heap.size ≤ gb101));have n3_:=z_a ((by rw [hg];exact (z_g zB) : w.heap.size ≤ gb101));clear HB;have HB:=n0_;have BK101:=n1_;have GW101:=n2_;have GE101:=n3_;clear n0_ n1_ n2_ n3_;clear hb hbox hg;have hcz17_0 : w16.cell? ⟨gb101,0,none⟩ = some (.int .i64 a0_0):=(z_b BK101.out 0).trans rfl;have hcz17_1 : w16.cell? ⟨gb101,1,none⟩ = some (.int .i64 a0_1):=(z_b BK101.out 1).trans rfl;have hcz17_2 : w16.cell? ⟨gb101,2,none⟩ = some (.int .i64 a0_2):=(z_b BK101.out 2).trans rfl;have hcz17_3 : w16.cell? ⟨gb101,3,none⟩ = some (.int .i64 a0_3):=(z_b BK101.out 3).trans rfl;have hcz17_4 : w16.cell? ⟨gb101,4,none⟩ = some (.bool a0_4):=(z_b BK101.out 4).trans rfl;have hfz17_0:=z_4 BK101.out 0;have hfz17_1:=z_4 BK101.out 1;have hfz17_2:=z_4 BK101.out 2;have hfz17_3:=z_4 BK101.out 3;have hfz17_4:=z_4 BK101.out 4)|((with_reducible refine gate_callee (f:=41) rfl ?_);refine goesL_ (some 11) rfl rfl Try.func41 (by kernel_rfl) rfl #[.int .i64 a0_0,.int .i64 0,.int .i64 1] rfl (by (try simp only [z_7,List.map_cons,List.map_nil]);first|done|rfl|(simp only [z_6,z_5];rfl)) ?_;(with_reducible refine (spec_l1In.calls a0_0 0 1 true _ A5.out).mono ?_);rintro e w' ⟨rfl,⟨nd,rfl⟩⟩;refine ⟨_,rfl,?_⟩)|(go_at_call 41;(with_reducible refine (spec_l1In.calls a0_1 1 99999 false _ A7.out).mono ?_);rintro e w' ⟨rfl,⟨nd,rfl⟩⟩))
  go_ret
  exact ⟨by first|rfl|(simp [errW_none,errW_some] <;> rfl)|(simp [*,errW_none,errW_some] <;> rfl),zB⟩
 replace c6 := Bool.eq_false_iff.mpr c6;subst c6;have H1 : (some false) = some r:=by rw [if_neg (show ¬ (false = true) by decide)] at H;exact H
 clear H;have H := H1;clear H1;obtain rfl := Option.some.inj H
 go_enter Try.func42, Try.ntmps42
 go_wp2_with (first|((with_reducible refine gate_dst (N:=1) rfl ?_);refine box_event ?hg (N:=1) ?hd (cs:=#[.int .i64 a0_0,.int .i64 a0_1,.int .i64 a0_2,.int .i64 a0_3,.bool a0_4]) (t:=41) ?hr ?_;(case hd => rfl);(case hg => rfl);(case hr => first|(go_simp;done)|(go_simp;rfl));intro gb101 hg w18 hbox hb;have n0_:=z_a (z_f zB hb);have n1_:=z_a (hbox);have n2_:=z_a ((by rw [hg];exact (z_g zB) : w.heap.size ≤ gb101));have n3_:=z_a ((by rw [hg];exact (z_g zB) : w.heap.size ≤ gb101));clear HB;have HB:=n0_;have BK101:=n1_;have GW101:=n2_;have GE101:=n3_;clear n0_ n1_ n2_ n3_;clear hb hbox hg;have hcz19_0 : w18.cell? ⟨gb101,0,none⟩ = some (.int .i64 a0_0):=(z_b BK101.out 0).trans rfl;have hcz19_1 : w18.cell? ⟨gb101,1,none⟩ = some (.int .i64 a0_1):=(z_b BK101.out 1).trans rfl;have hcz19_2 : w18.cell? ⟨gb101,2,none⟩ = some (.int .i64 a0_2):=(z_b BK101.out 2).trans rfl;have hcz19_3 : w18.cell? ⟨gb101,3,none⟩ = some (.int .i64 a0_3):=(z_b BK101.out 3).trans rfl;have hcz19_4 : w18.cell? ⟨gb101,4,none⟩ = some (.bool a0_4):=(z_b BK101.out 4).trans rfl;have hfz19_0:=z_4 BK101.out 0;have hfz19_1:=z_4 BK101.out 1;have hfz19_2:=z_4 BK101.out 2;have hfz19_3:=z_4 BK101.out 3;have hfz19_4:=z_4 BK101.out 4)|((with_reducible refine gate_callee (f:=41) rfl ?_);refine goesL_ (some 11) rfl rfl Try.func41 (by kernel_rfl) rfl #[.int .i64 a0_0,.int .i64 0,.int .i64 1] rfl (by (try simp only [z_7,List.map_cons,List.map_nil]);first|done|rfl|(simp only [z_6,z_5];rfl)) ?_;(with_reducible refine (spec_l1In.calls a0_0 0 1 false _ A5.out).mono ?_);rintro e w' ⟨rfl,⟨nd,rfl⟩⟩;refine ⟨_,rfl,?_⟩))
 go_ret
 exact ⟨by first|rfl|(simp [errW_none,errW_some] <;> rfl)|(simp [*,errW_none,errW_some] <;> rfl),zB⟩

end Go.Proofs.Ytlfnjkcgefcidaa.PFnPoolDrop
