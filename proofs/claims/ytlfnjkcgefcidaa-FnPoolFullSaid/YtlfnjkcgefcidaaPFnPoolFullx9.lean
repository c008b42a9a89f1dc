-- Written by a program of this session over the print's form. Lean checks it.
import Derived.Test.YtlfnjkcgefcidaaPFnPoolFullx0
import Derived.Test.YtlfnjkcgefcidaaPFnPoolFullx1
import Derived.Test.YtlfnjkcgefcidaaPFnPoolFullx8
namespace Go.Proofs.Ytlfnjkcgefcidaa.PFnPoolFull
open Go.RowKit Go.Proofs.YtlfnjkcgefcidaaW.PrintWords Go.Proofs.YtlfnjkcgefcidaaW.PrintLast Go.Proofs.YtlfnjkcgefcidaaW.PrintMore
attribute [local go_sem] max2_int min2_int max_two min_two max_three min_three max_four min_four   -- for this text's walks alone
set_option linter.unusedVariables false
set_option linter.unusedSimpArgs false

attribute [local go_sem high] eqA41
/-! ### spec_l10Ok: function 42 -/
def spec_l10Ok.f (a0_0 : Int) (a0_1 : Int) (a0_2 : Int) (a0_3 : Int) (a0_4 : Bool) : Option (Bool) := if a0_1 = 0 then (some (a0_0 == 0 && (a0_1 == 0 && (a0_2 == 0 && (a0_3 == 0 && (!a0_4)))))) else ((spec_l1In.f a0_0 0 1).bind fun t175 => (if t175 = true then ((spec_l1In.f a0_1 1 99999).bind fun t176 => (if t176 = true then ((spec_l1In.f a0_2 0 23).bind fun t177 => (if t177 = true then ((spec_l1In.f a0_3 0 99999).bind fun t178 => (some t178)) else (some false))) else (some false))) else (some false)))
set_option maxHeartbeats 8000000 in
set_option maxRecDepth 100000 in
theorem spec_l10Ok.calls (a0_0 : Int) (a0_1 : Int) (a0_2 : Int) (a0_3 : Int) (a0_4 : Bool) (r : Bool) (w : World) (h : spec_l10Ok.f a0_0 a0_1 a0_2 a0_3 a0_4 = some r) :
  Calls Try.prog 42 #[.agg #[.int .i64 a0_0, .int .i64 a0_1, .int .i64 a0_2, .int .i64 a0_3, .bool a0_4]] w fun e w' => e = .returned (.bool r) ∧ Below w.heap.size w w' := by
 have hu41 := Try.underlying41;have HB := z_a (Below.refl w.heap.size w);have H : (if a0_1 = 0 then (some (a0_0 == 0 && (a0_1 == 0 && (a0_2 == 0 && (a0_3 == 0 && (!a0_4)))))) else ((spec_l1In.f a0_0 0 1).bind fun t175 => (if t175 = true then ((spec_l1In.f a0_1 1 99999).bind fun t176 => (if t176 = true then ((spec_l1In.f a0_2 0 23).bind fun t177 => (if t177 = true then ((spec_l1In.f a0_3 0 99999).bind fun t178 => (some t178)) else (some false))) else (some false))) else (some false)))) = some r:=h;clear h
 by_cases c2 : a0_1 = 0
 ·rw [if_pos c2] at H;have c2b0 : (a0_1 == 0) = true := beq_iff_eq.mpr c2;have c2b1 : (a0_1 != 0) = false:=bne_eq_false_iff_eq.mpr c2;clear c2;obtain rfl := Option.some.inj H
  go_enter Try.func42, Try.ntmps42
  go_wp2_with (first|((with_reducible refine gate_dst (N:=1) rfl ?_);refine box_event ?hg (N:=1) ?hd (cs:=#[.int .i64 a0_0,.int .i64 a0_1,.int .i64 a0_2,.int .i64 a0_3,.bool a0_4]) (t:=41) ?hr ?_;(case hd => rfl);(case hg => rfl);(case hr => first|(go_simp;done)|(go_simp;rfl));intro gb174 hg w3 hbox hb;have n0_:=z_a (z_f zB hb);have n1_:=z_a (hbox);have n2_:=z_a ((by rw [hg];exact (z_g zB) : w.heap.size ≤ gb174));have n3_:=z_a ((by rw [hg];exact (z_g zB) : w.heap.size ≤ gb174));clear HB;have HB:=n0_;have BK174:=n1_;have GW174:=n2_;have GE174:=n3_;clear n0_ n1_ n2_ n3_;clear hb hbox hg;have hcz4_0 : w3.cell? ⟨gb174,0,none⟩ = some (.int .i64 a0_0):=(z_b BK174.out 0).trans rfl;have hcz4_1 : w3.cell? ⟨gb174,1,none⟩ = some (.int .i64 a0_1):=(z_b BK174.out 1).trans rfl;have hcz4_2 : w3.cell? ⟨gb174,2,none⟩ = some (.int .i64 a0_2):=(z_b BK174.out 2).trans rfl;have hcz4_3 : w3.cell? ⟨gb174,3,none⟩ = some (.int .i64 a0_3):=(z_b BK174.out 3).trans rfl;have hcz4_4 : w3.cell? ⟨gb174,4,none⟩ = some (.bool a0_4):=(z_b BK174.out 4).trans rfl;have hfz4_0:=z_4 BK174.out 0;have hfz4_1:=z_4 BK174.out 1;have hfz4_2:=z_4 BK174.out 2;have hfz4_3:=z_4 BK174.out 3;have hfz4_4:=z_4 BK174.out 4))
  go_ret
  exact ⟨by first|rfl|(simp [errW_none,errW_some] <;> rfl)|(simp [*,errW_none,errW_some] <;> rfl),zB⟩
 rw [if_neg c2] at H;have c2b0 : (a0_1 == 0) = false:=beq_eq_false_iff_ne.mpr c2;have c2b1 : (a0_1 != 0) = true := bne_iff_ne.mpr c2;replace H := z_8 H;obtain ⟨t175, A50, H⟩ := H;replace H : (if t175 = true then ((spec_l1In.f a0_1 1 99999).bind fun t176 => (if t176 = true then ((spec_l1In.f a0_2 0 23).bind fun t177 => (if t177 = true then ((spec_l1In.f a0_3 0 99999).bind fun t178 => (some t178)) else (some false))) else (some false))) else (some false)) = some r:=H;have A5 := z_a A50;clear A50
 by_cases c6 : t175 = true
 ·subst c6;have H1 : ((spec_l1In.f a0_1 1 99999).bind fun t176 => (if t176 = true then ((spec_l1In.f a0_2 0 23).bind fun t177 => (if t177 = true then ((spec_l1In.f a0_3 0 99999).bind fun t178 => (some t178)) else (some false))) else (some false))) = some r:=by rw [if_pos rfl] at H;exact H
  clear H;have H := H1;clear H1;replace H := z_8 H;obtain ⟨t176, A70, H⟩ := H;replace H : (if t176 = true then ((spec_l1In.f a0_2 0 23).bind fun t177 => (if t177 = true then ((spec_l1In.f a0_3 0 99999).bind fun t178 => (some t178)) else (some false))) else (some false)) = some r:=H;have A7 := z_a A70;clear A70
  by_cases c8 : t176 = true
  ·subst c8;have H1 : ((spec_l1In.f a0_2 0 23).bind fun t177 => (if t177 = true then ((spec_l1In.f a0_3 0 99999).bind fun t178 => (some t178)) else (some false))) = some r:=by rw [if_pos rfl] at H;exact H
   clear H;have H := H1;clear H1;replace H := z_8 H;obtain ⟨t177, A90, H⟩ := H;replace H : (if t177 = true then ((spec_l1In.f a0_3 0 99999).bind fun t178 => (some t178)) else (some false)) = some r:=H;have A9 := z_a A90;clear A90
   by_cases c10 : t177 = true
   ·subst c10;have H1 : ((spec_l1In.f a0_3 0 99999).bind fun t178 => (some t178)) = some r:=by rw [if_pos rfl] at H;exact H
    clear H;have H := H1;clear H1;replace H := z_8 H;obtain ⟨t178, A110, H⟩ := H;replace H : (some t178) = some r := H;have A11 := z_a A110;clear A110;obtain rfl := Option.some.inj H
    go_enter Try.func42, Try.ntmps42
    go_wp2_with (first|((with_reducible refine gate_dst (N:=1) rfl ?_);refine box_event ?hg (N:=1) ?hd (cs:=#[.int .i64 a0_0,.int .i64 a0_1,.int .i64 a0_2,.int .i64 a0_3,.bool a0_4]) (t:=41) ?hr ?_;(case hd => rfl);(case hg => rfl);(case hr => first|(go_simp;done)|(go_simp;rfl));intro gb174 hg w12 hbox hb;have n0_:=z_a (z_f zB hb);have n1_:=z_a (hbox);have n2_:=z_a ((by rw [hg];exact (z_g zB) : w.heap.size ≤ gb174));have n3_:=z_a ((by rw [hg];exact (z_g zB) : w.heap.size ≤ gb174));clear HB;have HB:=n0_;have BK174:=n1_;have GW174:=n2_;have GE174:=n3_;clear n0_ n1_ n2_ n3_;clear hb hbox hg;have hcz13_0 : w12.cell? ⟨gb174,0,none⟩ = some (.int .i64 a0_0):=(z_b BK174.out 0).trans rfl;have hcz13_1 : w12.cell? ⟨gb174,1,none⟩ = some (.int .i64 a0_1):=(z_b BK174.out 1).trans rfl;have hcz13_2 : w12.cell? ⟨gb174,2,none⟩ = some (.int .i64 a0_2):=(z_b BK174.out 2).trans rfl;have hcz13_3 : w12.cell? ⟨gb174,3,none⟩ = some (.int .i64 a0_3):=(z_b BK174.out 3).trans rfl;have hcz13_4 : w12.cell? ⟨gb174,4,none⟩ = some (.bool a0_4):=(z_b BK174.out 4).trans rfl;have hfz13_0:=z_4 BK174.out 0;have hfz13_1:=z_4 BK174.out 1;have hfz13_2:=z_4 BK174.out 2;have hfz13_3:=z_4 BK174.out 3;have hfz13_4:=z_4 BK174.out 4)|((with_reducible refine gate_callee (f:=41) rfl ?_);refine goesL_ (some 11) rfl rfl Try.func41 (by kernel_rfl) rfl #[.int .i64 a0_0,.int .i64 0,.int .i64 1] rfl (by (try simp only [z_7,List.map_cons,List.map_nil]);first|done|rfl|(simp only [z_6,z_5];rfl)) ?_;(with_reducible refine (spec_l1In.calls a0_0 0 1 true _ A5.out).mono ?_);rintro e w' ⟨rfl,⟨nd,rfl⟩⟩;refine ⟨_,rfl,?_⟩)|(go_at_call 41;(with_reducible refine (spec_l1In.calls a0_1 1 99999 true _ A7.out).mono ?_);rintro e w' ⟨rfl,⟨nd,rfl⟩⟩)|(go_at_call 41;(with_reducible refine (spec_l1In.calls a0_2 0 23 true _ A9.out).mono ?_);rintro e w' ⟨rfl,⟨nd,rfl⟩⟩)|(go_at_call 41;(with_reducible refine (spec_l1In.calls a0_3 0 99999 t178 _ A11.out).mono ?_);rintro e w' ⟨rfl,⟨nd,rfl⟩⟩))
    go_ret
    exact ⟨by first|rfl|(simp [errW_none,errW_some] <;> rfl)|(simp [*,errW_none,errW_some] <;> rfl),zB⟩
   replace c10 := Bool.eq_false_iff.mpr c10;subst c10;have H1 : (some false) = some r:=by rw [if_neg (show ¬ (false = true) by decide)] at H;exact H
   clear H;have H := H1;clear H1;obtain rfl := Option.some.inj H
   go_enter Try.func42, Try.ntmps42
   go_wp2_with (first|((with_reducible refine gate_dst (N:=1) rfl ?_);refine box_event ?hg (N:=1) ?hd (cs:=#[.int .i64 a0_0,.int .i64 a0_1,.int .i64 a0_2,.int .i64 a0_3,.bool a0_4]) (t:=41) ?hr ?_;(case hd => rfl);(case hg => rfl);(case hr => first|(go_simp;done)|(go_simp;rfl));intro gb174 hg w14 hbox hb;have n0_:=z_a (z_f zB hb);have n1_:=z_a (hbox);have n2_:=z_a ((by rw [hg];exact (z_g zB) : w.heap.size ≤ gb174));have n3_:=z_a ((by rw [hg];exact (z_g zB) : w.heap.size ≤ gb174));clear HB;have HB:=n0_;have BK174:=n1_;have GW174:=n2_;have GE174:=n3_;clear n0_ n1_ n2_ n3_;clear hb hbox hg;have hcz15_0 : w14.cell? ⟨gb174,0,none⟩ = some (.int .i64 a0_0):=(z_b BK174.out 0).trans rfl;have hcz15_1 : w14.cell? ⟨gb174,1,none⟩ = some (.int .i64 a0_1):=(z_b BK174.out 1).trans rfl;have hcz15_2 : w14.cell? ⟨gb174,2,none⟩ = some (.int .i64 a0_2):=(z_b BK174.out 2).trans rfl;have hcz15_3 : w14.cell? ⟨gb174,3,none⟩ = some (.int .i64 a0_3):=(z_b BK174.out 3).trans rfl;have hcz15_4 : w14.cell? ⟨gb174,4,none⟩ = some (.bool a0_4):=(z_b BK174.out 4).trans rfl;have hfz15_0:=z_4 BK174.out 0;have hfz15_1:=z_4 BK174.out 1;have hfz15_2:=z_4 BK174.out 2;have hfz15_3:=z_4 BK174.out 3;have hfz15_4:=z_4 BK174.out 4)|((with_reducible refine gate_callee (f:=41) rfl ?_);refine goesL_ (some 11) rfl rfl Try.func41 (by kernel_rfl) rfl #[.int .i64 a0_0,.int .i64 0,.int .i64 1] rfl (by (try simp only [z_7,List.map_cons,List.map_nil]);first|done|rfl|(simp only [z_6,z_5];rfl)) ?_;(with_reducible refine (spec_l1In.calls a0_0 0 1 true _ A5.out).mono ?_);rintro e w' ⟨rfl,⟨nd,rfl⟩⟩;refine ⟨_,rfl,?_⟩)|(go_at_call 41;(with_reducible refine (spec_l1In.calls a0_1 1 99999 true _ A7.out).mono ?_);rintro e w' ⟨rfl,⟨nd,rfl⟩⟩)|(go_at_call 41;(with_reducible refine (spec_l1In.calls a0_2 0 23 false _ A9.out).mono ?_);rintro e w' ⟨rfl,⟨nd,rfl⟩⟩))
   go_ret
   exact ⟨by first|rfl|(simp [errW_none,errW_some] <;> rfl)|(simp [*,errW_none,errW_some] <;> rfl),zB⟩
  replace c8 := Bool.eq_false_iff.mpr c8;subst c8;have H1 : (some false) = some r:=by rw [if_neg (show ¬ (false = true) by decide)] at H;exact H
  clear H;have H := H1;clear H1;obtain rfl := Option.some.inj H
  go_enter Try.func42, Try.ntmps42
  go_wp2_with (first|((with_reducible refine gate_dst (N:=1) rfl ?_);refine box_event ?hg (N:=1) ?hd (cs:=#[.int .i64 a0_0,.int .i64 a0_1,.int .i64 a0_2,.int .i64 a0_3,.bool a0_4]) (t:=41) ?hr ?_;(case hd => rfl);(case hg => rfl);(case hr => first|(go_simp;done)|(go_simp;rfl));intro gb174 hg w16 hbox hb;have n0_:=z_a (z_f zB hb);have n1_:=z_a (hbox);have n2_:=z_a ((by rw [hg];exact (z_g zB) : w.heap.size ≤ gb174));have n3_:=z_a ((by rw [hg];exact (z_g zB) : w.heap.size ≤ gb174));clear HB;have HB:=n0_;have BK174:=n1_;have GW174:=n2_;have GE174:=n3_;clear n0_ n1_ n2_ n3_;clear hb hbox hg;have hcz17_0 : w16.cell? ⟨gb174,0,none⟩ = some (.int .i64 a0_0):=(z_b BK174.out 0).trans rfl;have hcz17_1 : w16.cell? ⟨gb174,1,none⟩ = some (.int .i64 a0_1):=(z_b BK174.out 1).trans rfl;have hcz17_2 : w16.cell? ⟨gb174,2,none⟩ = some (.int .i64 a0_2):=(z_b BK174.out 2).trans rfl;have hcz17_3 : w16.cell? ⟨gb174,3,none⟩ = some (.int .i64 a0_3):=(z_b BK174.out 3).trans rfl;have hcz17_4 : w16.cell? ⟨gb174,4,none⟩ = some (.bool a0_4):=(z_b BK174.out 4).trans rfl;have hfz17_0:=z_4 BK174.out 0;have hfz17_1:=z_4 BK174.out 1;have hfz17_2:=z_4 BK174.out 2;have hfz17_3:=z_4 BK174.out 3;have hfz17_4:=z_4 BK174.out 4)|((with_reducible refine gate_callee (f:=41) rfl ?_);refine goesL_ (some 11) rfl rfl Try.func41 (by kernel_rfl) rfl #[.int .i64 a0_0,.int .i64 0,.int .i64 1] rfl (by (try simp only [z_7,List.map_cons,List.map_nil]);first|done|rfl|(simp only [z_6,z_5];rfl)) ?_;(with_reducible refine (spec_l1In.calls a0_0 0 1 true _ A5.out).mono ?_);rintro e w' ⟨rfl,⟨nd,rfl⟩⟩;refine ⟨_,rfl,?_⟩)|(go_at_call 41;(with_reducible refine (spec_l1In.calls a0_1 1 99999 false _ A7.out).mono ?_);rintro e w' ⟨rfl,⟨nd,rfl⟩⟩))
  go_ret
  exact ⟨by first|rfl|(simp [errW_none,errW_some] <;> rfl)|(simp [*,errW_none,errW_some] <;> rfl),zB⟩
 replace c6 := Bool.eq_false_iff.mpr c6;subst c6;have H1 : (some false) = some r:=by rw [if_neg (show ¬ (false = true) by decide)] at H;exact H
 clear H;have H := H1;clear H1;obtain rfl := Option.some.inj H
 go_enter Try.func42, Try.ntmps42
 go_wp2_with (first|((with_reducible refine gate_dst (N:=1) rfl ?_);refine box_event ?hg (N:=1) ?hd (cs:=#[.int .i64 a0_0,.int .i64 a0_1,.int .i64 a0_2,.int .i64 a0_3,.bool a0_4]) (t:=41) ?hr ?_;(case hd => rfl);(case hg => rfl);(case hr => first|(go_simp;done)|(go_simp;rfl));intro gb174 hg w18 hbox hb;have n0_:=z_a (z_f zB hb);have n1_:=z_a (hbox);have n2_:=z_a ((by rw [hg];exact (z_g zB) : w.heap.size ≤ gb174));have n3_:=z_a ((by rw [hg];exact (z_g zB) : w.heap.size ≤ gb174));clear HB;have HB:=n0_;have BK174:=n1_;have GW174:=n2_;have GE174:=n3_;clear n0_ n1_ n2_ n3_;clear hb hbox hg;have hcz19_0 : w18.cell? ⟨gb174,0,none⟩ = some (.int .i64 a0_0):=(z_b BK174.out 0).trans rfl;have hcz19_1 : w18.cell? ⟨gb174,1,none⟩ = some (.int .i64 a0_1):=(z_b BK174.out 1).trans rfl;have hcz19_2 : w18.cell? ⟨gb174,2,none⟩ = some (.int .i64 a0_2):=(z_b BK174.out 2).trans rfl;have hcz19_3 : w18.cell? ⟨gb174,3,none⟩ = some (.int .i64 a0_3):=(z_b BK174.out 3).trans rfl;have hcz19_4 : w18.cell? ⟨gb174,4,none⟩ = some (.bool a0_4):=(z_b BK174.out 4).trans rfl;have hfz19_0:=z_4 BK174.out 0;have hfz19_1:=z_4 BK174.out 1;have hfz19_2:=z_4 BK174.out 2;have hfz19_3:=z_4 BK174.out 3;have hfz19_4:=z_4 BK174.out 4)|((with_reducible refine gate_callee (f:=41) rfl ?_);refine goesL_ (some 11) rfl rfl Try.func41 (by kernel_rfl) rfl #[.int .i64 a0_0,.int .i64 0,.int .i64 1] rfl (by (try simp only [z_7,List.map_cons,List.map_nil]);first|done|rfl|(simp only [z_6,z_5];rfl)) ?_;(with_reducible refine (spec_l1In.calls a0_0 0 1 false _ A5.out).mono ?_);rintro e w' ⟨rfl,⟨nd,rfl⟩⟩;refine ⟨_,rfl,?_⟩))
 go_ret
 exact ⟨by first|rfl|(simp [errW_none,errW_some] <;> rfl)|(simp [*,errW_none,errW_some] <;> rfl),zB⟩

/-! ### spec_l10Of: function 43 -/
def spec_l10Of.l0 : Nat → Int → Int → Int → List (S41) → Int → Option (Int)
 | 0, _, _, _, _, _ => none
 | k + 1, x1, x5, x6, x180000, x180001 => if x6 < (x180000.length : Int) then (if 0 ≤ x6 then (if ((rd_T41 x180000 x6).f1) > 0 then (if ((rd_T41 x180000 x6).f0) = x1 then (spec_l10Of.l0 k x1 (wrap64 (x5 + 1)) (wrap64 (x6 + 1)) x180000 x180001) else (spec_l10Of.l0 k x1 x5 (wrap64 (x6 + 1)) x180000 x180001)) else (spec_l10Of.l0 k x1 x5 (wrap64 (x6 + 1)) x180000 x180001)) else (none)) else (some x5)
def spec_l10Of.f (k : Nat) (l0_0 : List (S41)) (a0_1 : Int) (a1 : Int) : Option (Int) := spec_l10Of.l0 k a1 0 0 l0_0 a0_1
theorem spec_l10Of.mono_l : ∀ k, (∀ y0 y1 y2 y3 y4, LeO (spec_l10Of.l0 k y0 y1 y2 y3 y4) (spec_l10Of.l0 (k + 1) y0 y1 y2 y3 y4))
 | 0 => fun _ _ _ _ _ r h => by simp [spec_l10Of.l0] at h
 | k + 1 => by
  have ih0 := spec_l10Of.mono_l k
  ·intro y0 y1 y2 y3 y4
   unfold spec_l10Of.l0
   repeat' first
   | (with_reducible exact ih0 _ _ _ _ _)
   | (with_reducible exact LeO.refl _)
   | (with_reducible exact LeO.none _)
   | (with_reducible refine LeO.ite ?_ ?_)
   | (with_reducible refine LeO.bind ?_ (fun _ => ?_))
   | exact ih0 _ _ _ _ _
   | exact LeO.none _
   | refine LeO.ite ?_ ?_
   | refine LeO.bind ?_ (fun _ => ?_)
theorem spec_l10Of.mono : ∀ a0 a1 a2 k, LeO (spec_l10Of.f k a0 a1 a2) (spec_l10Of.f (k + 1) a0 a1 a2) := by
 intro a0 a1 a2 k;have ih0 := spec_l10Of.mono_l k;unfold spec_l10Of.f
 repeat' first
   | (with_reducible exact ih0 _ _ _ _ _)
   | (with_reducible exact LeO.refl _)
   | (with_reducible exact LeO.none _)
   | (with_reducible refine LeO.ite ?_ ?_)
   | (with_reducible refine LeO.bind ?_ (fun _ => ?_))
   | exact ih0 _ _ _ _ _
   | exact LeO.none _
   | refine LeO.ite ?_ ?_
   | refine LeO.bind ?_ (fun _ => ?_)
set_option maxHeartbeats 8000000 in
set_option maxRecDepth 100000 in
theorem spec_l10Of.calls (k : Nat) (A0_0 : Option Addr) (c0_0 : Nat) (l0_0 : List (S41)) (a0_1 : Int) (a1 : Int) (r : Int) (w : World) (hr0_0 : Kd.C k41 w A0_0 l0_0.length l0_0) (hc0_0 : l0_0.length ≤ c0_0) (h : spec_l10Of.f k l0_0 a0_1 a1 = some r) :
  Calls Try.prog 43 #[.agg #[.slice A0_0 l0_0.length c0_0, .int .i64 a0_1], .int .i64 a1] w fun e w' => e = .returned (.int .i64 r) ∧ Below w.heap.size w w' := by
 have hu29 := Try.underlying29;have HR0_0 := z_a hr0_0;have HC0_0 := z_a hc0_0;clear hr0_0 hc0_0;have HB := z_a (Below.refl w.heap.size w);have H : (spec_l10Of.l0 k a1 0 0 l0_0 a0_1) = some r := h;clear h;have H' := z_a H;clear H
 go_enter Try.func43, Try.ntmps43
 go_wp2_with (first|((with_reducible refine gate_dst (N:=2) rfl ?_);refine box_event ?hg (N:=2) ?hd (cs:=#[.slice A0_0 l0_0.length c0_0,.int .i64 a0_1]) (t:=29) ?hr ?_;(case hd => rfl);(case hg => rfl);(case hr => first|(go_simp;done)|(go_simp;rfl));intro gb179 hg w3 hbox hb;have n0_:=z_a (z_f zB hb);have n1_:=z_a (hbox);have n2_:=z_a ((by rw [hg];exact (z_g zB) : w.heap.size ≤ gb179));have n3_:=z_a ((by rw [hg];exact (z_g zB) : w.heap.size ≤ gb179));clear HB;have HB:=n0_;have BK179:=n1_;have GW179:=n2_;have GE179:=n3_;clear n0_ n1_ n2_ n3_;clear hb hbox hg))
 go_loopg [5,6] k (fun kq v5 v6 w' => ∃ (x5_1 : Int) (x6_1 : Int),v5 = .int .i64 x5_1 ∧ v6 = .int .i64 x6_1 ∧ Aside0 (spec_l10Of.l0 kq a1 x5_1 x6_1 l0_0 a0_1 = some r) ∧ Aside0 (kq ≤ k) ∧ Aside0 (w'.heap[gb179]? = some (.cells #[(.slice A0_0 l0_0.length c0_0),.int .i64 a0_1] 29 (0,0))) ∧ Aside0 (Below w.heap.size w w'))
 case atStart => exact ⟨(0),(0),(by first|rfl|(simp;done)|(simp [*];done)),(by first|rfl|(simp;done)|(simp [*];done)),H',⟨Nat.le_refl _⟩,⟨by (with_reducible repeat (first|refine y_b ?_ _|refine y_c ?_|refine y_d ?_ _));exact BK179.out⟩,⟨zB⟩⟩
 case round =>
  clear H'
  try clear p2
  obtain ⟨x5_1, x6_1, rfl, rfl, HA, HK1, BK179, HB⟩ := hrel;cases gk with
  | zero => exact absurd HA.out (by simp [spec_l10Of.l0])
  | succ k1 =>
   have H := HA.out;clear HA;simp only [spec_l10Of.l0] at H
   by_cases c4 : x6_1 < (l0_0.length : Int)
   ·rw [if_pos c4] at H;have c4b0 : decide (x6_1 < (l0_0.length : Int)) = true:=z_e c4;clear c4
    by_cases c5 : 0 ≤ x6_1
    ·rw [if_pos c5] at H;have c5b0 : decide (0 ≤ x6_1) = true := z_e c5;clear c5
     by_cases c6 : ((rd_T41 l0_0 x6_1).f1) > 0
     ·rw [if_pos c6] at H;have c6b0 : decide (0 < ((rd_T41 l0_0 x6_1).f1)) = true:=z_e c6;clear c6
      by_cases c7 : ((rd_T41 l0_0 x6_1).f0) = a1
      ·rw [if_pos c7] at H;have c7b0 : (((rd_T41 l0_0 x6_1).f0) == a1) = true:=beq_iff_eq.mpr c7;have c7b1 : (((rd_T41 l0_0 x6_1).f0) != a1) = false:=bne_eq_false_iff_eq.mpr c7;clear c7;have H' := z_a H;clear H;have hcz8_0 : wr.cell? ⟨gb179,0,none⟩ = some (.slice A0_0 l0_0.length c0_0):=(z_b BK179.out 0).trans rfl;have hcz8_1 : wr.cell? ⟨gb179,1,none⟩ = some (.int .i64 a0_1):=(z_b BK179.out 1).trans rfl;have hfz8_0 := z_4 BK179.out 0;have hfz8_1 := z_4 BK179.out 1;have p180 : 0 ≤ (x6_1 : Int):=z_9 (by first|(with_reducible assumption)|assumption);have q180 : x6_1 < (l0_0.length : Int):=z_9 (by first|(with_reducible assumption)|assumption);obtain ⟨ad180,e180,hx180_0,hx180_1,hx180_2,hx180_3,hx180_4⟩:=at_T41 HR0_0.out x6_1 p180 q180;cases e180;replace hx180_0:=(z_c HB.out hx180_0).trans hx180_0;replace hx180_1:=(z_c HB.out hx180_1).trans hx180_1;replace hx180_2:=(z_c HB.out hx180_2).trans hx180_2;replace hx180_3:=(z_c HB.out hx180_3).trans hx180_3;replace hx180_4:=(z_c HB.out hx180_4).trans hx180_4;replace p180 := eq_true p180;replace q180 := eq_true q180;have p181 : 0 ≤ (x6_1 : Int):=z_9 (by first|(with_reducible assumption)|assumption);have q181 : x6_1 < (l0_0.length : Int):=z_9 (by first|(with_reducible assumption)|assumption);obtain ⟨ad181,e181,hx181_0,hx181_1,hx181_2,hx181_3,hx181_4⟩:=at_T41 HR0_0.out x6_1 p181 q181;obtain rfl : ad180 = ad181 := (by injection e181);replace hx181_0:=(z_c HB.out hx181_0).trans hx181_0;replace hx181_1:=(z_c HB.out hx181_1).trans hx181_1
       replace hx181_2:=(z_c HB.out hx181_2).trans hx181_2;replace hx181_3:=(z_c HB.out hx181_3).trans hx181_3;replace hx181_4:=(z_c HB.out hx181_4).trans hx181_4;replace p181 := eq_true p181;replace q181 := eq_true q181
       go_wp2
       go_roundg k1
       case measure => have := HK1.out; omega
       case rel => exact ⟨(wrap64 (x5_1 + 1)),(wrap64 (x6_1 + 1)),(by first|rfl|(simp;done)|(simp [*];done)),(by first|rfl|(simp;done)|(simp [*];done)),H',⟨by have:=HK1.out;omega⟩,⟨by (with_reducible repeat (first|refine y_b ?_ _|refine y_c ?_|refine y_d ?_ _));exact BK179.out⟩,⟨zB⟩⟩
      ·rw [if_neg c7] at H;have c7b0 : (((rd_T41 l0_0 x6_1).f0) == a1) = false:=beq_eq_false_iff_ne.mpr c7;have c7b1 : (((rd_T41 l0_0 x6_1).f0) != a1) = true:=bne_iff_ne.mpr c7;have H' := z_a H;clear H;have hcz9_0 : wr.cell? ⟨gb179,0,none⟩ = some (.slice A0_0 l0_0.length c0_0):=(z_b BK179.out 0).trans rfl;have hcz9_1 : wr.cell? ⟨gb179,1,none⟩ = some (.int .i64 a0_1):=(z_b BK179.out 1).trans rfl;have hfz9_0 := z_4 BK179.out 0;have hfz9_1 := z_4 BK179.out 1;have p180 : 0 ≤ (x6_1 : Int):=z_9 (by first|(with_reducible assumption)|assumption);have q180 : x6_1 < (l0_0.length : Int):=z_9 (by first|(with_reducible assumption)|assumption);obtain ⟨ad180,e180,hx180_0,hx180_1,hx180_2,hx180_3,hx180_4⟩:=at_T41 HR0_0.out x6_1 p180 q180;cases e180;replace hx180_0:=(z_c HB.out hx180_0).trans hx180_0;replace hx180_1:=(z_c HB.out hx180_1).trans hx180_1;replace hx180_2:=(z_c HB.out hx180_2).trans hx180_2;replace hx180_3:=(z_c HB.out hx180_3).trans hx180_3;replace hx180_4:=(z_c HB.out hx180_4).trans hx180_4;replace p180 := eq_true p180;replace q180 := eq_true q180;have p181 : 0 ≤ (x6_1 : Int):=z_9 (by first|(with_reducible assumption)|assumption);have q181 : x6_1 < (l0_0.length : Int):=z_9 (by first|(with_reducible assumption)|assumption);obtain ⟨ad181,e181,hx181_0,hx181_1,hx181_2,hx181_3,hx181_4⟩:=at_T41 HR0_0.out x6_1 p181 q181;obtain rfl : ad180 = ad181 := (by injection e181);replace hx181_0:=(z_c HB.out hx181_0).trans hx181_0;replace hx181_1:=(z_c HB.out hx181_1).trans hx181_1
       replace hx181_2:=(z_c HB.out hx181_2).trans hx181_2;replace hx181_3:=(z_c HB.out hx181_3).trans hx181_3;replace hx181_4:=(z_c HB.out hx181_4).trans hx181_4;replace p181 := eq_true p181;replace q181 := eq_true q181
       go_wp2
       go_roundg k1
       case measure => have := HK1.out; omega
       case rel => exact ⟨(x5_1),(wrap64 (x6_1 + 1)),(by first|rfl|(simp;done)|(simp [*];done)),(by first|rfl|(simp;done)|(simp [*];done)),H',⟨by have:=HK1.out;omega⟩,⟨by (with_reducible repeat (first|refine y_b ?_ _|refine y_c ?_|refine y_d ?_ _));exact BK179.out⟩,⟨zB⟩⟩
     ·rw [if_neg c6] at H;have c6b0 : decide (0 < ((rd_T41 l0_0 x6_1).f1)) = false:=decide_eq_false c6;clear c6;have H' := z_a H;clear H;have hcz10_0 : wr.cell? ⟨gb179,0,none⟩ = some (.slice A0_0 l0_0.length c0_0):=(z_b BK179.out 0).trans rfl;have hcz10_1 : wr.cell? ⟨gb179,1,none⟩ = some (.int .i64 a0_1):=(z_b BK179.out 1).trans rfl;have hfz10_0 := z_4 BK179.out 0;have hfz10_1 := z_4 BK179.out 1;have p180 : 0 ≤ (x6_1 : Int):=z_9 (by first|(with_reducible assumption)|assumption);have q180 : x6_1 < (l0_0.length : Int):=z_9 (by first|(with_reducible assumption)|assumption);obtain ⟨ad180,e180,hx180_0,hx180_1,hx180_2,hx180_3,hx180_4⟩:=at_T41 HR0_0.out x6_1 p180 q180;cases e180;replace hx180_0:=(z_c HB.out hx180_0).trans hx180_0;replace hx180_1:=(z_c HB.out hx180_1).trans hx180_1;replace hx180_2:=(z_c HB.out hx180_2).trans hx180_2;replace hx180_3:=(z_c HB.out hx180_3).trans hx180_3;replace hx180_4:=(z_c HB.out hx180_4).trans hx180_4;replace p180 := eq_true p180;replace q180 := eq_true q180
      go_wp2
      go_roundg k1
      case measure => have := HK1.out; omega
      case rel => exact ⟨(x5_1),(wrap64 (x6_1 + 1)),(by first|rfl|(simp;done)|(simp [*];done)),(by first|rfl|(simp;done)|(simp [*];done)),H',⟨by have:=HK1.out;omega⟩,⟨by (with_reducible repeat (first|refine y_b ?_ _|refine y_c ?_|refine y_d ?_ _));exact BK179.out⟩,⟨zB⟩⟩
    ·rw [if_neg c5] at H;exact absurd H (by simp)
   ·rw [if_neg c4] at H;have c4b0 : decide (x6_1 < (l0_0.length : Int)) = false:=decide_eq_false c4;clear c4;obtain rfl := Option.some.inj H;have hcz11_0 : wr.cell? ⟨gb179,0,none⟩ = some (.slice A0_0 l0_0.length c0_0):=(z_b BK179.out 0).trans rfl;have hcz11_1 : wr.cell? ⟨gb179,1,none⟩ = some (.int .i64 a0_1):=(z_b BK179.out 1).trans rfl;have hfz11_0 := z_4 BK179.out 0;have hfz11_1 := z_4 BK179.out 1
    go_wp2
    go_ret
    exact ⟨by first|rfl|(simp [errW_none,errW_some] <;> rfl)|(simp [*,errW_none,errW_some] <;> rfl),zB⟩

end Go.Proofs.Ytlfnjkcgefcidaa.PFnPoolFull
