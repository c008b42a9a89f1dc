-- Written by a program of this session over the print's form. Lean checks it.
import Derived.Test.YtlfnjkcgefcidaaPFnPoolDropx0
namespace Go.Proofs.Ytlfnjkcgefcidaa.PFnPoolDrop
open Go.RowKit Go.Proofs.YtlfnjkcgefcidaaW.PrintWords Go.Proofs.YtlfnjkcgefcidaaW.PrintLast Go.Proofs.YtlfnjkcgefcidaaW.PrintMore
attribute [local go_sem] max2_int min2_int max_two min_two max_three min_three max_four min_four   -- for this text's walks alone
set_option linter.unusedVariables false
set_option linter.unusedSimpArgs false

/-! ### spec_l10Find: function 76 -/
def spec_l10Find.l0 : Nat → Int → Int → Int → List (S41) → Int → Option (Int)
 | 0, _, _, _, _, _ => none
 | k + 1, x1, x2, x7, x199000, x199001 => if x7 < (x199000.length : Int) then (if 0 ≤ x7 then (if ((rd_T41 x199000 x7).f1) = x1 then (if ((rd_T41 x199000 x7).f2) = x2 then (some x7) else (spec_l10Find.l0 k x1 x2 (wrap64 (x7 + 1)) x199000 x199001)) else (spec_l10Find.l0 k x1 x2 (wrap64 (x7 + 1)) x199000 x199001)) else (none)) else (some (-1))
def spec_l10Find.f (k : Nat) (l0_0 : List (S41)) (a0_1 : Int) (a1 : Int) (a2 : Int) : Option (Int) := spec_l10Find.l0 k a1 a2 0 l0_0 a0_1
theorem spec_l10Find.mono_l : ∀ k, (∀ y0 y1 y2 y3 y4, LeO (spec_l10Find.l0 k y0 y1 y2 y3 y4) (spec_l10Find.l0 (k + 1) y0 y1 y2 y3 y4))
 | 0 => fun _ _ _ _ _ r h => by simp [spec_l10Find.l0] at h
 | k + 1 => by
  have ih0 := spec_l10Find.mono_l k
  ·intro y0 y1 y2 y3 y4
   unfold spec_l10Find.l0
   repeat' first
   | (with_reducible exact ih0 _ _ _ _ _)
   | (with_reducible exact LeO.refl _)
   | (with_reducible exact LeO.none _)
   | (with_reducible refine LeO.ite ?_ ?_)
   | (with_reducible refine LeO.bind ?_ (fun _ => ?_))
   | exact ih0 _ _ _ _ _
   | exact LeO.none _
   | refine LeO.ite ?_ ?_
   | refine LeO.bind ?_ (fun _ => ?_)
theorem spec_l10Find.mono : ∀ a0 a1 a2 a3 k, LeO (spec_l10Find.f k a0 a1 a2 a3) (spec_l10Find.f (k + 1) a0 a1 a2 a3) := by
 intro a0 a1 a2 a3 k;have ih0 := spec_l10Find.mono_l k;unfold spec_l10Find.f
 repeat' first
   | (with_reducible exact ih0 _ _ _ _ _)
   | (with_reducible exact LeO.refl _)
   | (with_reducible exact LeO.none _)
   | (with_reducible refine LeO.ite ?_ ?_)
   | (with_reducible refine LeO.bind ?_ (fun _ => ?_))
   | exact ih0 _ _ _ _ _
   | exact LeO.none _
   | refine LeO.ite ?_ ?_
   | refine LeO.bind ?_ (fun _ => ?_)
set_option maxHeartbeats 8000000 in
set_option maxRecDepth 100000 in
theorem spec_l10Find.calls (k : Nat) (A0_0 : Option Addr) (c0_0 : Nat) (l0_0 : List (S41)) (a0_1 : Int) (a1 : Int) (a2 : Int) (r : Int) (w : World) (hr0_0 : Kd.C k41 w A0_0 l0_0.length l0_0) (hc0_0 : l0_0.length ≤ c0_0) (h : spec_l10Find.f k l0_0 a0_1 a1 a2 = some r) :
  Calls Try.prog 76 #[.agg #[.slice A0_0 l0_0.length c0_0, .int .i64 a0_1], .int .i64 a1, .int .i64 a2] w fun e w' => e = .returned (.int .i64 r) ∧ Below w.heap.size w w' := by
 have hu29 := Try.underlying29;have HR0_0 := z_a hr0_0;have HC0_0 := z_a hc0_0;clear hr0_0 hc0_0;have HB := z_a (Below.refl w.heap.size w);have H : (spec_l10Find.l0 k a1 a2 0 l0_0 a0_1) = some r := h;clear h;have H' := z_a H;clear H
 go_enter Try.func76, Try.ntmps76
 go_wp2_with (first|((with_reducible refine gate_dst (N:=3) rfl ?_);refine box_event ?hg (N:=3) ?hd (cs:=#[.slice A0_0 l0_0.length c0_0,.int .i64 a0_1]) (t:=29) ?hr ?_;(case hd => rfl);(case hg => rfl);(case hr => first|(go_simp;done)|(go_simp;rfl));intro gb198 hg w4 hbox hb;have n0_:=z_a (z_f zB hb);have n1_:=z_a (hbox);have n2_:=z_a ((by rw [hg];exact (z_g zB) : w.heap.size ≤ gb198));have n3_:=z_a ((by rw [hg];exact (z_g zB) : w.heap.size ≤ gb198));clear HB;have HB:=n0_;have BK198:=n1_;have GW198:=n2_;have GE198:=n3_;clear n0_ n1_ n2_ n3_;clear hb hbox hg))
 go_loopg [7] k (fun kq v7 w' => ∃ (x7_1 : Int),v7 = .int .i64 x7_1 ∧ Aside0 (spec_l10Find.l0 kq a1 a2 x7_1 l0_0 a0_1 = some r) ∧ Aside0 (kq ≤ k) ∧ Aside0 (w'.heap[gb198]? = some (.cells #[(.slice A0_0 l0_0.length c0_0),.int .i64 a0_1] 29 (0,0))) ∧ Aside0 (Below w.heap.size w w'))
 case atStart => exact ⟨(0),(by first|rfl|(simp;done)|(simp [*];done)),H',⟨Nat.le_refl _⟩,⟨by (with_reducible repeat (first|refine y_b ?_ _|refine y_c ?_|refine y_d ?_ _));exact BK198.out⟩,⟨zB⟩⟩
 case round =>
  clear H'
  try clear p2
  obtain ⟨x7_1, rfl, HA, HK1, BK198, HB⟩ := hrel;cases gk with
  | zero => exact absurd HA.out (by simp [spec_l10Find.l0])
  | succ k1 =>
   have H := HA.out;clear HA;simp only [spec_l10Find.l0] at H
   by_cases c5 : x7_1 < (l0_0.length : Int)
   ·rw [if_pos c5] at H;have c5b0 : decide (x7_1 < (l0_0.length : Int)) = true:=z_e c5;clear c5
    by_cases c6 : 0 ≤ x7_1
    ·rw [if_pos c6] at H;have c6b0 : decide (0 ≤ x7_1) = true := z_e c6;clear c6
     by_cases c7 : ((rd_T41 l0_0 x7_1).f1) = a1
     ·rw [if_pos c7] at H;have c7b0 : (((rd_T41 l0_0 x7_1).f1) == a1) = true:=beq_iff_eq.mpr c7;have c7b1 : (((rd_T41 l0_0 x7_1).f1) != a1) = false:=bne_eq_false_iff_eq.mpr c7;clear c7
      by_cases c8 : ((rd_T41 l0_0 x7_1).f2) = a2
      ·rw [if_pos c8] at H;have c8b0 : (((rd_T41 l0_0 x7_1).f2) == a2) = true:=beq_iff_eq.mpr c8;have c8b1 : (((rd_T41 l0_0 x7_1).f2) != a2) = false:=bne_eq_false_iff_eq.mpr c8;clear c8;obtain rfl := Option.some.inj H;have hcz9_0 : wr.cell? ⟨gb198,0,none⟩ = some (.slice A0_0 l0_0.length c0_0):=(z_b BK198.out 0).trans rfl;have hcz9_1 : wr.cell? ⟨gb198,1,none⟩ = some (.int .i64 a0_1):=(z_b BK198.out 1).trans rfl;have hfz9_0 := z_4 BK198.out 0;have hfz9_1 := z_4 BK198.out 1;have p199 : 0 ≤ (x7_1 : Int):=z_9 (by first|(with_reducible assumption)|assumption);have q199 : x7_1 < (l0_0.length : Int):=z_9 (by first|(with_reducible assumption)|assumption);obtain ⟨ad199,e199,hx199_0,hx199_1,hx199_2,hx199_3,hx199_4⟩:=at_T41 HR0_0.out x7_1 p199 q199;cases e199;replace hx199_0:=(z_c HB.out hx199_0).trans hx199_0;replace hx199_1:=(z_c HB.out hx199_1).trans hx199_1;replace hx199_2:=(z_c HB.out hx199_2).trans hx199_2;replace hx199_3:=(z_c HB.out hx199_3).trans hx199_3;replace hx199_4:=(z_c HB.out hx199_4).trans hx199_4;replace p199 := eq_true p199;replace q199 := eq_true q199;have p200 : 0 ≤ (x7_1 : Int):=z_9 (by first|(with_reducible assumption)|assumption);have q200 : x7_1 < (l0_0.length : Int):=z_9 (by first|(with_reducible assumption)|assumption);obtain ⟨ad200,e200,hx200_0,hx200_1,hx200_2,hx200_3,hx200_4⟩:=at_T41 HR0_0.out x7_1 p200 q200;obtain rfl : ad199 = ad200 := (by injection e200);replace hx200_0:=(z_c HB.out hx200_0).trans hx200_0
       replace hx200_1:=(z_c HB.out hx200_1).trans hx200_1;replace hx200_2:=(z_c HB.out hx200_2).trans hx200_2;replace hx200_3:=(z_c HB.out hx200_3).trans hx200_3;replace hx200_4:=(z_c HB.out hx200_4).trans hx200_4;replace p200 := eq_true p200;replace q200 := eq_true q200
       go_wp2
       go_ret
       exact ⟨by first|rfl|(simp [errW_none,errW_some] <;> rfl)|(simp [*,errW_none,errW_some] <;> rfl),zB⟩
      ·rw [if_neg c8] at H;have c8b0 : (((rd_T41 l0_0 x7_1).f2) == a2) = false:=beq_eq_false_iff_ne.mpr c8;have c8b1 : (((rd_T41 l0_0 x7_1).f2) != a2) = true:=bne_iff_ne.mpr c8;have H' := z_a H;clear H;have hcz10_0 : wr.cell? ⟨gb198,0,none⟩ = some (.slice A0_0 l0_0.length c0_0):=(z_b BK198.out 0).trans rfl;have hcz10_1 : wr.cell? ⟨gb198,1,none⟩ = some (.int .i64 a0_1):=(z_b BK198.out 1).trans rfl;have hfz10_0 := z_4 BK198.out 0;have hfz10_1 := z_4 BK198.out 1;have p199 : 0 ≤ (x7_1 : Int):=z_9 (by first|(with_reducible assumption)|assumption);have q199 : x7_1 < (l0_0.length : Int):=z_9 (by first|(with_reducible assumption)|assumption);obtain ⟨ad199,e199,hx199_0,hx199_1,hx199_2,hx199_3,hx199_4⟩:=at_T41 HR0_0.out x7_1 p199 q199;cases e199;replace hx199_0:=(z_c HB.out hx199_0).trans hx199_0;replace hx199_1:=(z_c HB.out hx199_1).trans hx199_1;replace hx199_2:=(z_c HB.out hx199_2).trans hx199_2;replace hx199_3:=(z_c HB.out hx199_3).trans hx199_3;replace hx199_4:=(z_c HB.out hx199_4).trans hx199_4;replace p199 := eq_true p199;replace q199 := eq_true q199;have p200 : 0 ≤ (x7_1 : Int):=z_9 (by first|(with_reducible assumption)|assumption);have q200 : x7_1 < (l0_0.length : Int):=z_9 (by first|(with_reducible assumption)|assumption);obtain ⟨ad200,e200,hx200_0,hx200_1,hx200_2,hx200_3,hx200_4⟩:=at_T41 HR0_0.out x7_1 p200 q200;obtain rfl : ad199 = ad200 := (by injection e200);replace hx200_0:=(z_c HB.out hx200_0).trans hx200_0;replace hx200_1:=(z_c HB.out hx200_1).trans hx200_1
       replace hx200_2:=(z_c HB.out hx200_2).trans hx200_2;replace hx200_3:=(z_c HB.out hx200_3).trans hx200_3;replace hx200_4:=(z_c HB.out hx200_4).trans hx200_4;replace p200 := eq_true p200;replace q200 := eq_true q200
       go_wp2
       go_roundg k1
       case measure => have := HK1.out; omega
       case rel => exact ⟨(wrap64 (x7_1 + 1)),(by first|rfl|(simp;done)|(simp [*];done)),H',⟨by have:=HK1.out;omega⟩,⟨by (with_reducible repeat (first|refine y_b ?_ _|refine y_c ?_|refine y_d ?_ _));exact BK198.out⟩,⟨zB⟩⟩
     ·rw [if_neg c7] at H;have c7b0 : (((rd_T41 l0_0 x7_1).f1) == a1) = false:=beq_eq_false_iff_ne.mpr c7;have c7b1 : (((rd_T41 l0_0 x7_1).f1) != a1) = true:=bne_iff_ne.mpr c7;have H' := z_a H;clear H;have hcz11_0 : wr.cell? ⟨gb198,0,none⟩ = some (.slice A0_0 l0_0.length c0_0):=(z_b BK198.out 0).trans rfl;have hcz11_1 : wr.cell? ⟨gb198,1,none⟩ = some (.int .i64 a0_1):=(z_b BK198.out 1).trans rfl;have hfz11_0 := z_4 BK198.out 0;have hfz11_1 := z_4 BK198.out 1;have p199 : 0 ≤ (x7_1 : Int):=z_9 (by first|(with_reducible assumption)|assumption);have q199 : x7_1 < (l0_0.length : Int):=z_9 (by first|(with_reducible assumption)|assumption);obtain ⟨ad199,e199,hx199_0,hx199_1,hx199_2,hx199_3,hx199_4⟩:=at_T41 HR0_0.out x7_1 p199 q199;cases e199;replace hx199_0:=(z_c HB.out hx199_0).trans hx199_0;replace hx199_1:=(z_c HB.out hx199_1).trans hx199_1;replace hx199_2:=(z_c HB.out hx199_2).trans hx199_2;replace hx199_3:=(z_c HB.out hx199_3).trans hx199_3;replace hx199_4:=(z_c HB.out hx199_4).trans hx199_4;replace p199 := eq_true p199;replace q199 := eq_true q199
      go_wp2
      go_roundg k1
      case measure => have := HK1.out; omega
      case rel => exact ⟨(wrap64 (x7_1 + 1)),(by first|rfl|(simp;done)|(simp [*];done)),H',⟨by have:=HK1.out;omega⟩,⟨by (with_reducible repeat (first|refine y_b ?_ _|refine y_c ?_|refine y_d ?_ _));exact BK198.out⟩,⟨zB⟩⟩
    ·rw [if_neg c6] at H;exact absurd H (by simp)
   ·rw [if_neg c5] at H;have c5b0 : decide (x7_1 < (l0_0.length : Int)) = false:=decide_eq_false c5;clear c5;obtain rfl := Option.some.inj H;have hcz12_0 : wr.cell? ⟨gb198,0,none⟩ = some (.slice A0_0 l0_0.length c0_0):=(z_b BK198.out 0).trans rfl;have hcz12_1 : wr.cell? ⟨gb198,1,none⟩ = some (.int .i64 a0_1):=(z_b BK198.out 1).trans rfl;have hfz12_0 := z_4 BK198.out 0;have hfz12_1 := z_4 BK198.out 1
    go_wp2
    go_ret
    exact ⟨by first|rfl|(simp [errW_none,errW_some] <;> rfl)|(simp [*,errW_none,errW_some] <;> rfl),zB⟩

end Go.Proofs.Ytlfnjkcgefcidaa.PFnPoolDrop
