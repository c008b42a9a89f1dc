-- Written by a program of this session over the print's form. Lean checks it.
import Derived.Test.YtlfnjkcgefcidaaPFnPoolDropx0
namespace Go.Proofs.Ytlfnjkcgefcidaa.PFnPoolDrop
open Go.RowKit Go.Proofs.YtlfnjkcgefcidaaW.PrintWords Go.Proofs.YtlfnjkcgefcidaaW.PrintLast Go.Proofs.YtlfnjkcgefcidaaW.PrintMore
attribute [local go_sem] max2_int min2_int max_two min_two max_three min_three max_four min_four   -- for this text's walks alone
set_option linter.unusedVariables false
set_option linter.unusedSimpArgs false

/-! ### spec_l10Of: function 43 -/
def spec_l10Of.l0 : Nat → Int → Int → Int → List (S41) → Int → Option (Int)
 | 0, _, _, _, _, _ => none
 | k + 1, x1, x5, x6, x107000, x107001 => if x6 < (x107000.length : Int) then (if 0 ≤ x6 then (if ((rd_T41 x107000 x6).f1) > 0 then (if ((rd_T41 x107000 x6).f0) = x1 then (spec_l10Of.l0 k x1 (wrap64 (x5 + 1)) (wrap64 (x6 + 1)) x107000 x107001) else (spec_l10Of.l0 k x1 x5 (wrap64 (x6 + 1)) x107000 x107001)) else (spec_l10Of.l0 k x1 x5 (wrap64 (x6 + 1)) x107000 x107001)) else (none)) else (some x5)
def spec_l10Of.f (k : Nat) (l0_0 : List (S41)) (a0_1 : Int) (a1 : Int) : Option (Int) := spec_l10Of.l0 k a1 0 0 l0_0 a0_1
theorem spec_l10Of.mono_l : ∀ k, (∀ y0 y1 y2 y3 y4, LeO (spec_l10Of.l0 k y0 y1 y2 y3 y4) (spec_l10Of.l0 (k + 1) y0 y1 y2 y3 y4))
 | 0 => fun _ _ _ _ _ r h => by simp [spec_l10Of.l0] at h
 | k + 1 => by
  have ih0 := spec_l10Of.mono_l k
  ·intro y0 y1 y2 y3 y4
   unfold spec_l10Of.l0
   repeat' first
   | (with_reducible exact ih0 _ _ _ _ _)
   | (with_reducible exact LeO.refl _)
   | (with_reducible exact LeO.none _)
   | (with_reducible refine LeO.ite ?_ ?_)
   | (with_reducible refine LeO.bind ?_ (fun _ => ?_))
   | exact ih0 _ _ _ _ _
   | exact LeO.none _
   | refine LeO.ite ?_ ?_
   | refine LeO.bind ?_ (fun _ => ?_)
theorem spec_l10Of.mono : ∀ a0 a1 a2 k, LeO (spec_l10Of.f k a0 a1 a2) (spec_l10Of.f (k + 1) a0 a1 a2) := by
 intro a0 a1 a2 k;have ih0 := spec_l10Of.mono_l k;unfold spec_l10Of.f
 repeat' first
   | (with_reducible exact ih0 _ _ _ _ _)
   | (with_reducible exact LeO.refl _)
   | (with_reducible exact LeO.none _)
   | (with_reducible refine LeO.ite ?_ ?_)
   | (with_reducible refine LeO.bind ?_ (fun _ => ?_))
   | exact ih0 _ _ _ _ _
   | exact LeO.none _
   | refine LeO.ite ?_ ?_
   | refine LeO.bind ?_ (fun _ => ?_)
set_option maxHeartbeats 8000000 in
set_option maxRecDepth 100000 in
theorem spec_l10Of.calls (k : Nat) (A0_0 : Option Addr) (c0_0 : Nat) (l0_0 : List (S41)) (a0_1 : Int) (a1 : Int) (r : Int) (w : World) (hr0_0 : Kd.C k41 w A0_0 l0_0.length l0_0) (hc0_0 : l0_0.length ≤ c0_0) (h : spec_l10Of.f k l0_0 a0_1 a1 = some r) :
  Calls Try.prog 43 #[.agg #[.slice A0_0 l0_0.length c0_0, .int .i64 a0_1], .int .i64 a1] w fun e w' => e = .returned (.int .i64 r) ∧ Below w.heap.size w w' := by
 have hu29 := Try.underlying29;have HR0_0 := z_a hr0_0;have HC0_0 := z_a hc0_0;clear hr0_0 hc0_0;have HB := z_a (Below.refl w.heap.size w);have H : (spec_l10Of.l0 k a1 0 0 l0_0 a0_1) = some r := h;clear h;have H' := z_a H;clear H
 go_enter Try.func43, Try.ntmps43
 go_wp2_with (first|((with_reducible refine gate_dst (N:=2) rfl ?_);refine box_event ?hg (N:=2) ?hd (cs:=#[.slice A0_0 l0_0.length c0_0,.int .i64 a0_1]) (t:=29) ?hr ?_;(case hd => rfl);(case hg => rfl);(case hr => first|(go_simp;done)|(go_simp;rfl));intro gb106 hg w3 hbox hb;have n0_:=z_a (z_f zB hb);have n1_:=z_a (hbox);have n2_:=z_a ((by rw [hg];exact (z_g zB) : w.heap.size ≤ gb106));have n3_:=z_a ((by rw [hg];exact (z_g zB) : w.heap.size ≤ gb106));clear HB;have HB:=n0_;have BK106:=n1_;have GW106:=n2_;have GE106:=n3_;clear n0_ n1_ n2_ n3_;clear hb hbox hg))
 go_loopg [5,6] k (fun kq v5 v6 w' => ∃ (x5_1 : Int) (x6_1 : Int),v5 = .int .i64 x5_1 ∧ v6 = .int .i64 x6_1 ∧ Aside0 (spec_l10Of.l0 kq a1 x5_1 x6_1 l0_0 a0_1 = some r) ∧ Aside0 (kq ≤ k) ∧ Aside0 (w'.heap[gb106]? = some (.cells #[(.slice A0_0 l0_0.length c0_0),.int .i64 a0_1] 29 (0,0))) ∧ Aside0 (Below w.heap.size w w'))
 case atStart => exact ⟨(0),(0),(by first|rfl|(simp;done)|(simp [*];done)),(by first|rfl|(simp;done)|(simp [*];done)),H',⟨Nat.le_refl _⟩,⟨by (with_reducible repeat (first|refine y_b ?_ _|refine y_c ?_|refine y_d ?_ _));exact BK106.out⟩,⟨zB⟩⟩
 case round =>
  clear H'
  try clear p2
  obtain ⟨x5_1, x6_1, rfl, rfl, HA, HK1, BK106, HB⟩ := hrel;cases gk with
  | zero => exact absurd HA.out (by simp [spec_l10Of.l0])
  | succ k1 =>
   have H := HA.out;clear HA;simp only [spec_l10Of.l0] at H
   by_cases c4 : x6_1 < (l0_0.length : Int)
   ·rw [if_pos c4] at H;have c4b0 : decide (x6_1 < (l0_0.length : Int)) = true:=z_e c4;clear c4
    by_cases c5 : 0 ≤ x6_1
    ·rw [if_pos c5] at H;have c5b0 : decide (0 ≤ x6_1) = true := z_e c5;clear c5
     by_cases c6 : ((rd_T41 l0_0 x6_1).f1) > 0
     ·rw [if_pos c6] at H;have c6b0 : decide (0 < ((rd_T41 l0_0 x6_1).f1)) = true:=z_e c6;clear c6
      by_cases c7 : ((rd_T41 l0_0 x6_1).f0) = a1
      ·rw [if_pos c7] at H;have c7b0 : (((rd_T41 l0_0 x6_1).f0) == a1) = true:=beq_iff_eq.mpr c7;have c7b1 : (((rd_T41 l0_0 x6_1).f0) != a1) = false:=bne_eq_false_iff_eq.mpr c7;clear c7;have H' := z_a H;clear H;have hcz8_0 : wr.cell? ⟨gb106,0,none⟩ = some (.slice A0_0 l0_0.length c0_0):=(z_b BK106.out 0).trans rfl;have hcz8_1 : wr.cell? ⟨gb106,1,none⟩ = some (.int .i64 a0_1):=(z_b BK106.out 1).trans rfl;have hfz8_0 := z_4 BK106.out 0;have hfz8_1 := z_4 BK106.out 1;have p107 : 0 ≤ (x6_1 : Int):=z_9 (by first|(with_reducible assumption)|assumption);have q107 : x6_1 < (l0_0.length : Int):=z_9 (by first|(with_reducible assumption)|assumption);obtain ⟨ad107,e107,hx107_0,hx107_1,hx107_2,hx107_3,hx107_4⟩:=at_T41 HR0_0.out x6_1 p107 q107;cases e107;replace hx107_0:=(z_c HB.out hx107_0).trans hx107_0;replace hx107_1:=(z_c HB.out hx107_1).trans hx107_1;replace hx107_2:=(z_c HB.out hx107_2).trans hx107_2;replace hx107_3:=(z_c HB.out hx107_3).trans hx107_3;replace hx107_4:=(z_c HB.out hx107_4).trans hx107_4;replace p107 := eq_true p107;replace q107 := eq_true q107;have p108 : 0 ≤ (x6_1 : Int):=z_9 (by first|(with_reducible assumption)|assumption);have q108 : x6_1 < (l0_0.length : Int):=z_9 (by first|(with_reducible assumption)|assumption);obtain ⟨ad108,e108,hx108_0,hx108_1,hx108_2,hx108_3,hx108_4⟩:=at_T41 HR0_0.out x6_1 p108 q108;obtain rfl : ad107 = ad108 := (by injection e108);replace hx108_0:=(z_c HB.out hx108_0).trans hx108_0;replace hx108_1:=(z_c HB.out hx108_1).trans hx108_1
       replace hx108_2:=(z_c HB.out hx108_2).trans hx108_2;replace hx108_3:=(z_c HB.out hx108_3).trans hx108_3;replace hx108_4:=(z_c HB.out hx108_4).trans hx108_4;replace p108 := eq_true p108;replace q108 := eq_true q108
       go_wp2
       go_roundg k1
       case measure => have := HK1.out; omega
       case rel => exact ⟨(wrap64 (x5_1 + 1)),(wrap64 (x6_1 + 1)),(by first|rfl|(simp;done)|(simp [*];done)),(by first|rfl|(simp;done)|(simp [*];done)),H',⟨by have:=HK1.out;omega⟩,⟨by (with_reducible repeat (first|refine y_b ?_ _|refine y_c ?_|refine y_d ?_ _));exact BK106.out⟩,⟨zB⟩⟩
      ·rw [if_neg c7] at H;have c7b0 : (((rd_T41 l0_0 x6_1).f0) == a1) = false:=beq_eq_false_iff_ne.mpr c7;have c7b1 : (((rd_T41 l0_0 x6_1).f0) != a1) = true:=bne_iff_ne.mpr c7;have H' := z_a H;clear H;have hcz9_0 : wr.cell? ⟨gb106,0,none⟩ = some (.slice A0_0 l0_0.length c0_0):=(z_b BK106.out 0).trans rfl;have hcz9_1 : wr.cell? ⟨gb106,1,none⟩ = some (.int .i64 a0_1):=(z_b BK106.out 1).trans rfl;have hfz9_0 := z_4 BK106.out 0;have hfz9_1 := z_4 BK106.out 1;have p107 : 0 ≤ (x6_1 : Int):=z_9 (by first|(with_reducible assumption)|assumption);have q107 : x6_1 < (l0_0.length : Int):=z_9 (by first|(with_reducible assumption)|assumption);obtain ⟨ad107,e107,hx107_0,hx107_1,hx107_2,hx107_3,hx107_4⟩:=at_T41 HR0_0.out x6_1 p107 q107;cases e107;replace hx107_0:=(z_c HB.out hx107_0).trans hx107_0;replace hx107_1:=(z_c HB.out hx107_1).trans hx107_1;replace hx107_2:=(z_c HB.out hx107_2).trans hx107_2;replace hx107_3:=(z_c HB.out hx107_3).trans hx107_3;replace hx107_4:=(z_c HB.out hx107_4).trans hx107_4;replace p107 := eq_true p107;replace q107 := eq_true q107;have p108 : 0 ≤ (x6_1 : Int):=z_9 (by first|(with_reducible assumption)|assumption);have q108 : x6_1 < (l0_0.length : Int):=z_9 (by first|(with_reducible assumption)|assumption);obtain ⟨ad108,e108,hx108_0,hx108_1,hx108_2,hx108_3,hx108_4⟩:=at_T41 HR0_0.out x6_1 p108 q108;obtain rfl : ad107 = ad108 := (by injection e108);replace hx108_0:=(z_c HB.out hx108_0).trans hx108_0;replace hx108_1:=(z_c HB.out hx108_1).trans hx108_1
       replace hx108_2:=(z_c HB.out hx108_2).trans hx108_2;replace hx108_3:=(z_c HB.out hx108_3).trans hx108_3;replace hx108_4:=(z_c HB.out hx108_4).trans hx108_4;replace p108 := eq_true p108;replace q108 := eq_true q108
       go_wp2
       go_roundg k1
       case measure => have := HK1.out; omega
       case rel => exact ⟨(x5_1),(wrap64 (x6_1 + 1)),(by first|rfl|(simp;done)|(simp [*];done)),(by first|rfl|(simp;done)|(simp [*];done)),H',⟨by have:=HK1.out;omega⟩,⟨by (with_reducible repeat (first|refine y_b ?_ _|refine y_c ?_|refine y_d ?_ _));exact BK106.out⟩,⟨zB⟩⟩
     ·rw [if_neg c6] at H;have c6b0 : decide (0 < ((rd_T41 l0_0 x6_1).f1)) = false:=decide_eq_false c6;clear c6;have H' := z_a H;clear H;have hcz10_0 : wr.cell? ⟨gb106,0,none⟩ = some (.slice A0_0 l0_0.length c0_0):=(z_b BK106.out 0).trans rfl;have hcz10_1 : wr.cell? ⟨gb106,1,none⟩ = some (.int .i64 a0_1):=(z_b BK106.out 1).trans rfl;have hfz10_0 := z_4 BK106.out 0;have hfz10_1 := z_4 BK106.out 1;have p107 : 0 ≤ (x6_1 : Int):=z_9 (by first|(with_reducible assumption)|assumption);have q107 : x6_1 < (l0_0.length : Int):=z_9 (by first|(with_reducible assumption)|assumption);obtain ⟨ad107,e107,hx107_0,hx107_1,hx107_2,hx107_3,hx107_4⟩:=at_T41 HR0_0.out x6_1 p107 q107;cases e107;replace hx107_0:=(z_c HB.out hx107_0).trans hx107_0;replace hx107_1:=(z_c HB.out hx107_1).trans hx107_1;replace hx107_2:=(z_c HB.out hx107_2).trans hx107_2;replace hx107_3:=(z_c HB.out hx107_3).trans hx107_3;replace hx107_4:=(z_c HB.out hx107_4).trans hx107_4;replace p107 := eq_true p107;replace q107 := eq_true q107
      go_wp2
      go_roundg k1
      case measure => have := HK1.out; omega
      case rel => exact ⟨(x5_1),(wrap64 (x6_1 + 1)),(by first|rfl|(simp;done)|(simp [*];done)),(by first|rfl|(simp;done)|(simp [*];done)),H',⟨by have:=HK1.out;omega⟩,⟨by (with_reducible repeat (first|refine y_b ?_ _|refine y_c ?_|refine y_d ?_ _));exact BK106.out⟩,⟨zB⟩⟩
    ·rw [if_neg c5] at H;exact absurd H (by simp)
   ·rw [if_neg c4] at H;have c4b0 : decide (x6_1 < (l0_0.length : Int)) = false:=decide_eq_false c4;clear c4;obtain rfl := Option.some.inj H;have hcz11_0 : wr.cell? ⟨gb106,0,none⟩ = some (.slice A0_0 l0_0.length c0_0):=(z_b BK106.out 0).trans rfl;have hcz11_1 : wr.cell? ⟨gb106,1,none⟩ = some (.int .i64 a0_1):=(z_b BK106.out 1).trans rfl;have hfz11_0 := z_4 BK106.out 0;have hfz11_1 := z_4 BK106.out 1
    go_wp2
    go_ret
    exact ⟨by first|rfl|(simp [errW_none,errW_some] <;> rfl)|(simp [*,errW_none,errW_some] <;> rfl),zB⟩

end Go.Proofs.Ytlfnjkcgefcidaa.PFnPoolDrop
