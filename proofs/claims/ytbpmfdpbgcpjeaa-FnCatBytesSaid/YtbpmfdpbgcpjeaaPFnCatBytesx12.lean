-- Written by a program of this session over the print's form. Lean checks it.
import Derived.Test.YtbpmfdpbgcpjeaaPFnCatBytesx0
namespace Go.Proofs.Ytbpmfdpbgcpjeaa.PFnCatBytes
open Go.RowKit Go.Proofs.YtbpmfdpbgcpjeaaW.PrintWords Go.Proofs.YtbpmfdpbgcpjeaaW.PrintLast Go.Proofs.YtbpmfdpbgcpjeaaW.PrintMore
attribute [local go_sem] max2_int min2_int max_two min_two max_three min_three max_four min_four   -- for this text's walks alone
set_option linter.unusedVariables false
set_option linter.unusedSimpArgs false

/-! ### spec_l9At: function 48 -/
def spec_l9At.l0 : Nat → Int → ByteArray → Int → Int → List (S36) → Option (Int)
 | 0, _, _, _, _, _ => none
 | k + 1, x1, x2, x7, x174000, x174001 => if x7 < (x174001.length : Int) then (if 0 ≤ x7 then (if ((rd_T36 x174001 x7).f0) = x1 then (if ((rd_T36 x174001 x7).f1).toList = x2.toList then (some x7) else (spec_l9At.l0 k x1 x2 (wrap64 (x7 + 1)) x174000 x174001)) else (spec_l9At.l0 k x1 x2 (wrap64 (x7 + 1)) x174000 x174001)) else (none)) else (some (-1))
def spec_l9At.f (k : Nat) (a0_0 : Int) (l0_1 : List (S36)) (a1 : Int) (a2 : ByteArray) : Option (Int) := spec_l9At.l0 k a1 a2 0 a0_0 l0_1
theorem spec_l9At.mono_l : ∀ k, (∀ y0 y1 y2 y3 y4, LeO (spec_l9At.l0 k y0 y1 y2 y3 y4) (spec_l9At.l0 (k + 1) y0 y1 y2 y3 y4))
 | 0 => fun _ _ _ _ _ r h => by simp [spec_l9At.l0] at h
 | k + 1 => by
  have ih0 := spec_l9At.mono_l k
  ·intro y0 y1 y2 y3 y4
   unfold spec_l9At.l0
   repeat' first
   | (with_reducible exact ih0 _ _ _ _ _)
   | (with_reducible exact LeO.refl _)
   | (with_reducible exact LeO.none _)
   | (with_reducible refine LeO.ite ?_ ?_)
   | (with_reducible refine LeO.bind ?_ (fun _ => ?_))
   | exact ih0 _ _ _ _ _
   | exact LeO.none _
   | refine LeO.ite ?_ ?_
   | refine LeO.bind ?_ (fun _ => ?_)
theorem spec_l9At.mono : ∀ a0 a1 a2 a3 k, LeO (spec_l9At.f k a0 a1 a2 a3) (spec_l9At.f (k + 1) a0 a1 a2 a3) := by
 intro a0 a1 a2 a3 k;have ih0 := spec_l9At.mono_l k;unfold spec_l9At.f
 repeat' first
   | (with_reducible exact ih0 _ _ _ _ _)
   | (with_reducible exact LeO.refl _)
   | (with_reducible exact LeO.none _)
   | (with_reducible refine LeO.ite ?_ ?_)
   | (with_reducible refine LeO.bind ?_ (fun _ => ?_))
   | exact ih0 _ _ _ _ _
   | exact LeO.none _
   | refine LeO.ite ?_ ?_
   | refine LeO.bind ?_ (fun _ => ?_)
set_option maxHeartbeats 8000000 in
set_option maxRecDepth 100000 in
theorem spec_l9At.calls (k : Nat) (a0_0 : Int) (A0_1 : Option Addr) (c0_1 : Nat) (l0_1 : List (S36)) (a1 : Int) (a2 : ByteArray) (r : Int) (w : World) (hr0_1 : Kd.C k36 w A0_1 l0_1.length l0_1) (hc0_1 : l0_1.length ≤ c0_1) (h : spec_l9At.f k a0_0 l0_1 a1 a2 = some r) :
  Calls Try.prog 48 #[.agg #[.int .i64 a0_0, .slice A0_1 l0_1.length c0_1], .int .i64 a1, .string a2] w fun e w' => e = .returned (.int .i64 r) ∧ Below w.heap.size w w' := by
 have hu29 := Try.underlying29;have HR0_1 := z_a hr0_1;have HC0_1 := z_a hc0_1;clear hr0_1 hc0_1;have HB := z_a (Below.refl w.heap.size w);have H : (spec_l9At.l0 k a1 a2 0 a0_0 l0_1) = some r := h;clear h;have H' := z_a H;clear H
 go_enter Try.func48, Try.ntmps48
 go_wp2_with (first|((with_reducible refine gate_dst (N:=3) rfl ?_);refine box_event ?hg (N:=3) ?hd (cs:=#[.int .i64 a0_0,.slice A0_1 l0_1.length c0_1]) (t:=29) ?hr ?_;(case hd => rfl);(case hg => rfl);(case hr => first|(go_simp;done)|(go_simp;rfl));intro gb173 hg w4 hbox hb;have n0_:=z_a (z_f (by repeat (first|(with_reducible first|exact HB.out|apply y_h|apply y_i|apply y_j)|exact HB.out)) hb);have n1_:=z_a (hbox);have n2_:=z_a ((by rw [hg];exact (z_g (by repeat (first|(with_reducible first|exact HB.out|apply y_h|apply y_i|apply y_j)|exact HB.out))) : w.heap.size ≤ gb173));have n3_:=z_a ((by rw [hg];exact (z_g (by repeat (first|(with_reducible first|exact HB.out|apply y_h|apply y_i|apply y_j)|exact HB.out))) : w.heap.size ≤ gb173));clear HB;have HB:=n0_;have BK173:=n1_;have GW173:=n2_;have GE173:=n3_;clear n0_ n1_ n2_ n3_;clear hb hbox hg))
 go_loopg [7] k (fun kq v7 w' => ∃ (x7_1 : Int),v7 = .int .i64 x7_1 ∧ Aside0 (spec_l9At.l0 kq a1 a2 x7_1 a0_0 l0_1 = some r) ∧ Aside0 (kq ≤ k) ∧ Aside0 (w'.heap[gb173]? = some (.cells #[.int .i64 a0_0,(.slice A0_1 l0_1.length c0_1)] 29 (0,0))) ∧ Aside0 (Below w.heap.size w w'))
 case atStart => exact ⟨(0),(by first|rfl|(simp;done)|(simp [*];done)),H',⟨Nat.le_refl _⟩,⟨by (with_reducible repeat (first|refine y_b ?_ _|refine y_c ?_|refine y_d ?_ _));exact BK173.out⟩,⟨by repeat (first|(with_reducible first|exact HB.out|apply y_h|apply y_i|apply y_j|refine y_s ?_ GE173.out)|exact HB.out)⟩⟩
 case round =>
  clear H'
  try clear p2
  try clear c4
  obtain ⟨x7_1, rfl, HA, HK1, BK173, HB⟩ := hrel;cases gk with
  | zero => exact absurd HA.out (by simp [spec_l9At.l0])
  | succ k1 =>
   have H := HA.out;clear HA;simp only [spec_l9At.l0] at H
   by_cases c5 : x7_1 < (l0_1.length : Int)
   ·rw [if_pos c5] at H;have c5b0 : decide (x7_1 < (l0_1.length : Int)) = true:=z_e c5;clear c5
    by_cases c6 : 0 ≤ x7_1
    ·rw [if_pos c6] at H;have c6b0 : decide (0 ≤ x7_1) = true := z_e c6;clear c6
     by_cases c7 : ((rd_T36 l0_1 x7_1).f0) = a1
     ·rw [if_pos c7] at H;have c7b0 : (((rd_T36 l0_1 x7_1).f0) == a1) = true:=beq_iff_eq.mpr c7;have c7b1 : (((rd_T36 l0_1 x7_1).f0) != a1) = false:=bne_eq_false_iff_eq.mpr c7;clear c7
      by_cases c8 : ((rd_T36 l0_1 x7_1).f1).toList = a2.toList
      ·rw [if_pos c8] at H;have c8b0 : (((rd_T36 l0_1 x7_1).f1).toList == a2.toList) = true:=beq_iff_eq.mpr c8;have c8b1 : (((rd_T36 l0_1 x7_1).f1).toList != a2.toList) = false:=bne_eq_false_iff_eq.mpr c8;clear c8;obtain rfl := Option.some.inj H;have hcz9_0 : wr.cell? ⟨gb173,0,none⟩ = some (.int .i64 a0_0):=(z_b BK173.out 0).trans rfl;have hcz9_1 : wr.cell? ⟨gb173,1,none⟩ = some (.slice A0_1 l0_1.length c0_1):=(z_b BK173.out 1).trans rfl;have hfz9_0 := z_4 BK173.out 0;have hfz9_1 := z_4 BK173.out 1;have p174 : 0 ≤ (x7_1 : Int):=z_9 (by first|(with_reducible assumption)|assumption);have q174 : x7_1 < (l0_1.length : Int):=z_9 (by first|(with_reducible assumption)|assumption);obtain ⟨ad174,e174,hx174_0,hx174_1,hx174_2,hx174_3⟩:=at_T36 HR0_1.out x7_1 p174 q174;cases e174;replace hx174_0:=(z_c HB.out hx174_0).trans hx174_0;replace hx174_1:=(z_c HB.out hx174_1).trans hx174_1;replace hx174_2:=(z_c HB.out hx174_2).trans hx174_2;replace hx174_3:=(z_c HB.out hx174_3).trans hx174_3;replace p174 := eq_true p174;replace q174 := eq_true q174;have p175 : 0 ≤ (x7_1 : Int):=z_9 (by first|(with_reducible assumption)|assumption);have q175 : x7_1 < (l0_1.length : Int):=z_9 (by first|(with_reducible assumption)|assumption);obtain ⟨ad175,e175,hx175_0,hx175_1,hx175_2,hx175_3⟩:=at_T36 HR0_1.out x7_1 p175 q175;obtain rfl : ad174 = ad175 := (by injection e175);replace hx175_0:=(z_c HB.out hx175_0).trans hx175_0;replace hx175_1:=(z_c HB.out hx175_1).trans hx175_1
       replace hx175_2:=(z_c HB.out hx175_2).trans hx175_2;replace hx175_3:=(z_c HB.out hx175_3).trans hx175_3;replace p175 := eq_true p175;replace q175 := eq_true q175
       go_wp2
       go_ret
       exact ⟨by first|rfl|(simp [errW_none,errW_some] <;> rfl)|(simp [*,errW_none,errW_some] <;> rfl),by repeat (first|(with_reducible first|exact HB.out|apply y_h|apply y_i|apply y_j|refine y_s ?_ GE173.out)|exact HB.out)⟩
      ·rw [if_neg c8] at H;have c8b0 : (((rd_T36 l0_1 x7_1).f1).toList == a2.toList) = false:=beq_eq_false_iff_ne.mpr c8;have c8b1 : (((rd_T36 l0_1 x7_1).f1).toList != a2.toList) = true:=bne_iff_ne.mpr c8;have H' := z_a H;clear H;have hcz10_0 : wr.cell? ⟨gb173,0,none⟩ = some (.int .i64 a0_0):=(z_b BK173.out 0).trans rfl;have hcz10_1 : wr.cell? ⟨gb173,1,none⟩ = some (.slice A0_1 l0_1.length c0_1):=(z_b BK173.out 1).trans rfl;have hfz10_0 := z_4 BK173.out 0;have hfz10_1 := z_4 BK173.out 1;have p174 : 0 ≤ (x7_1 : Int):=z_9 (by first|(with_reducible assumption)|assumption);have q174 : x7_1 < (l0_1.length : Int):=z_9 (by first|(with_reducible assumption)|assumption);obtain ⟨ad174,e174,hx174_0,hx174_1,hx174_2,hx174_3⟩:=at_T36 HR0_1.out x7_1 p174 q174;cases e174;replace hx174_0:=(z_c HB.out hx174_0).trans hx174_0;replace hx174_1:=(z_c HB.out hx174_1).trans hx174_1;replace hx174_2:=(z_c HB.out hx174_2).trans hx174_2;replace hx174_3:=(z_c HB.out hx174_3).trans hx174_3;replace p174 := eq_true p174;replace q174 := eq_true q174;have p175 : 0 ≤ (x7_1 : Int):=z_9 (by first|(with_reducible assumption)|assumption);have q175 : x7_1 < (l0_1.length : Int):=z_9 (by first|(with_reducible assumption)|assumption);obtain ⟨ad175,e175,hx175_0,hx175_1,hx175_2,hx175_3⟩:=at_T36 HR0_1.out x7_1 p175 q175;obtain rfl : ad174 = ad175 := (by injection e175);replace hx175_0:=(z_c HB.out hx175_0).trans hx175_0;replace hx175_1:=(z_c HB.out hx175_1).trans hx175_1
       replace hx175_2:=(z_c HB.out hx175_2).trans hx175_2;replace hx175_3:=(z_c HB.out hx175_3).trans hx175_3;replace p175 := eq_true p175;replace q175 := eq_true q175
       go_wp2
       go_roundg k1
       case measure => have := HK1.out; omega
       case rel => exact ⟨(wrap64 (x7_1 + 1)),(by first|rfl|(simp;done)|(simp [*];done)),H',⟨by have:=HK1.out;omega⟩,⟨by (with_reducible repeat (first|refine y_b ?_ _|refine y_c ?_|refine y_d ?_ _));exact BK173.out⟩,⟨by repeat (first|(with_reducible first|exact HB.out|apply y_h|apply y_i|apply y_j|refine y_s ?_ GE173.out)|exact HB.out)⟩⟩
     ·rw [if_neg c7] at H;have c7b0 : (((rd_T36 l0_1 x7_1).f0) == a1) = false:=beq_eq_false_iff_ne.mpr c7;have c7b1 : (((rd_T36 l0_1 x7_1).f0) != a1) = true:=bne_iff_ne.mpr c7;have H' := z_a H;clear H;have hcz11_0 : wr.cell? ⟨gb173,0,none⟩ = some (.int .i64 a0_0):=(z_b BK173.out 0).trans rfl;have hcz11_1 : wr.cell? ⟨gb173,1,none⟩ = some (.slice A0_1 l0_1.length c0_1):=(z_b BK173.out 1).trans rfl;have hfz11_0 := z_4 BK173.out 0;have hfz11_1 := z_4 BK173.out 1;have p174 : 0 ≤ (x7_1 : Int):=z_9 (by first|(with_reducible assumption)|assumption);have q174 : x7_1 < (l0_1.length : Int):=z_9 (by first|(with_reducible assumption)|assumption);obtain ⟨ad174,e174,hx174_0,hx174_1,hx174_2,hx174_3⟩:=at_T36 HR0_1.out x7_1 p174 q174;cases e174;replace hx174_0:=(z_c HB.out hx174_0).trans hx174_0;replace hx174_1:=(z_c HB.out hx174_1).trans hx174_1;replace hx174_2:=(z_c HB.out hx174_2).trans hx174_2;replace hx174_3:=(z_c HB.out hx174_3).trans hx174_3;replace p174 := eq_true p174;replace q174 := eq_true q174
      go_wp2
      go_roundg k1
      case measure => have := HK1.out; omega
      case rel => exact ⟨(wrap64 (x7_1 + 1)),(by first|rfl|(simp;done)|(simp [*];done)),H',⟨by have:=HK1.out;omega⟩,⟨by (with_reducible repeat (first|refine y_b ?_ _|refine y_c ?_|refine y_d ?_ _));exact BK173.out⟩,⟨by repeat (first|(with_reducible first|exact HB.out|apply y_h|apply y_i|apply y_j|refine y_s ?_ GE173.out)|exact HB.out)⟩⟩
    ·rw [if_neg c6] at H;exact absurd H (by simp)
   ·rw [if_neg c5] at H;have c5b0 : decide (x7_1 < (l0_1.length : Int)) = false:=decide_eq_false c5;clear c5;obtain rfl := Option.some.inj H;have hcz12_0 : wr.cell? ⟨gb173,0,none⟩ = some (.int .i64 a0_0):=(z_b BK173.out 0).trans rfl;have hcz12_1 : wr.cell? ⟨gb173,1,none⟩ = some (.slice A0_1 l0_1.length c0_1):=(z_b BK173.out 1).trans rfl;have hfz12_0 := z_4 BK173.out 0;have hfz12_1 := z_4 BK173.out 1
    go_wp2
    go_ret
    exact ⟨by first|rfl|(simp [errW_none,errW_some] <;> rfl)|(simp [*,errW_none,errW_some] <;> rfl),by repeat (first|(with_reducible first|exact HB.out|apply y_h|apply y_i|apply y_j|refine y_s ?_ GE173.out)|exact HB.out)⟩

end Go.Proofs.Ytbpmfdpbgcpjeaa.PFnCatBytes
