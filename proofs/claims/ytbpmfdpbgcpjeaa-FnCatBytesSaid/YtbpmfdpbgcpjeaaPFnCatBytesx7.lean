-- Written by a program of this session over the print's form. Lean checks it.
import Derived.Test.YtbpmfdpbgcpjeaaPFnCatBytesx0
namespace Go.Proofs.Ytbpmfdpbgcpjeaa.PFnCatBytes
open Go.RowKit Go.Proofs.YtbpmfdpbgcpjeaaW.PrintWords Go.Proofs.YtbpmfdpbgcpjeaaW.PrintLast Go.Proofs.YtbpmfdpbgcpjeaaW.PrintMore
attribute [local go_sem] max2_int min2_int max_two min_two max_three min_three max_four min_four   -- for this text's walks alone
set_option linter.unusedVariables false
set_option linter.unusedSimpArgs false

/-! ### impl_Cat_bytes: function 45 -/
def impl_Cat_bytes.l0 : Nat → Int → Int → List (S36) → Int → Int → Option (Int)
 | 0, _, _, _, _, _ => none
 | k + 1, x1, x5, x9, x10, x11 => if x11 < x10 then (if 0 ≤ x11 then (if x11 < (x9.length : Int) then (if ((rd_T36 x9 x11).f0) = x1 then (impl_Cat_bytes.l0 k x1 (wrap64 (x5 + (((rd_T36 x9 x11).f3).size : Int))) x9 x10 (wrap64 (x11 + 1))) else (impl_Cat_bytes.l0 k x1 x5 x9 x10 (wrap64 (x11 + 1)))) else (none)) else (none)) else (some x5)
def impl_Cat_bytes.f (k : Nat) (a0_0 : Int) (l0_1 : List (S36)) (a1 : Int) : Option (Int) := impl_Cat_bytes.l0 k a1 0 l0_1 (l0_1.length : Int) 0
theorem impl_Cat_bytes.mono_l : ∀ k, (∀ y0 y1 y2 y3 y4, LeO (impl_Cat_bytes.l0 k y0 y1 y2 y3 y4) (impl_Cat_bytes.l0 (k + 1) y0 y1 y2 y3 y4))
 | 0 => fun _ _ _ _ _ r h => by simp [impl_Cat_bytes.l0] at h
 | k + 1 => by
  have ih0 := impl_Cat_bytes.mono_l k
  ·intro y0 y1 y2 y3 y4
   unfold impl_Cat_bytes.l0
   repeat' first
   | (with_reducible exact ih0 _ _ _ _ _)
   | (with_reducible exact LeO.refl _)
   | (with_reducible exact LeO.none _)
   | (with_reducible refine LeO.ite ?_ ?_)
   | (with_reducible refine LeO.bind ?_ (fun _ => ?_))
   | exact ih0 _ _ _ _ _
   | exact LeO.none _
   | refine LeO.ite ?_ ?_
   | refine LeO.bind ?_ (fun _ => ?_)
theorem impl_Cat_bytes.mono : ∀ a0 a1 a2 k, LeO (impl_Cat_bytes.f k a0 a1 a2) (impl_Cat_bytes.f (k + 1) a0 a1 a2) := by
 intro a0 a1 a2 k;have ih0 := impl_Cat_bytes.mono_l k;unfold impl_Cat_bytes.f
 repeat' first
   | (with_reducible exact ih0 _ _ _ _ _)
   | (with_reducible exact LeO.refl _)
   | (with_reducible exact LeO.none _)
   | (with_reducible refine LeO.ite ?_ ?_)
   | (with_reducible refine LeO.bind ?_ (fun _ => ?_))
   | exact ih0 _ _ _ _ _
   | exact LeO.none _
   | refine LeO.ite ?_ ?_
   | refine LeO.bind ?_ (fun _ => ?_)
set_option maxHeartbeats 8000000 in
set_option maxRecDepth 100000 in
theorem impl_Cat_bytes.calls (k : Nat) (a0_0 : Int) (A0_1 : Option Addr) (c0_1 : Nat) (l0_1 : List (S36)) (a1 : Int) (r : Int) (w : World) (hr0_1 : Kd.C k36 w A0_1 l0_1.length l0_1) (hc0_1 : l0_1.length ≤ c0_1) (h : impl_Cat_bytes.f k a0_0 l0_1 a1 = some r) :
  Calls Try.prog 45 #[.agg #[.int .i64 a0_0, .slice A0_1 l0_1.length c0_1], .int .i64 a1] w fun e w' => e = .returned (.int .i64 r) ∧ Below w.heap.size w w' := by
 have hu29 := Try.underlying29;have hu36 := Try.underlying36;have HR0_1 := z_a hr0_1;have HC0_1 := z_a hc0_1;clear hr0_1 hc0_1;have HB := z_a (Below.refl w.heap.size w);have H : (impl_Cat_bytes.l0 k a1 0 l0_1 (l0_1.length : Int) 0) = some r:=h;clear h;have H' := z_a H;clear H
 go_enter Try.func45, Try.ntmps45
 go_wp2_with (first|((with_reducible refine gate_dst (N:=2) rfl ?_);refine box_event ?hg (N:=2) ?hd (cs:=#[.int .i64 a0_0,.slice A0_1 l0_1.length c0_1]) (t:=29) ?hr ?_;(case hd => rfl);(case hg => rfl);(case hr => first|(go_simp;done)|(go_simp;rfl));intro gb137 hg w3 hbox hb;have n0_:=z_a (z_f (by repeat (first|(with_reducible first|exact HB.out|apply y_h|apply y_i|apply y_j)|exact HB.out)) hb);have n1_:=z_a (hbox);have n2_:=z_a ((by rw [hg];exact (z_g (by repeat (first|(with_reducible first|exact HB.out|apply y_h|apply y_i|apply y_j)|exact HB.out))) : w.heap.size ≤ gb137));have n3_:=z_a ((by rw [hg];exact (z_g (by repeat (first|(with_reducible first|exact HB.out|apply y_h|apply y_i|apply y_j)|exact HB.out))) : w.heap.size ≤ gb137));clear HB;have HB:=n0_;have BK137:=n1_;have GW137:=n2_;have GE137:=n3_;clear n0_ n1_ n2_ n3_;clear hb hbox hg;have hcz4_0 : w3.cell? ⟨gb137,0,none⟩ = some (.int .i64 a0_0):=(z_b BK137.out 0).trans rfl;have hcz4_1 : w3.cell? ⟨gb137,1,none⟩ = some (.slice A0_1 l0_1.length c0_1):=(z_b BK137.out 1).trans rfl;have hfz4_0:=z_4 BK137.out 0;have hfz4_1:=z_4 BK137.out 1))
 go_loopg [5,11] k (fun kq v5 v11 w' => ∃ (x5_1 : Int) (x11_1 : Int),v5 = .int .i64 x5_1 ∧ v11 = .int .i64 x11_1 ∧ Aside0 (impl_Cat_bytes.l0 kq a1 x5_1 l0_1 (l0_1.length : Int) x11_1 = some r) ∧ Aside0 (kq ≤ k) ∧ Aside0 (w'.heap[gb137]? = some (.cells #[.int .i64 a0_0,(.slice A0_1 l0_1.length c0_1)] 29 (0,0))) ∧ Aside0 (Below w.heap.size w w'))
 case atStart => exact ⟨(0),(0),(by first|rfl|(simp;done)|(simp [*];done)),(by first|rfl|(simp;done)|(simp [*];done)),H',⟨Nat.le_refl _⟩,⟨by (with_reducible repeat (first|refine y_b ?_ _|refine y_c ?_|refine y_d ?_ _));exact BK137.out⟩,⟨by repeat (first|(with_reducible first|exact HB.out|apply y_h|apply y_i|apply y_j|refine y_s ?_ GE137.out)|exact HB.out)⟩⟩
 case round =>
  clear H'
  try clear p2
  try clear c4
  try clear hcz4_0
  try clear hcz4_1
  try clear hfz4_0
  try clear hfz4_1
  obtain ⟨x5_1, x11_1, rfl, rfl, HA, HK1, BK137, HB⟩ := hrel;cases gk with
  | zero => exact absurd HA.out (by simp [impl_Cat_bytes.l0])
  | succ k1 =>
   have H := HA.out;clear HA;simp only [impl_Cat_bytes.l0] at H
   by_cases c5 : x11_1 < (l0_1.length : Int)
   ·rw [if_pos c5] at H;have c5b0 : decide (x11_1 < (l0_1.length : Int)) = true:=z_e c5;clear c5
    by_cases c6 : 0 ≤ x11_1
    ·rw [if_pos c6] at H;have c6b0 : decide (0 ≤ x11_1) = true := z_e c6;clear c6
     by_cases c7 : x11_1 < (l0_1.length : Int)
     ·rw [if_pos c7] at H;have c7b0 : decide (x11_1 < (l0_1.length : Int)) = true:=z_e c7;clear c7
      by_cases c8 : ((rd_T36 l0_1 x11_1).f0) = a1
      ·rw [if_pos c8] at H;have c8b0 : (((rd_T36 l0_1 x11_1).f0) == a1) = true:=beq_iff_eq.mpr c8;have c8b1 : (((rd_T36 l0_1 x11_1).f0) != a1) = false:=bne_eq_false_iff_eq.mpr c8;clear c8;have H' := z_a H;clear H;have p138 : 0 ≤ (x11_1 : Int):=z_9 (by first|(with_reducible assumption)|assumption);have q138 : x11_1 < (l0_1.length : Int):=z_9 (by first|(with_reducible assumption)|assumption);obtain ⟨ad138,e138,hx138_0,hx138_1,hx138_2,hx138_3⟩:=at_T36 HR0_1.out x11_1 p138 q138;cases e138;replace hx138_0:=(z_c HB.out hx138_0).trans hx138_0;replace hx138_1:=(z_c HB.out hx138_1).trans hx138_1;replace hx138_2:=(z_c HB.out hx138_2).trans hx138_2;replace hx138_3:=(z_c HB.out hx138_3).trans hx138_3;replace p138 := eq_true p138;replace q138 := eq_true q138
       go_wp2_with (first|((with_reducible refine gate_dst (N:=7) rfl ?_);refine box_event ?hg (N:=7) ?hd (cs:=#[.int .i64 0,.string (⟨#[]⟩ : ByteArray),.int .i64 0,.string (⟨#[]⟩ : ByteArray)]) (t:=36) ?hr ?_;(case hd => rfl);(case hg => rfl);(case hr => first|(go_simp;done)|(go_simp;rfl));intro gb139 hg w9 hbox hb;have n0_:=z_a (z_d (g:=gb137) (o:=.cells #[.int .i64 a0_0,.slice (some ad138) l0_1.length c0_1] 29 (0,0)) (by (with_reducible repeat (first|refine y_b ?_ _|refine y_c ?_|refine y_d ?_ _));exact BK137.out) hb);have n1_:=z_a (z_f (by repeat (first|(with_reducible first|exact HB.out|apply y_h|apply y_i|apply y_j|refine y_s ?_ GE137.out)|exact HB.out)) hb);have n2_:=z_a (hbox);have n3_:=z_a ((by rw [hg];exact (z_g (by repeat (first|(with_reducible first|exact HB.out|apply y_h|apply y_i|apply y_j|refine y_s ?_ GE137.out)|exact HB.out))) : w.heap.size ≤ gb139));have n4_:=z_a ((by rw [hg];exact (z_g (by repeat (first|(with_reducible first|exact HB.out|apply y_h|apply y_i|apply y_j|refine y_s ?_ GE137.out)|exact HB.out))) : w.heap.size ≤ gb139));have n5_:=z_a ((by rw [hg];exact Nat.ne_of_lt (blk_lt (g:=gb137) (o:=.cells #[.int .i64 a0_0,.slice (some ad138) l0_1.length c0_1] 29 (0,0)) (by (with_reducible repeat (first|refine y_b ?_ _|refine y_c ?_|refine y_d ?_ _));exact BK137.out)) : gb137 ≠ gb139));have n6_:=z_a ((by rw [hg];exact Nat.ne_of_gt (blk_lt (g:=gb137) (o:=.cells #[.int .i64 a0_0,.slice (some ad138) l0_1.length c0_1] 29 (0,0)) (by (with_reducible repeat (first|refine y_b ?_ _|refine y_c ?_|refine y_d ?_ _));exact BK137.out)) : gb139 ≠ gb137));clear BK137 HB;have BK137:=n0_;have HB:=n1_;have BK139:=n2_;have GW139:=n3_;have GE139:=n4_;have NB137_139:=n5_;have NB139_137:=n6_;clear n0_ n1_ n2_ n3_ n4_ n5_ n6_;clear hb hbox hg;have hnb10:=NB139_137.out;have hnc10:=NB137_139.out;have hcz11_0 : w9.cell? ⟨gb139,0,none⟩ = some (.int .i64 0):=(z_b BK139.out 0).trans rfl;have hcz11_1 : w9.cell? ⟨gb139,1,none⟩ = some (.string (⟨#[]⟩ : ByteArray)):=(z_b BK139.out 1).trans rfl;have hcz11_2 : w9.cell? ⟨gb139,2,none⟩ = some (.int .i64 0):=(z_b BK139.out 2).trans rfl;have hcz11_3 : w9.cell? ⟨gb139,3,none⟩ = some (.string (⟨#[]⟩ : ByteArray)):=(z_b BK139.out 3).trans rfl;have hfz11_0:=z_4 BK139.out 0;have hfz11_1:=z_4 BK139.out 1;have hfz11_2:=z_4 BK139.out 2;have hfz11_3:=z_4 BK139.out 3))
       go_roundg k1
       case measure => have := HK1.out; omega
       case rel => exact ⟨(wrap64 (x5_1 + (((rd_T36 l0_1 x11_1).f3).size : Int))),(wrap64 (x11_1 + 1)),(by first|rfl|(simp;done)|(simp [*];done)),(by first|rfl|(simp;done)|(simp [*];done)),H',⟨by have:=HK1.out;omega⟩,⟨by (with_reducible repeat (first|refine y_b ?_ _|refine y_c ?_|refine y_d ?_ _));refine blk_far ?_ NB137_139.out _;(with_reducible repeat (first|refine y_b ?_ _|refine y_c ?_|refine y_d ?_ _));refine blk_far ?_ NB137_139.out _;(with_reducible repeat (first|refine y_b ?_ _|refine y_c ?_|refine y_d ?_ _));refine blk_far ?_ NB137_139.out _;(with_reducible repeat (first|refine y_b ?_ _|refine y_c ?_|refine y_d ?_ _));refine blk_far ?_ NB137_139.out _;(with_reducible repeat (first|refine y_b ?_ _|refine y_c ?_|refine y_d ?_ _));exact BK137.out⟩,⟨by repeat (first|(with_reducible first|exact HB.out|apply y_h|apply y_i|apply y_j|refine y_s ?_ GE137.out|refine y_s ?_ GE139.out)|exact HB.out)⟩⟩
      ·rw [if_neg c8] at H;have c8b0 : (((rd_T36 l0_1 x11_1).f0) == a1) = false:=beq_eq_false_iff_ne.mpr c8;have c8b1 : (((rd_T36 l0_1 x11_1).f0) != a1) = true:=bne_iff_ne.mpr c8;have H' := z_a H;clear H;have p138 : 0 ≤ (x11_1 : Int):=z_9 (by first|(with_reducible assumption)|assumption);have q138 : x11_1 < (l0_1.length : Int):=z_9 (by first|(with_reducible assumption)|assumption);obtain ⟨ad138,e138,hx138_0,hx138_1,hx138_2,hx138_3⟩:=at_T36 HR0_1.out x11_1 p138 q138;cases e138;replace hx138_0:=(z_c HB.out hx138_0).trans hx138_0;replace hx138_1:=(z_c HB.out hx138_1).trans hx138_1;replace hx138_2:=(z_c HB.out hx138_2).trans hx138_2;replace hx138_3:=(z_c HB.out hx138_3).trans hx138_3;replace p138 := eq_true p138;replace q138 := eq_true q138
       go_wp2_with (first|((with_reducible refine gate_dst (N:=7) rfl ?_);refine box_event ?hg (N:=7) ?hd (cs:=#[.int .i64 0,.string (⟨#[]⟩ : ByteArray),.int .i64 0,.string (⟨#[]⟩ : ByteArray)]) (t:=36) ?hr ?_;(case hd => rfl);(case hg => rfl);(case hr => first|(go_simp;done)|(go_simp;rfl));intro gb139 hg w12 hbox hb;have n0_:=z_a (z_d (g:=gb137) (o:=.cells #[.int .i64 a0_0,.slice (some ad138) l0_1.length c0_1] 29 (0,0)) (by (with_reducible repeat (first|refine y_b ?_ _|refine y_c ?_|refine y_d ?_ _));exact BK137.out) hb);have n1_:=z_a (z_f (by repeat (first|(with_reducible first|exact HB.out|apply y_h|apply y_i|apply y_j|refine y_s ?_ GE137.out)|exact HB.out)) hb);have n2_:=z_a (hbox);have n3_:=z_a ((by rw [hg];exact (z_g (by repeat (first|(with_reducible first|exact HB.out|apply y_h|apply y_i|apply y_j|refine y_s ?_ GE137.out)|exact HB.out))) : w.heap.size ≤ gb139));have n4_:=z_a ((by rw [hg];exact (z_g (by repeat (first|(with_reducible first|exact HB.out|apply y_h|apply y_i|apply y_j|refine y_s ?_ GE137.out)|exact HB.out))) : w.heap.size ≤ gb139));have n5_:=z_a ((by rw [hg];exact Nat.ne_of_lt (blk_lt (g:=gb137) (o:=.cells #[.int .i64 a0_0,.slice (some ad138) l0_1.length c0_1] 29 (0,0)) (by (with_reducible repeat (first|refine y_b ?_ _|refine y_c ?_|refine y_d ?_ _));exact BK137.out)) : gb137 ≠ gb139));have n6_:=z_a ((by rw [hg];exact Nat.ne_of_gt (blk_lt (g:=gb137) (o:=.cells #[.int .i64 a0_0,.slice (some ad138) l0_1.length c0_1] 29 (0,0)) (by (with_reducible repeat (first|refine y_b ?_ _|refine y_c ?_|refine y_d ?_ _));exact BK137.out)) : gb139 ≠ gb137));clear BK137 HB;have BK137:=n0_;have HB:=n1_;have BK139:=n2_;have GW139:=n3_;have GE139:=n4_;have NB137_139:=n5_;have NB139_137:=n6_;clear n0_ n1_ n2_ n3_ n4_ n5_ n6_;clear hb hbox hg;have hnb13:=NB139_137.out;have hnc13:=NB137_139.out;have hcz14_0 : w12.cell? ⟨gb139,0,none⟩ = some (.int .i64 0):=(z_b BK139.out 0).trans rfl;have hcz14_1 : w12.cell? ⟨gb139,1,none⟩ = some (.string (⟨#[]⟩ : ByteArray)):=(z_b BK139.out 1).trans rfl;have hcz14_2 : w12.cell? ⟨gb139,2,none⟩ = some (.int .i64 0):=(z_b BK139.out 2).trans rfl;have hcz14_3 : w12.cell? ⟨gb139,3,none⟩ = some (.string (⟨#[]⟩ : ByteArray)):=(z_b BK139.out 3).trans rfl;have hfz14_0:=z_4 BK139.out 0;have hfz14_1:=z_4 BK139.out 1;have hfz14_2:=z_4 BK139.out 2;have hfz14_3:=z_4 BK139.out 3))
       go_roundg k1
       case measure => have := HK1.out; omega
       case rel => exact ⟨(x5_1),(wrap64 (x11_1 + 1)),(by first|rfl|(simp;done)|(simp [*];done)),(by first|rfl|(simp;done)|(simp [*];done)),H',⟨by have:=HK1.out;omega⟩,⟨by (with_reducible repeat (first|refine y_b ?_ _|refine y_c ?_|refine y_d ?_ _));refine blk_far ?_ NB137_139.out _;(with_reducible repeat (first|refine y_b ?_ _|refine y_c ?_|refine y_d ?_ _));refine blk_far ?_ NB137_139.out _;(with_reducible repeat (first|refine y_b ?_ _|refine y_c ?_|refine y_d ?_ _));refine blk_far ?_ NB137_139.out _;(with_reducible repeat (first|refine y_b ?_ _|refine y_c ?_|refine y_d ?_ _));refine blk_far ?_ NB137_139.out _;(with_reducible repeat (first|refine y_b ?_ _|refine y_c ?_|refine y_d ?_ _));exact BK137.out⟩,⟨by repeat (first|(with_reducible first|exact HB.out|apply y_h|apply y_i|apply y_j|refine y_s ?_ GE137.out|refine y_s ?_ GE139.out)|exact HB.out)⟩⟩
     ·rw [if_neg c7] at H;exact absurd H (by simp)
    ·rw [if_neg c6] at H;exact absurd H (by simp)
   ·rw [if_neg c5] at H;have c5b0 : decide (x11_1 < (l0_1.length : Int)) = false:=decide_eq_false c5;clear c5;obtain rfl := Option.some.inj H
    go_wp2
    go_ret
    exact ⟨by first|rfl|(simp [errW_none,errW_some] <;> rfl)|(simp [*,errW_none,errW_some] <;> rfl),by repeat (first|(with_reducible first|exact HB.out|apply y_h|apply y_i|apply y_j|refine y_s ?_ GE137.out)|exact HB.out)⟩

end Go.Proofs.Ytbpmfdpbgcpjeaa.PFnCatBytes
