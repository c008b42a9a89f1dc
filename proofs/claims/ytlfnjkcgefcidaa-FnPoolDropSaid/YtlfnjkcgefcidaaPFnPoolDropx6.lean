-- Written by a program of this session over the print's form. Lean checks it.
import Derived.Test.YtlfnjkcgefcidaaPFnPoolDropx0
namespace Go.Proofs.Ytlfnjkcgefcidaa.PFnPoolDrop
open Go.RowKit Go.Proofs.YtlfnjkcgefcidaaW.PrintWords Go.Proofs.YtlfnjkcgefcidaaW.PrintLast Go.Proofs.YtlfnjkcgefcidaaW.PrintMore
attribute [local go_sem] max2_int min2_int max_two min_two max_three min_three max_four min_four   -- for this text's walks alone
set_option linter.unusedVariables false
set_option linter.unusedSimpArgs false

/-! ### impl_Pool_of: function 48 -/
def impl_Pool_of.l0 : Nat → Int → Int → List (S41) → Int → Int → Option (Int)
 | 0, _, _, _, _, _ => none
 | k + 1, x1, x5, x9, x10, x11 => if x11 < x10 then (if 0 ≤ x11 then (if x11 < (x9.length : Int) then (if ((rd_T41 x9 x11).f1) > 0 then (if ((rd_T41 x9 x11).f0) = x1 then (impl_Pool_of.l0 k x1 (wrap64 (x5 + 1)) x9 x10 (wrap64 (x11 + 1))) else (impl_Pool_of.l0 k x1 x5 x9 x10 (wrap64 (x11 + 1)))) else (impl_Pool_of.l0 k x1 x5 x9 x10 (wrap64 (x11 + 1)))) else (none)) else (none)) else (some x5)
def impl_Pool_of.f (k : Nat) (l0_0 : List (S41)) (a0_1 : Int) (a1 : Int) : Option (Int) := impl_Pool_of.l0 k a1 0 l0_0 (l0_0.length : Int) 0
theorem impl_Pool_of.mono_l : ∀ k, (∀ y0 y1 y2 y3 y4, LeO (impl_Pool_of.l0 k y0 y1 y2 y3 y4) (impl_Pool_of.l0 (k + 1) y0 y1 y2 y3 y4))
 | 0 => fun _ _ _ _ _ r h => by simp [impl_Pool_of.l0] at h
 | k + 1 => by
  have ih0 := impl_Pool_of.mono_l k
  ·intro y0 y1 y2 y3 y4
   unfold impl_Pool_of.l0
   repeat' first
   | (with_reducible exact ih0 _ _ _ _ _)
   | (with_reducible exact LeO.refl _)
   | (with_reducible exact LeO.none _)
   | (with_reducible refine LeO.ite ?_ ?_)
   | (with_reducible refine LeO.bind ?_ (fun _ => ?_))
   | exact ih0 _ _ _ _ _
   | exact LeO.none _
   | refine LeO.ite ?_ ?_
   | refine LeO.bind ?_ (fun _ => ?_)
theorem impl_Pool_of.mono : ∀ a0 a1 a2 k, LeO (impl_Pool_of.f k a0 a1 a2) (impl_Pool_of.f (k + 1) a0 a1 a2) := by
 intro a0 a1 a2 k;have ih0 := impl_Pool_of.mono_l k;unfold impl_Pool_of.f
 repeat' first
   | (with_reducible exact ih0 _ _ _ _ _)
   | (with_reducible exact LeO.refl _)
   | (with_reducible exact LeO.none _)
   | (with_reducible refine LeO.ite ?_ ?_)
   | (with_reducible refine LeO.bind ?_ (fun _ => ?_))
   | exact ih0 _ _ _ _ _
   | exact LeO.none _
   | refine LeO.ite ?_ ?_
   | refine LeO.bind ?_ (fun _ => ?_)
set_option maxHeartbeats 8000000 in
set_option maxRecDepth 100000 in
theorem impl_Pool_of.calls (k : Nat) (A0_0 : Option Addr) (c0_0 : Nat) (l0_0 : List (S41)) (a0_1 : Int) (a1 : Int) (r : Int) (w : World) (hr0_0 : Kd.C k41 w A0_0 l0_0.length l0_0) (hc0_0 : l0_0.length ≤ c0_0) (h : impl_Pool_of.f k l0_0 a0_1 a1 = some r) :
  Calls Try.prog 48 #[.agg #[.slice A0_0 l0_0.length c0_0, .int .i64 a0_1], .int .i64 a1] w fun e w' => e = .returned (.int .i64 r) ∧ Below w.heap.size w w' := by
 have hu29 := Try.underlying29;have hu41 := Try.underlying41;have HR0_0 := z_a hr0_0;have HC0_0 := z_a hc0_0;clear hr0_0 hc0_0;have HB := z_a (Below.refl w.heap.size w);have H : (impl_Pool_of.l0 k a1 0 l0_0 (l0_0.length : Int) 0) = some r:=h;clear h;have H' := z_a H;clear H
 go_enter Try.func48, Try.ntmps48
 go_wp2_with (first|((with_reducible refine gate_dst (N:=2) rfl ?_);refine box_event ?hg (N:=2) ?hd (cs:=#[.slice A0_0 l0_0.length c0_0,.int .i64 a0_1]) (t:=29) ?hr ?_;(case hd => rfl);(case hg => rfl);(case hr => first|(go_simp;done)|(go_simp;rfl));intro gb123 hg w3 hbox hb;have n0_:=z_a (z_f zB hb);have n1_:=z_a (hbox);have n2_:=z_a ((by rw [hg];exact (z_g zB) : w.heap.size ≤ gb123));have n3_:=z_a ((by rw [hg];exact (z_g zB) : w.heap.size ≤ gb123));clear HB;have HB:=n0_;have BK123:=n1_;have GW123:=n2_;have GE123:=n3_;clear n0_ n1_ n2_ n3_;clear hb hbox hg;have hcz4_0 : w3.cell? ⟨gb123,0,none⟩ = some (.slice A0_0 l0_0.length c0_0):=(z_b BK123.out 0).trans rfl;have hcz4_1 : w3.cell? ⟨gb123,1,none⟩ = some (.int .i64 a0_1):=(z_b BK123.out 1).trans rfl;have hfz4_0:=z_4 BK123.out 0;have hfz4_1:=z_4 BK123.out 1))
 go_loopg [5,11] k (fun kq v5 v11 w' => ∃ (x5_1 : Int) (x11_1 : Int),v5 = .int .i64 x5_1 ∧ v11 = .int .i64 x11_1 ∧ Aside0 (impl_Pool_of.l0 kq a1 x5_1 l0_0 (l0_0.length : Int) x11_1 = some r) ∧ Aside0 (kq ≤ k) ∧ Aside0 (w'.heap[gb123]? = some (.cells #[(.slice A0_0 l0_0.length c0_0),.int .i64 a0_1] 29 (0,0))) ∧ Aside0 (Below w.heap.size w w'))
 case atStart => exact ⟨(0),(0),(by first|rfl|(simp;done)|(simp [*];done)),(by first|rfl|(simp;done)|(simp [*];done)),H',⟨Nat.le_refl _⟩,⟨by (with_reducible repeat (first|refine y_b ?_ _|refine y_c ?_|refine y_d ?_ _));exact BK123.out⟩,⟨zB⟩⟩
 case round =>
  clear H'
  try clear p2
  try clear c4
  try clear hcz4_0
  try clear hcz4_1
  try clear hfz4_0
  try clear hfz4_1
  obtain ⟨x5_1, x11_1, rfl, rfl, HA, HK1, BK123, HB⟩ := hrel;cases gk with
  | zero => exact absurd HA.out (by simp [impl_Pool_of.l0])
  | succ k1 =>
   have H := HA.out;clear HA;simp only [impl_Pool_of.l0] at H
   by_cases c5 : x11_1 < (l0_0.length : Int)
   ·rw [if_pos c5] at H;have c5b0 : decide (x11_1 < (l0_0.length : Int)) = true:=z_e c5;clear c5
    by_cases c6 : 0 ≤ x11_1
    ·rw [if_pos c6] at H;have c6b0 : decide (0 ≤ x11_1) = true := z_e c6;clear c6
     by_cases c7 : x11_1 < (l0_0.length : Int)
     ·rw [if_pos c7] at H;have c7b0 : decide (x11_1 < (l0_0.length : Int)) = true:=z_e c7;clear c7
      by_cases c8 : ((rd_T41 l0_0 x11_1).f1) > 0
      ·rw [if_pos c8] at H;have c8b0 : decide (0 < ((rd_T41 l0_0 x11_1).f1)) = true:=z_e c8;clear c8
       by_cases c9 : ((rd_T41 l0_0 x11_1).f0) = a1
       ·rw [if_pos c9] at H;have c9b0 : (((rd_T41 l0_0 x11_1).f0) == a1) = true:=beq_iff_eq.mpr c9;have c9b1 : (((rd_T41 l0_0 x11_1).f0) != a1) = false:=bne_eq_false_iff_eq.mpr c9;clear c9;have H' := z_a H;clear H;have p124 : 0 ≤ (x11_1 : Int):=z_9 (by first|(with_reducible assumption)|assumption);have q124 : x11_1 < (l0_0.length : Int):=z_9 (by first|(with_reducible assumption)|assumption);obtain ⟨ad124,e124,hx124_0,hx124_1,hx124_2,hx124_3,hx124_4⟩:=at_T41 HR0_0.out x11_1 p124 q124;cases e124;replace hx124_0:=(z_c HB.out hx124_0).trans hx124_0;replace hx124_1:=(z_c HB.out hx124_1).trans hx124_1;replace hx124_2:=(z_c HB.out hx124_2).trans hx124_2;replace hx124_3:=(z_c HB.out hx124_3).trans hx124_3;replace hx124_4:=(z_c HB.out hx124_4).trans hx124_4;replace p124 := eq_true p124;replace q124 := eq_true q124
        go_wp2_with (first|((with_reducible refine gate_dst (N:=7) rfl ?_);refine box_event ?hg (N:=7) ?hd (cs:=#[.int .i64 0,.int .i64 0,.int .i64 0,.int .i64 0,.bool false]) (t:=41) ?hr ?_;(case hd => rfl);(case hg => rfl);(case hr => first|(go_simp;done)|(go_simp;rfl));intro gb125 hg w10 hbox hb;have n0_:=z_a (z_d (g:=gb123) zK hb);have n1_:=z_a (z_f zB hb);have n2_:=z_a (hbox);have n3_:=z_a ((by rw [hg];exact (z_g zB) : w.heap.size ≤ gb125));have n4_:=z_a ((by rw [hg];exact (z_g zB) : w.heap.size ≤ gb125));have n5_:=z_a ((by rw [hg];exact Nat.ne_of_lt (blk_lt (g:=gb123) (o:=.cells #[.slice (some ad124) l0_0.length c0_0,.int .i64 a0_1] 29 (0,0)) zK) : gb123 ≠ gb125));have n6_:=z_a ((by rw [hg];exact Nat.ne_of_gt (blk_lt (g:=gb123) (o:=.cells #[.slice (some ad124) l0_0.length c0_0,.int .i64 a0_1] 29 (0,0)) zK) : gb125 ≠ gb123));clear BK123 HB;have BK123:=n0_;have HB:=n1_;have BK125:=n2_;have GW125:=n3_;have GE125:=n4_;have NB123_125:=n5_;have NB125_123:=n6_;clear n0_ n1_ n2_ n3_ n4_ n5_ n6_;clear hb hbox hg;have hnb11:=NB125_123.out;have hnc11:=NB123_125.out;have hcz12_0 : w10.cell? ⟨gb125,0,none⟩ = some (.int .i64 0):=(z_b BK125.out 0).trans rfl;have hcz12_1 : w10.cell? ⟨gb125,1,none⟩ = some (.int .i64 0):=(z_b BK125.out 1).trans rfl;have hcz12_2 : w10.cell? ⟨gb125,2,none⟩ = some (.int .i64 0):=(z_b BK125.out 2).trans rfl;have hcz12_3 : w10.cell? ⟨gb125,3,none⟩ = some (.int .i64 0):=(z_b BK125.out 3).trans rfl;have hcz12_4 : w10.cell? ⟨gb125,4,none⟩ = some (.bool false):=(z_b BK125.out 4).trans rfl;have hfz12_0:=z_4 BK125.out 0;have hfz12_1:=z_4 BK125.out 1;have hfz12_2:=z_4 BK125.out 2;have hfz12_3:=z_4 BK125.out 3;have hfz12_4:=z_4 BK125.out 4))
        go_roundg k1
        case measure => have := HK1.out; omega
        case rel => exact ⟨(wrap64 (x5_1 + 1)),(wrap64 (x11_1 + 1)),(by first|rfl|(simp;done)|(simp [*];done)),(by first|rfl|(simp;done)|(simp [*];done)),H',⟨by have:=HK1.out;omega⟩,⟨by (with_reducible repeat (first|refine y_b ?_ _|refine y_c ?_|refine y_d ?_ _));refine blk_far ?_ NB123_125.out _;(with_reducible repeat (first|refine y_b ?_ _|refine y_c ?_|refine y_d ?_ _));refine blk_far ?_ NB123_125.out _;(with_reducible repeat (first|refine y_b ?_ _|refine y_c ?_|refine y_d ?_ _));refine blk_far ?_ NB123_125.out _;(with_reducible repeat (first|refine y_b ?_ _|refine y_c ?_|refine y_d ?_ _));refine blk_far ?_ NB123_125.out _;(with_reducible repeat (first|refine y_b ?_ _|refine y_c ?_|refine y_d ?_ _));refine blk_far ?_ NB123_125.out _;(with_reducible repeat (first|refine y_b ?_ _|refine y_c ?_|refine y_d ?_ _));exact BK123.out⟩,⟨zB⟩⟩
       ·rw [if_neg c9] at H;have c9b0 : (((rd_T41 l0_0 x11_1).f0) == a1) = false:=beq_eq_false_iff_ne.mpr c9;have c9b1 : (((rd_T41 l0_0 x11_1).f0) != a1) = true:=bne_iff_ne.mpr c9;have H' := z_a H;clear H;have p124 : 0 ≤ (x11_1 : Int):=z_9 (by first|(with_reducible assumption)|assumption);have q124 : x11_1 < (l0_0.length : Int):=z_9 (by first|(with_reducible assumption)|assumption);obtain ⟨ad124,e124,hx124_0,hx124_1,hx124_2,hx124_3,hx124_4⟩:=at_T41 HR0_0.out x11_1 p124 q124;cases e124;replace hx124_0:=(z_c HB.out hx124_0).trans hx124_0;replace hx124_1:=(z_c HB.out hx124_1).trans hx124_1;replace hx124_2:=(z_c HB.out hx124_2).trans hx124_2;replace hx124_3:=(z_c HB.out hx124_3).trans hx124_3;replace hx124_4:=(z_c HB.out hx124_4).trans hx124_4;replace p124 := eq_true p124;replace q124 := eq_true q124
        go_wp2_with (first|((with_reducible refine gate_dst (N:=7) rfl ?_);refine box_event ?hg (N:=7) ?hd (cs:=#[.int .i64 0,.int .i64 0,.int .i64 0,.int .i64 0,.bool false]) (t:=41) ?hr ?_;(case hd => rfl);(case hg => rfl);(case hr => first|(go_simp;done)|(go_simp;rfl));intro gb125 hg w13 hbox hb;have n0_:=z_a (z_d (g:=gb123) zK hb);have n1_:=z_a (z_f zB hb);have n2_:=z_a (hbox);have n3_:=z_a ((by rw [hg];exact (z_g zB) : w.heap.size ≤ gb125));have n4_:=z_a ((by rw [hg];exact (z_g zB) : w.heap.size ≤ gb125));have n5_:=z_a ((by rw [hg];exact Nat.ne_of_lt (blk_lt (g:=gb123) (o:=.cells #[.slice (some ad124) l0_0.length c0_0,.int .i64 a0_1] 29 (0,0)) zK) : gb123 ≠ gb125));have n6_:=z_a ((by rw [hg];exact Nat.ne_of_gt (blk_lt (g:=gb123) (o:=.cells #[.slice (some ad124) l0_0.length c0_0,.int .i64 a0_1] 29 (0,0)) zK) : gb125 ≠ gb123));clear BK123 HB;have BK123:=n0_;have HB:=n1_;have BK125:=n2_;have GW125:=n3_;have GE125:=n4_;have NB123_125:=n5_;have NB125_123:=n6_;clear n0_ n1_ n2_ n3_ n4_ n5_ n6_;clear hb hbox hg;have hnb14:=NB125_123.out;have hnc14:=NB123_125.out;have hcz15_0 : w13.cell? ⟨gb125,0,none⟩ = some (.int .i64 0):=(z_b BK125.out 0).trans rfl;have hcz15_1 : w13.cell? ⟨gb125,1,none⟩ = some (.int .i64 0):=(z_b BK125.out 1).trans rfl;have hcz15_2 : w13.cell? ⟨gb125,2,none⟩ = some (.int .i64 0):=(z_b BK125.out 2).trans rfl;have hcz15_3 : w13.cell? ⟨gb125,3,none⟩ = some (.int .i64 0):=(z_b BK125.out 3).trans rfl;have hcz15_4 : w13.cell? ⟨gb125,4,none⟩ = some (.bool false):=(z_b BK125.out 4).trans rfl;have hfz15_0:=z_4 BK125.out 0;have hfz15_1:=z_4 BK125.out 1;have hfz15_2:=z_4 BK125.out 2;have hfz15_3:=z_4 BK125.out 3;have hfz15_4:=z_4 BK125.out 4))
        go_roundg k1
        case measure => have := HK1.out; omega
        case rel => exact ⟨(x5_1),(wrap64 (x11_1 + 1)),(by first|rfl|(simp;done)|(simp [*];done)),(by first|rfl|(simp;done)|(simp [*];done)),H',⟨by have:=HK1.out;omega⟩,⟨by (with_reducible repeat (first|refine y_b ?_ _|refine y_c ?_|refine y_d ?_ _));refine blk_far ?_ NB123_125.out _;(with_reducible repeat (first|refine y_b ?_ _|refine y_c ?_|refine y_d ?_ _));refine blk_far ?_ NB123_125.out _;(with_reducible repeat (first|refine y_b ?_ _|refine y_c ?_|refine y_d ?_ _));refine blk_far ?_ NB123_125.out _;(with_reducible repeat (first|refine y_b ?_ _|refine y_c ?_|refine y_d ?_ _));refine blk_far ?_ NB123_125.out _;(with_reducible repeat (first|refine y_b ?_ _|refine y_c ?_|refine y_d ?_ _));refine blk_far ?_ NB123_125.out _;(with_reducible repeat (first|refine y_b ?_ _|refine y_c ?_|refine y_d ?_ _));exact BK123.out⟩,⟨zB⟩⟩
      ·rw [if_neg c8] at H;have c8b0 : decide (0 < ((rd_T41 l0_0 x11_1).f1)) = false:=decide_eq_false c8;clear c8;have H' := z_a H;clear H;have p124 : 0 ≤ (x11_1 : Int):=z_9 (by first|(with_reducible assumption)|assumption);have q124 : x11_1 < (l0_0.length : Int):=z_9 (by first|(with_reducible assumption)|assumption);obtain ⟨ad124,e124,hx124_0,hx124_1,hx124_2,hx124_3,hx124_4⟩:=at_T41 HR0_0.out x11_1 p124 q124;cases e124;replace hx124_0:=(z_c HB.out hx124_0).trans hx124_0;replace hx124_1:=(z_c HB.out hx124_1).trans hx124_1;replace hx124_2:=(z_c HB.out hx124_2).trans hx124_2;replace hx124_3:=(z_c HB.out hx124_3).trans hx124_3;replace hx124_4:=(z_c HB.out hx124_4).trans hx124_4;replace p124 := eq_true p124;replace q124 := eq_true q124
       go_wp2_with (first|((with_reducible refine gate_dst (N:=7) rfl ?_);refine box_event ?hg (N:=7) ?hd (cs:=#[.int .i64 0,.int .i64 0,.int .i64 0,.int .i64 0,.bool false]) (t:=41) ?hr ?_;(case hd => rfl);(case hg => rfl);(case hr => first|(go_simp;done)|(go_simp;rfl));intro gb125 hg w16 hbox hb;have n0_:=z_a (z_d (g:=gb123) zK hb);have n1_:=z_a (z_f zB hb);have n2_:=z_a (hbox);have n3_:=z_a ((by rw [hg];exact (z_g zB) : w.heap.size ≤ gb125));have n4_:=z_a ((by rw [hg];exact (z_g zB) : w.heap.size ≤ gb125));have n5_:=z_a ((by rw [hg];exact Nat.ne_of_lt (blk_lt (g:=gb123) (o:=.cells #[.slice (some ad124) l0_0.length c0_0,.int .i64 a0_1] 29 (0,0)) zK) : gb123 ≠ gb125));have n6_:=z_a ((by rw [hg];exact Nat.ne_of_gt (blk_lt (g:=gb123) (o:=.cells #[.slice (some ad124) l0_0.length c0_0,.int .i64 a0_1] 29 (0,0)) zK) : gb125 ≠ gb123));clear BK123 HB;have BK123:=n0_;have HB:=n1_;have BK125:=n2_;have GW125:=n3_;have GE125:=n4_;have NB123_125:=n5_;have NB125_123:=n6_;clear n0_ n1_ n2_ n3_ n4_ n5_ n6_;clear hb hbox hg;have hnb17:=NB125_123.out;have hnc17:=NB123_125.out;have hcz18_0 : w16.cell? ⟨gb125,0,none⟩ = some (.int .i64 0):=(z_b BK125.out 0).trans rfl;have hcz18_1 : w16.cell? ⟨gb125,1,none⟩ = some (.int .i64 0):=(z_b BK125.out 1).trans rfl;have hcz18_2 : w16.cell? ⟨gb125,2,none⟩ = some (.int .i64 0):=(z_b BK125.out 2).trans rfl;have hcz18_3 : w16.cell? ⟨gb125,3,none⟩ = some (.int .i64 0):=(z_b BK125.out 3).trans rfl;have hcz18_4 : w16.cell? ⟨gb125,4,none⟩ = some (.bool false):=(z_b BK125.out 4).trans rfl;have hfz18_0:=z_4 BK125.out 0;have hfz18_1:=z_4 BK125.out 1;have hfz18_2:=z_4 BK125.out 2;have hfz18_3:=z_4 BK125.out 3;have hfz18_4:=z_4 BK125.out 4))
       go_roundg k1
       case measure => have := HK1.out; omega
       case rel => exact ⟨(x5_1),(wrap64 (x11_1 + 1)),(by first|rfl|(simp;done)|(simp [*];done)),(by first|rfl|(simp;done)|(simp [*];done)),H',⟨by have:=HK1.out;omega⟩,⟨by (with_reducible repeat (first|refine y_b ?_ _|refine y_c ?_|refine y_d ?_ _));refine blk_far ?_ NB123_125.out _;(with_reducible repeat (first|refine y_b ?_ _|refine y_c ?_|refine y_d ?_ _));refine blk_far ?_ NB123_125.out _;(with_reducible repeat (first|refine y_b ?_ _|refine y_c ?_|refine y_d ?_ _));refine blk_far ?_ NB123_125.out _;(with_reducible repeat (first|refine y_b ?_ _|refine y_c ?_|refine y_d ?_ _));refine blk_far ?_ NB123_125.out _;(with_reducible repeat (first|refine y_b ?_ _|refine y_c ?_|refine y_d ?_ _));refine blk_far ?_ NB123_125.out _;(with_reducible repeat (first|refine y_b ?_ _|refine y_c ?_|refine y_d ?_ _));exact BK123.out⟩,⟨zB⟩⟩
     ·rw [if_neg c7] at H;exact absurd H (by simp)
    ·rw [if_neg c6] at H;exact absurd H (by simp)
   ·rw [if_neg c5] at H;have c5b0 : decide (x11_1 < (l0_0.length : Int)) = false:=decide_eq_false c5;clear c5;obtain rfl := Option.some.inj H
    go_wp2
    go_ret
    exact ⟨by first|rfl|(simp [errW_none,errW_some] <;> rfl)|(simp [*,errW_none,errW_some] <;> rfl),zB⟩

end Go.Proofs.Ytlfnjkcgefcidaa.PFnPoolDrop
