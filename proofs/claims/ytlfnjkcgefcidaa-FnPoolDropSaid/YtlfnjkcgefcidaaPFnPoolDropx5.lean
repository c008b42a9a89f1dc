-- Written by a program of this session over the print's form. Lean checks it.
import Derived.Test.YtlfnjkcgefcidaaPFnPoolDropx0
namespace Go.Proofs.Ytlfnjkcgefcidaa.PFnPoolDrop
open Go.RowKit Go.Proofs.YtlfnjkcgefcidaaW.PrintWords Go.Proofs.YtlfnjkcgefcidaaW.PrintLast Go.Proofs.YtlfnjkcgefcidaaW.PrintMore
attribute [local go_sem] max2_int min2_int max_two min_two max_three min_three max_four min_four   -- for this text's walks alone
set_option linter.unusedVariables false
set_option linter.unusedSimpArgs false

/-! ### impl_within: function 45 -/
def impl_within.f (a0 : Int) (a1 : Int) (a2 : Int) : Option (Bool) := if a0 ≥ a1 then (some (decide (a0 ≤ a2))) else (some false)
set_option maxHeartbeats 8000000 in
set_option maxRecDepth 100000 in
theorem impl_within.calls (a0 : Int) (a1 : Int) (a2 : Int) (r : Bool) (w : World) (h : impl_within.f a0 a1 a2 = some r) :
  Calls Try.prog 45 #[.int .i64 a0, .int .i64 a1, .int .i64 a2] w fun e w' => e = .returned (.bool r) ∧ Drawn0 w w' := by
 have H : (if a0 ≥ a1 then (some (decide (a0 ≤ a2))) else (some false)) = some r:=h;clear h
 by_cases c4 : a0 ≥ a1
 ·rw [if_pos c4] at H;have c4b0 : decide (a1 ≤ a0) = true := z_e c4;clear c4;obtain rfl := Option.some.inj H
  go_enter Try.func45, Try.ntmps45
  go_wp2
  go_ret
  exact ⟨by first|rfl|(simp;done)|(simp [*];done),by repeat (first|exact Drawn0.refl _|apply Drawn0.step)⟩
 rw [if_neg c4] at H;have c4b0 : decide (a1 ≤ a0) = false := decide_eq_false c4;clear c4;obtain rfl := Option.some.inj H
 go_enter Try.func45, Try.ntmps45
 go_wp2
 go_ret
 exact ⟨by first|rfl|(simp;done)|(simp [*];done),by repeat (first|exact Drawn0.refl _|apply Drawn0.step)⟩

/-! ### impl_house: function 46 -/
def impl_house.f (a0 : Int) : Option (Bool) := (impl_within.f a0 0 1).bind fun t119 => (some t119)
set_option maxHeartbeats 8000000 in
set_option maxRecDepth 100000 in
theorem impl_house.calls (a0 : Int) (r : Bool) (w : World) (h : impl_house.f a0 = some r) :
  Calls Try.prog 46 #[.int .i64 a0] w fun e w' => e = .returned (.bool r) ∧ Drawn0 w w' := by
 have H : ((impl_within.f a0 0 1).bind fun t119 => (some t119)) = some r:=h;clear h;replace H := z_8 H;obtain ⟨t119, A20, H⟩ := H;replace H : (some t119) = some r := H;have A2 := z_a A20;clear A20;obtain rfl := Option.some.inj H
 go_enter Try.func46, Try.ntmps46
 go_wp2_with (first|((with_reducible refine gate_callee (f:=45) rfl ?_);refine goesL_ (some 4) rfl rfl Try.func45 (by kernel_rfl) rfl #[.int .i64 a0,.int .i64 0,.int .i64 1] rfl (by (try simp only [z_7,List.map_cons,List.map_nil]);first|done|rfl|(simp only [z_6,z_5];rfl)) ?_;(with_reducible refine (impl_within.calls a0 0 1 t119 _ A2.out).mono ?_);rintro e w' ⟨rfl,⟨nd,rfl⟩⟩;refine ⟨_,rfl,?_⟩))
 go_ret
 exact ⟨by first|rfl|(simp;done)|(simp [*];done),by repeat (first|exact Drawn0.refl _|apply Drawn0.step)⟩

/-! ### impl_Pool_find: function 47 -/
def impl_Pool_find.l0 : Nat → Int → Int → List (S41) → Int → Int → Option (Int)
 | 0, _, _, _, _, _ => none
 | k + 1, x1, x2, x10, x11, x12 => if x12 < x11 then (if 0 ≤ x12 then (if x12 < (x10.length : Int) then (if ((rd_T41 x10 x12).f1) = x1 then (if ((rd_T41 x10 x12).f2) = x2 then (some x12) else (impl_Pool_find.l0 k x1 x2 x10 x11 (wrap64 (x12 + 1)))) else (impl_Pool_find.l0 k x1 x2 x10 x11 (wrap64 (x12 + 1)))) else (none)) else (none)) else (some (-1))
def impl_Pool_find.f (k : Nat) (l0_0 : List (S41)) (a0_1 : Int) (a1 : Int) (a2 : Int) : Option (Int) := impl_Pool_find.l0 k a1 a2 l0_0 (l0_0.length : Int) 0
theorem impl_Pool_find.mono_l : ∀ k, (∀ y0 y1 y2 y3 y4, LeO (impl_Pool_find.l0 k y0 y1 y2 y3 y4) (impl_Pool_find.l0 (k + 1) y0 y1 y2 y3 y4))
 | 0 => fun _ _ _ _ _ r h => by simp [impl_Pool_find.l0] at h
 | k + 1 => by
  have ih0 := impl_Pool_find.mono_l k
  ·intro y0 y1 y2 y3 y4
   unfold impl_Pool_find.l0
   repeat' first
   | (with_reducible exact ih0 _ _ _ _ _)
   | (with_reducible exact LeO.refl _)
   | (with_reducible exact LeO.none _)
   | (with_reducible refine LeO.ite ?_ ?_)
   | (with_reducible refine LeO.bind ?_ (fun _ => ?_))
   | exact ih0 _ _ _ _ _
   | exact LeO.none _
   | refine LeO.ite ?_ ?_
   | refine LeO.bind ?_ (fun _ => ?_)
theorem impl_Pool_find.mono : ∀ a0 a1 a2 a3 k, LeO (impl_Pool_find.f k a0 a1 a2 a3) (impl_Pool_find.f (k + 1) a0 a1 a2 a3) := by
 intro a0 a1 a2 a3 k;have ih0 := impl_Pool_find.mono_l k;unfold impl_Pool_find.f
 repeat' first
   | (with_reducible exact ih0 _ _ _ _ _)
   | (with_reducible exact LeO.refl _)
   | (with_reducible exact LeO.none _)
   | (with_reducible refine LeO.ite ?_ ?_)
   | (with_reducible refine LeO.bind ?_ (fun _ => ?_))
   | exact ih0 _ _ _ _ _
   | exact LeO.none _
   | refine LeO.ite ?_ ?_
   | refine LeO.bind ?_ (fun _ => ?_)
set_option maxHeartbeats 8000000 in
set_option maxRecDepth 100000 in
theorem impl_Pool_find.calls (k : Nat) (A0_0 : Option Addr) (c0_0 : Nat) (l0_0 : List (S41)) (a0_1 : Int) (a1 : Int) (a2 : Int) (r : Int) (w : World) (hr0_0 : Kd.C k41 w A0_0 l0_0.length l0_0) (hc0_0 : l0_0.length ≤ c0_0) (h : impl_Pool_find.f k l0_0 a0_1 a1 a2 = some r) :
  Calls Try.prog 47 #[.agg #[.slice A0_0 l0_0.length c0_0, .int .i64 a0_1], .int .i64 a1, .int .i64 a2] w fun e w' => e = .returned (.int .i64 r) ∧ Below w.heap.size w w' := by
 have hu29 := Try.underlying29;have hu41 := Try.underlying41;have HR0_0 := z_a hr0_0;have HC0_0 := z_a hc0_0;clear hr0_0 hc0_0;have HB := z_a (Below.refl w.heap.size w);have H : (impl_Pool_find.l0 k a1 a2 l0_0 (l0_0.length : Int) 0) = some r:=h;clear h;have H' := z_a H;clear H
 go_enter Try.func47, Try.ntmps47
 go_wp2_with (first|((with_reducible refine gate_dst (N:=3) rfl ?_);refine box_event ?hg (N:=3) ?hd (cs:=#[.slice A0_0 l0_0.length c0_0,.int .i64 a0_1]) (t:=29) ?hr ?_;(case hd => rfl);(case hg => rfl);(case hr => first|(go_simp;done)|(go_simp;rfl));intro gb120 hg w4 hbox hb;have n0_:=z_a (z_f zB hb);have n1_:=z_a (hbox);have n2_:=z_a ((by rw [hg];exact (z_g zB) : w.heap.size ≤ gb120));have n3_:=z_a ((by rw [hg];exact (z_g zB) : w.heap.size ≤ gb120));clear HB;have HB:=n0_;have BK120:=n1_;have GW120:=n2_;have GE120:=n3_;clear n0_ n1_ n2_ n3_;clear hb hbox hg;have hcz5_0 : w4.cell? ⟨gb120,0,none⟩ = some (.slice A0_0 l0_0.length c0_0):=(z_b BK120.out 0).trans rfl;have hcz5_1 : w4.cell? ⟨gb120,1,none⟩ = some (.int .i64 a0_1):=(z_b BK120.out 1).trans rfl;have hfz5_0:=z_4 BK120.out 0;have hfz5_1:=z_4 BK120.out 1))
 go_loopg [12] k (fun kq v12 w' => ∃ (x12_1 : Int),v12 = .int .i64 x12_1 ∧ Aside0 (impl_Pool_find.l0 kq a1 a2 l0_0 (l0_0.length : Int) x12_1 = some r) ∧ Aside0 (kq ≤ k) ∧ Aside0 (w'.heap[gb120]? = some (.cells #[(.slice A0_0 l0_0.length c0_0),.int .i64 a0_1] 29 (0,0))) ∧ Aside0 (Below w.heap.size w w'))
 case atStart => exact ⟨(0),(by first|rfl|(simp;done)|(simp [*];done)),H',⟨Nat.le_refl _⟩,⟨by (with_reducible repeat (first|refine y_b ?_ _|refine y_c ?_|refine y_d ?_ _));exact BK120.out⟩,⟨zB⟩⟩
 case round =>
  clear H'
  try clear p2
  try clear c4
  try clear hcz5_0
  try clear hcz5_1
  try clear hfz5_0
  try clear hfz5_1
  obtain ⟨x12_1, rfl, HA, HK1, BK120, HB⟩ := hrel;cases gk with
  | zero => exact absurd HA.out (by simp [impl_Pool_find.l0])
  | succ k1 =>
   have H := HA.out;clear HA;simp only [impl_Pool_find.l0] at H
   by_cases c6 : x12_1 < (l0_0.length : Int)
   ·rw [if_pos c6] at H;have c6b0 : decide (x12_1 < (l0_0.length : Int)) = true:=z_e c6;clear c6
    by_cases c7 : 0 ≤ x12_1
    ·rw [if_pos c7] at H;have c7b0 : decide (0 ≤ x12_1) = true := z_e c7;clear c7
     by_cases c8 : x12_1 < (l0_0.length : Int)
     ·rw [if_pos c8] at H;have c8b0 : decide (x12_1 < (l0_0.length : Int)) = true:=z_e c8;clear c8
      by_cases c9 : ((rd_T41 l0_0 x12_1).f1) = a1
      ·rw [if_pos c9] at H;have c9b0 : (((rd_T41 l0_0 x12_1).f1) == a1) = true:=beq_iff_eq.mpr c9;have c9b1 : (((rd_T41 l0_0 x12_1).f1) != a1) = false:=bne_eq_false_iff_eq.mpr c9;clear c9
       by_cases c10 : ((rd_T41 l0_0 x12_1).f2) = a2
       ·rw [if_pos c10] at H;have c10b0 : (((rd_T41 l0_0 x12_1).f2) == a2) = true:=beq_iff_eq.mpr c10;have c10b1 : (((rd_T41 l0_0 x12_1).f2) != a2) = false:=bne_eq_false_iff_eq.mpr c10;clear c10;obtain rfl := Option.some.inj H;have p121 : 0 ≤ (x12_1 : Int):=z_9 (by first|(with_reducible assumption)|assumption);have q121 : x12_1 < (l0_0.length : Int):=z_9 (by first|(with_reducible assumption)|assumption);obtain ⟨ad121,e121,hx121_0,hx121_1,hx121_2,hx121_3,hx121_4⟩:=at_T41 HR0_0.out x12_1 p121 q121;cases e121;replace hx121_0:=(z_c HB.out hx121_0).trans hx121_0;replace hx121_1:=(z_c HB.out hx121_1).trans hx121_1;replace hx121_2:=(z_c HB.out hx121_2).trans hx121_2;replace hx121_3:=(z_c HB.out hx121_3).trans hx121_3;replace hx121_4:=(z_c HB.out hx121_4).trans hx121_4;replace p121 := eq_true p121;replace q121 := eq_true q121
        go_wp2_with (first|((with_reducible refine gate_dst (N:=8) rfl ?_);refine box_event ?hg (N:=8) ?hd (cs:=#[.int .i64 0,.int .i64 0,.int .i64 0,.int .i64 0,.bool false]) (t:=41) ?hr ?_;(case hd => rfl);(case hg => rfl);(case hr => first|(go_simp;done)|(go_simp;rfl));intro gb122 hg w11 hbox hb;have n0_:=z_a (z_d (g:=gb120) zK hb);have n1_:=z_a (z_f zB hb);have n2_:=z_a (hbox);have n3_:=z_a ((by rw [hg];exact (z_g zB) : w.heap.size ≤ gb122));have n4_:=z_a ((by rw [hg];exact (z_g zB) : w.heap.size ≤ gb122));have n5_:=z_a ((by rw [hg];exact Nat.ne_of_lt (blk_lt (g:=gb120) (o:=.cells #[.slice (some ad121) l0_0.length c0_0,.int .i64 a0_1] 29 (0,0)) zK) : gb120 ≠ gb122));have n6_:=z_a ((by rw [hg];exact Nat.ne_of_gt (blk_lt (g:=gb120) (o:=.cells #[.slice (some ad121) l0_0.length c0_0,.int .i64 a0_1] 29 (0,0)) zK) : gb122 ≠ gb120));clear BK120 HB;have BK120:=n0_;have HB:=n1_;have BK122:=n2_;have GW122:=n3_;have GE122:=n4_;have NB120_122:=n5_;have NB122_120:=n6_;clear n0_ n1_ n2_ n3_ n4_ n5_ n6_;clear hb hbox hg;have hnb12:=NB122_120.out;have hnc12:=NB120_122.out;have hcz13_0 : w11.cell? ⟨gb122,0,none⟩ = some (.int .i64 0):=(z_b BK122.out 0).trans rfl;have hcz13_1 : w11.cell? ⟨gb122,1,none⟩ = some (.int .i64 0):=(z_b BK122.out 1).trans rfl;have hcz13_2 : w11.cell? ⟨gb122,2,none⟩ = some (.int .i64 0):=(z_b BK122.out 2).trans rfl;have hcz13_3 : w11.cell? ⟨gb122,3,none⟩ = some (.int .i64 0):=(z_b BK122.out 3).trans rfl;have hcz13_4 : w11.cell? ⟨gb122,4,none⟩ = some (.bool false):=(z_b BK122.out 4).trans rfl;have hfz13_0:=z_4 BK122.out 0;have hfz13_1:=z_4 BK122.out 1;have hfz13_2:=z_4 BK122.out 2;have hfz13_3:=z_4 BK122.out 3;have hfz13_4:=z_4 BK122.out 4))
        go_ret
        exact ⟨by first|rfl|(simp [errW_none,errW_some] <;> rfl)|(simp [*,errW_none,errW_some] <;> rfl),zB⟩
       ·rw [if_neg c10] at H;have c10b0 : (((rd_T41 l0_0 x12_1).f2) == a2) = false:=beq_eq_false_iff_ne.mpr c10;have c10b1 : (((rd_T41 l0_0 x12_1).f2) != a2) = true:=bne_iff_ne.mpr c10;have H' := z_a H;clear H;have p121 : 0 ≤ (x12_1 : Int):=z_9 (by first|(with_reducible assumption)|assumption);have q121 : x12_1 < (l0_0.length : Int):=z_9 (by first|(with_reducible assumption)|assumption);obtain ⟨ad121,e121,hx121_0,hx121_1,hx121_2,hx121_3,hx121_4⟩:=at_T41 HR0_0.out x12_1 p121 q121;cases e121;replace hx121_0:=(z_c HB.out hx121_0).trans hx121_0;replace hx121_1:=(z_c HB.out hx121_1).trans hx121_1;replace hx121_2:=(z_c HB.out hx121_2).trans hx121_2;replace hx121_3:=(z_c HB.out hx121_3).trans hx121_3;replace hx121_4:=(z_c HB.out hx121_4).trans hx121_4;replace p121 := eq_true p121;replace q121 := eq_true q121
        go_wp2_with (first|((with_reducible refine gate_dst (N:=8) rfl ?_);refine box_event ?hg (N:=8) ?hd (cs:=#[.int .i64 0,.int .i64 0,.int .i64 0,.int .i64 0,.bool false]) (t:=41) ?hr ?_;(case hd => rfl);(case hg => rfl);(case hr => first|(go_simp;done)|(go_simp;rfl));intro gb122 hg w14 hbox hb;have n0_:=z_a (z_d (g:=gb120) zK hb);have n1_:=z_a (z_f zB hb);have n2_:=z_a (hbox);have n3_:=z_a ((by rw [hg];exact (z_g zB) : w.heap.size ≤ gb122));have n4_:=z_a ((by rw [hg];exact (z_g zB) : w.heap.size ≤ gb122));have n5_:=z_a ((by rw [hg];exact Nat.ne_of_lt (blk_lt (g:=gb120) (o:=.cells #[.slice (some ad121) l0_0.length c0_0,.int .i64 a0_1] 29 (0,0)) zK) : gb120 ≠ gb122));have n6_:=z_a ((by rw [hg];exact Nat.ne_of_gt (blk_lt (g:=gb120) (o:=.cells #[.slice (some ad121) l0_0.length c0_0,.int .i64 a0_1] 29 (0,0)) zK) : gb122 ≠ gb120));clear BK120 HB;have BK120:=n0_;have HB:=n1_;have BK122:=n2_;have GW122:=n3_;have GE122:=n4_;have NB120_122:=n5_;have NB122_120:=n6_;clear n0_ n1_ n2_ n3_ n4_ n5_ n6_;clear hb hbox hg;have hnb15:=NB122_120.out;have hnc15:=NB120_122.out;have hcz16_0 : w14.cell? ⟨gb122,0,none⟩ = some (.int .i64 0):=(z_b BK122.out 0).trans rfl;have hcz16_1 : w14.cell? ⟨gb122,1,none⟩ = some (.int .i64 0):=(z_b BK122.out 1).trans rfl;have hcz16_2 : w14.cell? ⟨gb122,2,none⟩ = some (.int .i64 0):=(z_b BK122.out 2).trans rfl;have hcz16_3 : w14.cell? ⟨gb122,3,none⟩ = some (.int .i64 0):=(z_b BK122.out 3).trans rfl;have hcz16_4 : w14.cell? ⟨gb122,4,none⟩ = some (.bool false):=(z_b BK122.out 4).trans rfl;have hfz16_0:=z_4 BK122.out 0;have hfz16_1:=z_4 BK122.out 1;have hfz16_2:=z_4 BK122.out 2;have hfz16_3:=z_4 BK122.out 3;have hfz16_4:=z_4 BK122.out 4))
        go_roundg k1
        case measure => have := HK1.out; omega
        case rel => exact ⟨(wrap64 (x12_1 + 1)),(by first|rfl|(simp;done)|(simp [*];done)),H',⟨by have:=HK1.out;omega⟩,⟨by (with_reducible repeat (first|refine y_b ?_ _|refine y_c ?_|refine y_d ?_ _));refine blk_far ?_ NB120_122.out _;(with_reducible repeat (first|refine y_b ?_ _|refine y_c ?_|refine y_d ?_ _));refine blk_far ?_ NB120_122.out _;(with_reducible repeat (first|refine y_b ?_ _|refine y_c ?_|refine y_d ?_ _));refine blk_far ?_ NB120_122.out _;(with_reducible repeat (first|refine y_b ?_ _|refine y_c ?_|refine y_d ?_ _));refine blk_far ?_ NB120_122.out _;(with_reducible repeat (first|refine y_b ?_ _|refine y_c ?_|refine y_d ?_ _));refine blk_far ?_ NB120_122.out _;(with_reducible repeat (first|refine y_b ?_ _|refine y_c ?_|refine y_d ?_ _));exact BK120.out⟩,⟨zB⟩⟩
      ·rw [if_neg c9] at H;have c9b0 : (((rd_T41 l0_0 x12_1).f1) == a1) = false:=beq_eq_false_iff_ne.mpr c9;have c9b1 : (((rd_T41 l0_0 x12_1).f1) != a1) = true:=bne_iff_ne.mpr c9;have H' := z_a H;clear H;have p121 : 0 ≤ (x12_1 : Int):=z_9 (by first|(with_reducible assumption)|assumption);have q121 : x12_1 < (l0_0.length : Int):=z_9 (by first|(with_reducible assumption)|assumption);obtain ⟨ad121,e121,hx121_0,hx121_1,hx121_2,hx121_3,hx121_4⟩:=at_T41 HR0_0.out x12_1 p121 q121;cases e121;replace hx121_0:=(z_c HB.out hx121_0).trans hx121_0;replace hx121_1:=(z_c HB.out hx121_1).trans hx121_1;replace hx121_2:=(z_c HB.out hx121_2).trans hx121_2;replace hx121_3:=(z_c HB.out hx121_3).trans hx121_3;replace hx121_4:=(z_c HB.out hx121_4).trans hx121_4;replace p121 := eq_true p121;replace q121 := eq_true q121
       go_wp2_with (first|((with_reducible refine gate_dst (N:=8) rfl ?_);refine box_event ?hg (N:=8) ?hd (cs:=#[.int .i64 0,.int .i64 0,.int .i64 0,.int .i64 0,.bool false]) (t:=41) ?hr ?_;(case hd => rfl);(case hg => rfl);(case hr => first|(go_simp;done)|(go_simp;rfl));intro gb122 hg w17 hbox hb;have n0_:=z_a (z_d (g:=gb120) zK hb);have n1_:=z_a (z_f zB hb);have n2_:=z_a (hbox);have n3_:=z_a ((by rw [hg];exact (z_g zB) : w.heap.size ≤ gb122));have n4_:=z_a ((by rw [hg];exact (z_g zB) : w.heap.size ≤ gb122));have n5_:=z_a ((by rw [hg];exact Nat.ne_of_lt (blk_lt (g:=gb120) (o:=.cells #[.slice (some ad121) l0_0.length c0_0,.int .i64 a0_1] 29 (0,0)) zK) : gb120 ≠ gb122));have n6_:=z_a ((by rw [hg];exact Nat.ne_of_gt (blk_lt (g:=gb120) (o:=.cells #[.slice (some ad121) l0_0.length c0_0,.int .i64 a0_1] 29 (0,0)) zK) : gb122 ≠ gb120));clear BK120 HB;have BK120:=n0_;have HB:=n1_;have BK122:=n2_;have GW122:=n3_;have GE122:=n4_;have NB120_122:=n5_;have NB122_120:=n6_;clear n0_ n1_ n2_ n3_ n4_ n5_ n6_;clear hb hbox hg;have hnb18:=NB122_120.out;have hnc18:=NB120_122.out;have hcz19_0 : w17.cell? ⟨gb122,0,none⟩ = some (.int .i64 0):=(z_b BK122.out 0).trans rfl;have hcz19_1 : w17.cell? ⟨gb122,1,none⟩ = some (.int .i64 0):=(z_b BK122.out 1).trans rfl;have hcz19_2 : w17.cell? ⟨gb122,2,none⟩ = some (.int .i64 0):=(z_b BK122.out 2).trans rfl;have hcz19_3 : w17.cell? ⟨gb122,3,none⟩ = some (.int .i64 0):=(z_b BK122.out 3).trans rfl;have hcz19_4 : w17.cell? ⟨gb122,4,none⟩ = some (.bool false):=(z_b BK122.out 4).trans rfl;have hfz19_0:=z_4 BK122.out 0;have hfz19_1:=z_4 BK122.out 1;have hfz19_2:=z_4 BK122.out 2;have hfz19_3:=z_4 BK122.out 3;have hfz19_4:=z_4 BK122.out 4))
       go_roundg k1
       case measure => have := HK1.out; omega
       case rel => exact ⟨(wrap64 (x12_1 + 1)),(by first|rfl|(simp;done)|(simp [*];done)),H',⟨by have:=HK1.out;omega⟩,⟨by (with_reducible repeat (first|refine y_b ?_ _|refine y_c ?_|refine y_d ?_ _));refine blk_far ?_ NB120_122.out _;(with_reducible repeat (first|refine y_b ?_ _|refine y_c ?_|refine y_d ?_ _));refine blk_far ?_ NB120_122.out _;(with_reducible repeat (first|refine y_b ?_ _|refine y_c ?_|refine y_d ?_ _));refine blk_far ?_ NB120_122.out _;(with_reducible repeat (first|refine y_b ?_ _|refine y_c ?_|refine y_d ?_ _));refine blk_far ?_ NB120_122.out _;(with_reducible repeat (first|refine y_b ?_ _|refine y_c ?_|refine y_d ?_ _));refine blk_far ?_ NB120_122.out _;(with_reducible repeat (first|refine y_b ?_ _|refine y_c ?_|refine y_d ?_ _));exact BK120.out⟩,⟨zB⟩⟩
     ·rw [if_neg c8] at H;exact absurd H (by simp)
    ·rw [if_neg c7] at H;exact absurd H (by simp)
   ·rw [if_neg c6] at H;have c6b0 : decide (x12_1 < (l0_0.length : Int)) = false:=decide_eq_false c6;clear c6;obtain rfl := Option.some.inj H
    go_wp2
    go_ret
    exact ⟨by first|rfl|(simp [errW_none,errW_some] <;> rfl)|(simp [*,errW_none,errW_some] <;> rfl),zB⟩

end Go.Proofs.Ytlfnjkcgefcidaa.PFnPoolDrop
