-- Written by a program of this session over the print's form. Lean checks it.
import Derived.Test.YtlfnjkcgefcidaaPFnPoolDropx0
import Derived.Test.YtlfnjkcgefcidaaPFnPoolDropx1
import Derived.Test.YtlfnjkcgefcidaaPFnPoolDropx5
import Derived.Test.YtlfnjkcgefcidaaPFnPoolDropx6
namespace Go.Proofs.Ytlfnjkcgefcidaa.PFnPoolDrop
open Go.RowKit Go.Proofs.YtlfnjkcgefcidaaW.PrintWords Go.Proofs.YtlfnjkcgefcidaaW.PrintLast Go.Proofs.YtlfnjkcgefcidaaW.PrintMore
attribute [local go_sem] max2_int min2_int max_two min_two max_three min_three max_four min_four   -- for this text's walks alone
set_option linter.unusedVariables false
set_option linter.unusedSimpArgs false

attribute [local go_sem high] eqA41
/-! ### impl_PoolOk: function 18 -/
mutual
def impl_PoolOk.j0 : Nat → Bool → List (S41) → Int → Option (Bool)
 | 0, _, _, _ => none
 | k + 1, x15, x127000, x127001 => if x15 = true then (some false) else (impl_PoolOk.l0 k x127000 (x127000.length : Int) 0 x127000 x127001)
def impl_PoolOk.l0 : Nat → List (S41) → Int → Int → List (S41) → Int → Option (Bool)
 | 0, _, _, _, _, _ => none
 | k + 1, x17, x18, x19, x127000, x127001 => if x19 < x18 then (if 0 ≤ x19 then (if x19 < (x17.length : Int) then (if ((rd_T41 x17 x19).f1) = 0 then (if (!(((rd_T41 x17 x19).f0) == 0) || (!(((rd_T41 x17 x19).f1) == 0) || (!(((rd_T41 x17 x19).f2) == 0) || (!(((rd_T41 x17 x19).f3) == 0) || (((rd_T41 x17 x19).f4)))))) = true then (some false) else (impl_PoolOk.l0 k x17 x18 (wrap64 (x19 + 1)) x127000 x127001)) else ((impl_house.f ((rd_T41 x17 x19).f0)).bind fun t130 => (if t130 = true then ((impl_within.f ((rd_T41 x17 x19).f1) 1 99999).bind fun t131 => (if t131 = true then ((impl_within.f ((rd_T41 x17 x19).f2) 0 23).bind fun t132 => (if t132 = true then ((impl_within.f ((rd_T41 x17 x19).f3) 0 99999).bind fun t133 => (if t133 = true then ((impl_Pool_find.f k x127000 x127001 ((rd_T41 x17 x19).f1) ((rd_T41 x17 x19).f2)).bind fun t134 => (if t134 = x19 then (impl_PoolOk.l0 k x17 x18 (wrap64 (x19 + 1)) x127000 x127001) else (some false))) else (some false))) else (some false))) else (some false))) else (some false)))) else (none)) else (none)) else (impl_PoolOk.l1 k 0 x127000 x127001)
def impl_PoolOk.l1 : Nat → Int → List (S41) → Int → Option (Bool)
 | 0, _, _, _ => none
 | k + 1, x63, x127000, x127001 => if x63 < 2 then ((impl_Pool_of.f k x127000 x127001 x63).bind fun t135 => (if t135 > 5 then (some false) else (impl_PoolOk.l1 k (wrap64 (x63 + 1)) x127000 x127001))) else (some true)
end
def impl_PoolOk.f (k : Nat) (l0_0 : List (S41)) (a0_1 : Int) : Option (Bool) := if (l0_0.length : Int) = 8 then ((impl_within.f a0_1 0 7).bind fun t127 => (impl_PoolOk.j0 k (!t127) l0_0 a0_1)) else (impl_PoolOk.j0 k true l0_0 a0_1)
theorem impl_PoolOk.mono_l : ∀ k, (∀ y0 y1 y2, LeO (impl_PoolOk.j0 k y0 y1 y2) (impl_PoolOk.j0 (k + 1) y0 y1 y2)) ∧ (∀ y0 y1 y2 y3 y4, LeO (impl_PoolOk.l0 k y0 y1 y2 y3 y4) (impl_PoolOk.l0 (k + 1) y0 y1 y2 y3 y4)) ∧ (∀ y0 y1 y2, LeO (impl_PoolOk.l1 k y0 y1 y2) (impl_PoolOk.l1 (k + 1) y0 y1 y2))
 | 0 => ⟨fun _ _ _ r h => by simp [impl_PoolOk.j0] at h, fun _ _ _ _ _ r h => by simp [impl_PoolOk.l0] at h, fun _ _ _ r h => by simp [impl_PoolOk.l1] at h⟩
 | k + 1 => by
  obtain ⟨ih0, ih1, ih2⟩ := impl_PoolOk.mono_l k
  refine ⟨?_, ?_, ?_⟩
  ·intro y0 y1 y2
   unfold impl_PoolOk.j0
   repeat' first
   | (with_reducible exact ih0 _ _ _)
   | (with_reducible exact ih1 _ _ _ _ _)
   | (with_reducible exact ih2 _ _ _)
   | (with_reducible exact impl_Pool_find.mono _ _ _ _ _)
   | (with_reducible exact impl_Pool_of.mono _ _ _ _)
   | (with_reducible exact LeO.refl _)
   | (with_reducible exact LeO.none _)
   | (with_reducible refine LeO.ite ?_ ?_)
   | (with_reducible refine LeO.bind ?_ (fun _ => ?_))
   | exact ih0 _ _ _
   | exact ih1 _ _ _ _ _
   | exact ih2 _ _ _
   | exact impl_Pool_find.mono _ _ _ _ _
   | exact impl_Pool_of.mono _ _ _ _
   | exact LeO.none _
   | refine LeO.ite ?_ ?_
   | refine LeO.bind ?_ (fun _ => ?_)
  ·intro y0 y1 y2 y3 y4
   unfold impl_PoolOk.l0
   repeat' first
   | (with_reducible exact ih0 _ _ _)
   | (with_reducible exact ih1 _ _ _ _ _)
   | (with_reducible exact ih2 _ _ _)
   | (with_reducible exact impl_Pool_find.mono _ _ _ _ _)
   | (with_reducible exact impl_Pool_of.mono _ _ _ _)
   | (with_reducible exact LeO.refl _)
   | (with_reducible exact LeO.none _)
   | (with_reducible refine LeO.ite ?_ ?_)
   | (with_reducible refine LeO.bind ?_ (fun _ => ?_))
   | exact ih0 _ _ _
   | exact ih1 _ _ _ _ _
   | exact ih2 _ _ _
   | exact impl_Pool_find.mono _ _ _ _ _
   | exact impl_Pool_of.mono _ _ _ _
   | exact LeO.none _
   | refine LeO.ite ?_ ?_
   | refine LeO.bind ?_ (fun _ => ?_)
  ·intro y0 y1 y2
   unfold impl_PoolOk.l1
   repeat' first
   | (with_reducible exact ih0 _ _ _)
   | (with_reducible exact ih1 _ _ _ _ _)
   | (with_reducible exact ih2 _ _ _)
   | (with_reducible exact impl_Pool_find.mono _ _ _ _ _)
   | (with_reducible exact impl_Pool_of.mono _ _ _ _)
   | (with_reducible exact LeO.refl _)
   | (with_reducible exact LeO.none _)
   | (with_reducible refine LeO.ite ?_ ?_)
   | (with_reducible refine LeO.bind ?_ (fun _ => ?_))
   | exact ih0 _ _ _
   | exact ih1 _ _ _ _ _
   | exact ih2 _ _ _
   | exact impl_Pool_find.mono _ _ _ _ _
   | exact impl_Pool_of.mono _ _ _ _
   | exact LeO.none _
   | refine LeO.ite ?_ ?_
   | refine LeO.bind ?_ (fun _ => ?_)
theorem impl_PoolOk.mono : ∀ a0 a1 k, LeO (impl_PoolOk.f k a0 a1) (impl_PoolOk.f (k + 1) a0 a1) := by
 intro a0 a1 k;obtain ⟨ih0, ih1, ih2⟩ := impl_PoolOk.mono_l k;unfold impl_PoolOk.f
 repeat' first
   | (with_reducible exact ih0 _ _ _)
   | (with_reducible exact ih1 _ _ _ _ _)
   | (with_reducible exact ih2 _ _ _)
   | (with_reducible exact impl_Pool_find.mono _ _ _ _ _)
   | (with_reducible exact impl_Pool_of.mono _ _ _ _)
   | (with_reducible exact LeO.refl _)
   | (with_reducible exact LeO.none _)
   | (with_reducible refine LeO.ite ?_ ?_)
   | (with_reducible refine LeO.bind ?_ (fun _ => ?_))
   | exact ih0 _ _ _
   | exact ih1 _ _ _ _ _
   | exact ih2 _ _ _
   | exact impl_Pool_find.mono _ _ _ _ _
   | exact impl_Pool_of.mono _ _ _ _
   | exact LeO.none _
   | refine LeO.ite ?_ ?_
   | refine LeO.bind ?_ (fun _ => ?_)
set_option maxHeartbeats 8000000 in
set_option maxRecDepth 100000 in
theorem impl_PoolOk.calls (k : Nat) (A0_0 : Option Addr) (c0_0 : Nat) (l0_0 : List (S41)) (a0_1 : Int) (r : Bool) (w : World) (hr0_0 : Kd.C k41 w A0_0 l0_0.length l0_0) (hc0_0 : l0_0.length ≤ c0_0) (h : impl_PoolOk.f k l0_0 a0_1 = some r) :
  Calls Try.prog 18 #[.agg #[.slice A0_0 l0_0.length c0_0, .int .i64 a0_1]] w fun e w' => e = .returned (.bool r) ∧ Below w.heap.size w w' := by
 have hu29 := Try.underlying29;have hu41 := Try.underlying41;have HR0_0 := z_a hr0_0;have HC0_0 := z_a hc0_0;clear hr0_0 hc0_0;have HB := z_a (Below.refl w.heap.size w);have H : (if (l0_0.length : Int) = 8 then ((impl_within.f a0_1 0 7).bind fun t127 => (impl_PoolOk.j0 k (!t127) l0_0 a0_1)) else (impl_PoolOk.j0 k true l0_0 a0_1)) = some r:=h;clear h;have HC2 := z_a H;clear H
 go_enter Try.func18, Try.ntmps18
 go_upto_region 1 with (first|((with_reducible refine gate_dst (N:=1) rfl ?_);refine box_event ?hg (N:=1) ?hd (cs:=#[.slice A0_0 l0_0.length c0_0,.int .i64 a0_1]) (t:=29) ?hr ?_;(case hd => rfl);(case hg => rfl);(case hr => first|(go_simp;done)|(go_simp;rfl));intro gb126 hg w3 hbox hb;have n0_:=z_a (z_f zB hb);have n1_:=z_a (hbox);have n2_:=z_a ((by rw [hg];exact (z_g zB) : w.heap.size ≤ gb126));have n3_:=z_a ((by rw [hg];exact (z_g zB) : w.heap.size ≤ gb126));clear HB;have HB:=n0_;have BK126:=n1_;have GW126:=n2_;have GE126:=n3_;clear n0_ n1_ n2_ n3_;clear hb hbox hg))
 (try simp only [Act.put,z_1,z_2,z_3])
 go_cut [15] (fun v15 wc => ∃ (kq : Nat) (x15_1 : Bool),v15 = .bool x15_1 ∧ Aside0 (impl_PoolOk.j0 kq x15_1 l0_0 a0_1 = some r) ∧ Aside0 (kq ≤ k) ∧ Aside0 (wc.heap[gb126]? = some (.cells #[(.slice A0_0 l0_0.length c0_0),.int .i64 a0_1] 29 (0,0))) ∧ Aside0 (Below w.heap.size w wc))
 case first =>
  have H := HC2.out;clear HC2
  by_cases c4 : (l0_0.length : Int) = 8
  ·rw [if_pos c4] at H;have c4b0 : ((l0_0.length : Int) == 8) = true:=beq_iff_eq.mpr c4;have c4b1 : ((l0_0.length : Int) != 8) = false:=bne_eq_false_iff_eq.mpr c4;clear c4
   (first|rw [c4b0]|(simp only [i64_w,i32_w];rw [c4b0])|skip)
   replace H := z_8 H;obtain ⟨t127, A50, H⟩ := H;replace H : (impl_PoolOk.j0 k (!t127) l0_0 a0_1) = some r:=H;have A5 := z_a A50;clear A50;have H' := z_a H;clear H;have hcz6_0 : w3.cell? ⟨gb126,0,none⟩ = some (.slice A0_0 l0_0.length c0_0):=(z_b BK126.out 0).trans rfl;have hcz6_1 : w3.cell? ⟨gb126,1,none⟩ = some (.int .i64 a0_1):=(z_b BK126.out 1).trans rfl;have hfz6_0 := z_4 BK126.out 0;have hfz6_1 := z_4 BK126.out 1
   go_wp2_with (first|(go_at_call 45;(with_reducible refine (impl_within.calls a0_1 0 7 t127 _ A5.out).mono ?_);rintro e w' ⟨rfl,⟨nd,rfl⟩⟩))
   go_meet
   case rel => exact ⟨_,(!t127),(by first|rfl|(simp;done)|(simp [*];done)),H',⟨by first|omega|exact Nat.le_refl _⟩,⟨by (with_reducible repeat (first|refine y_b ?_ _|refine y_c ?_|refine y_d ?_ _));exact BK126.out⟩,⟨zB⟩⟩
  rw [if_neg c4] at H;have c4b0 : ((l0_0.length : Int) == 8) = false:=beq_eq_false_iff_ne.mpr c4;have c4b1 : ((l0_0.length : Int) != 8) = true:=bne_iff_ne.mpr c4
  (first|rw [c4b0]|(simp only [i64_w,i32_w];rw [c4b0])|skip)
  have H' := z_a H;clear H;have hcz7_0 : w3.cell? ⟨gb126,0,none⟩ = some (.slice A0_0 l0_0.length c0_0):=(z_b BK126.out 0).trans rfl;have hcz7_1 : w3.cell? ⟨gb126,1,none⟩ = some (.int .i64 a0_1):=(z_b BK126.out 1).trans rfl;have hfz7_0 := z_4 BK126.out 0;have hfz7_1 := z_4 BK126.out 1
  go_wp2
  go_meet
  case rel => exact ⟨_,(true),(by first|rfl|(simp;done)|(simp [*];done)),H',⟨by first|omega|exact Nat.le_refl _⟩,⟨by (with_reducible repeat (first|refine y_b ?_ _|refine y_c ?_|refine y_d ?_ _));exact BK126.out⟩,⟨zB⟩⟩
 case rest =>
  clear HC2
  try clear c1
  try clear p2
  try clear c4
  try clear c4b0
  try clear c4b1
  try clear hcz6_0
  try clear hcz6_1
  try clear hcz7_0
  try clear hcz7_1
  try clear hfz6_0
  try clear hfz6_1
  try clear hfz7_0
  try clear hfz7_1
  obtain ⟨kq, x15_1, rfl, HA, HJ1, BK126, HB⟩ := hcut;cases kq with
  | zero => exact absurd HA.out (by simp [impl_PoolOk.j0])
  | succ kj1 =>
   have H := HA.out;clear HA;simp only [impl_PoolOk.j0] at H
   by_cases c8 : x15_1 = true
   ·subst c8;have H1 : (some false) = some r:=by rw [if_pos rfl] at H;exact H
    clear H;have H := H1;clear H1;obtain rfl := Option.some.inj H
    go_wp2
    go_ret
    exact ⟨by first|rfl|(simp [errW_none,errW_some] <;> rfl)|(simp [*,errW_none,errW_some] <;> rfl),zB⟩
   ·replace c8 := Bool.eq_false_iff.mpr c8;subst c8;have H1 : (impl_PoolOk.l0 kj1 l0_0 (l0_0.length : Int) 0 l0_0 a0_1) = some r:=by rw [if_neg (show ¬ (false = true) by decide)] at H;exact H
    clear H;have H := H1;clear H1;have H' := z_a H;clear H;have hcz9_0 : wc.cell? ⟨gb126,0,none⟩ = some (.slice A0_0 l0_0.length c0_0):=(z_b BK126.out 0).trans rfl;have hcz9_1 : wc.cell? ⟨gb126,1,none⟩ = some (.int .i64 a0_1):=(z_b BK126.out 1).trans rfl;have hfz9_0 := z_4 BK126.out 0;have hfz9_1 := z_4 BK126.out 1
    go_wp2
    go_loopg [19] kj1 (fun kq v19 w' => ∃ (x19_2 : Int),v19 = .int .i64 x19_2 ∧ Aside0 (impl_PoolOk.l0 kq l0_0 (l0_0.length : Int) x19_2 l0_0 a0_1 = some r) ∧ Aside0 (kq ≤ kj1) ∧ Aside0 (w'.heap[gb126]? = some (.cells #[(.slice A0_0 l0_0.length c0_0),.int .i64 a0_1] 29 (0,0))) ∧ Aside0 (Below w.heap.size w w'))
    case atStart => exact ⟨(0),(by first|rfl|(simp;done)|(simp [*];done)),H',⟨Nat.le_refl _⟩,⟨by (with_reducible repeat (first|refine y_b ?_ _|refine y_c ?_|refine y_d ?_ _));exact BK126.out⟩,⟨zB⟩⟩
    case round =>
     clear H'
     try clear c1
     try clear p2
     try clear c4
     try clear c4b0
     try clear c4b1
     try clear c8
     try clear hcz6_0
     try clear hcz6_1
     try clear hcz7_0
     try clear hcz7_1
     try clear hcz9_0
     try clear hcz9_1
     try clear hfz6_0
     try clear hfz6_1
     try clear hfz7_0
     try clear hfz7_1
     try clear hfz9_0
     try clear hfz9_1
     try clear p2
     obtain ⟨x19_2, rfl, HA, HK2, BK126, HB⟩ := hrel;cases gk with
     | zero => exact absurd HA.out (by simp [impl_PoolOk.l0])
     | succ k2 =>
      have H := HA.out;clear HA;simp only [impl_PoolOk.l0] at H
      by_cases c10 : x19_2 < (l0_0.length : Int)
      ·rw [if_pos c10] at H;have c10b0 : decide (x19_2 < (l0_0.length : Int)) = true:=z_e c10;clear c10
       by_cases c11 : 0 ≤ x19_2
       ·rw [if_pos c11] at H;have c11b0 : decide (0 ≤ x19_2) = true := z_e c11;clear c11
        by_cases c12 : x19_2 < (l0_0.length : Int)
        ·rw [if_pos c12] at H;have c12b0 : decide (x19_2 < (l0_0.length : Int)) = true:=z_e c12;clear c12
         by_cases c13 : ((rd_T41 l0_0 x19_2).f1) = 0
         ·rw [if_pos c13] at H;have c13b0 : (((rd_T41 l0_0 x19_2).f1) == 0) = true:=beq_iff_eq.mpr c13;have c13b1 : (((rd_T41 l0_0 x19_2).f1) != 0) = false:=bne_eq_false_iff_eq.mpr c13;clear c13
          by_cases c14 : (!(((rd_T41 l0_0 x19_2).f0) == 0) || (!(((rd_T41 l0_0 x19_2).f1) == 0) || (!(((rd_T41 l0_0 x19_2).f2) == 0) || (!(((rd_T41 l0_0 x19_2).f3) == 0) || (((rd_T41 l0_0 x19_2).f4)))))) = true
          ·rw [if_pos c14] at H;have c14b0 : (!(((rd_T41 l0_0 x19_2).f0) == 0) || (!(((rd_T41 l0_0 x19_2).f1) == 0) || (!(((rd_T41 l0_0 x19_2).f2) == 0) || (!(((rd_T41 l0_0 x19_2).f3) == 0) || (((rd_T41 l0_0 x19_2).f4)))))) = true:=c14;have c14b1 := c14b0;simp only [c13b0, Bool.not_true, Bool.false_or] at c14b1;clear c14;obtain rfl := Option.some.inj H;have p128 : 0 ≤ (x19_2 : Int):=z_9 (by first|(with_reducible assumption)|assumption);have q128 : x19_2 < (l0_0.length : Int):=z_9 (by first|(with_reducible assumption)|assumption);obtain ⟨ad128,e128,hx128_0,hx128_1,hx128_2,hx128_3,hx128_4⟩:=at_T41 HR0_0.out x19_2 p128 q128;cases e128;replace hx128_0:=(z_c HB.out hx128_0).trans hx128_0;replace hx128_1:=(z_c HB.out hx128_1).trans hx128_1;replace hx128_2:=(z_c HB.out hx128_2).trans hx128_2;replace hx128_3:=(z_c HB.out hx128_3).trans hx128_3;replace hx128_4:=(z_c HB.out hx128_4).trans hx128_4;replace p128 := eq_true p128;replace q128 := eq_true q128
           go_wp2_with (first|((with_reducible refine gate_dst (N:=4) rfl ?_);refine box_event ?hg (N:=4) ?hd (cs:=#[.int .i64 0,.int .i64 0,.int .i64 0,.int .i64 0,.bool false]) (t:=41) ?hr ?_;(case hd => rfl);(case hg => rfl);(case hr => first|(go_simp;done)|(go_simp;rfl));intro gb129 hg w15 hbox hb;have n0_:=z_a (z_d (g:=gb126) zK hb);have n1_:=z_a (z_f zB hb);have n2_:=z_a (hbox);have n3_:=z_a ((by rw [hg];exact (z_g zB) : w.heap.size ≤ gb129));have n4_:=z_a ((by rw [hg];exact (z_g zB) : w.heap.size ≤ gb129));have n5_:=z_a ((by rw [hg];exact Nat.ne_of_lt (blk_lt (g:=gb126) (o:=.cells #[.slice (some ad128) l0_0.length c0_0,.int .i64 a0_1] 29 (0,0)) zK) : gb126 ≠ gb129));have n6_:=z_a ((by rw [hg];exact Nat.ne_of_gt (blk_lt (g:=gb126) (o:=.cells #[.slice (some ad128) l0_0.length c0_0,.int .i64 a0_1] 29 (0,0)) zK) : gb129 ≠ gb126));clear BK126 HB;have BK126:=n0_;have HB:=n1_;have BK129:=n2_;have GW129:=n3_;have GE129:=n4_;have NB126_129:=n5_;have NB129_126:=n6_;clear n0_ n1_ n2_ n3_ n4_ n5_ n6_;clear hb hbox hg;have hnb16:=NB129_126.out;have hnc16:=NB126_129.out;have hcz17_0 : w15.cell? ⟨gb129,0,none⟩ = some (.int .i64 0):=(z_b BK129.out 0).trans rfl;have hcz17_1 : w15.cell? ⟨gb129,1,none⟩ = some (.int .i64 0):=(z_b BK129.out 1).trans rfl;have hcz17_2 : w15.cell? ⟨gb129,2,none⟩ = some (.int .i64 0):=(z_b BK129.out 2).trans rfl;have hcz17_3 : w15.cell? ⟨gb129,3,none⟩ = some (.int .i64 0):=(z_b BK129.out 3).trans rfl;have hcz17_4 : w15.cell? ⟨gb129,4,none⟩ = some (.bool false):=(z_b BK129.out 4).trans rfl;have hfz17_0:=z_4 BK129.out 0;have hfz17_1:=z_4 BK129.out 1;have hfz17_2:=z_4 BK129.out 2;have hfz17_3:=z_4 BK129.out 3;have hfz17_4:=z_4 BK129.out 4))
           go_ret
           exact ⟨by first|rfl|(simp [errW_none,errW_some] <;> rfl)|(simp [*,errW_none,errW_some] <;> rfl),zB⟩
          ·rw [if_neg c14] at H;have c14b0 : (!(((rd_T41 l0_0 x19_2).f0) == 0) || (!(((rd_T41 l0_0 x19_2).f1) == 0) || (!(((rd_T41 l0_0 x19_2).f2) == 0) || (!(((rd_T41 l0_0 x19_2).f3) == 0) || (((rd_T41 l0_0 x19_2).f4)))))) = false:=by simpa using c14
           have c14b1 := c14b0;simp only [c13b0, Bool.not_true, Bool.false_or] at c14b1;clear c14;have H' := z_a H;clear H;have p128 : 0 ≤ (x19_2 : Int):=z_9 (by first|(with_reducible assumption)|assumption);have q128 : x19_2 < (l0_0.length : Int):=z_9 (by first|(with_reducible assumption)|assumption);obtain ⟨ad128,e128,hx128_0,hx128_1,hx128_2,hx128_3,hx128_4⟩:=at_T41 HR0_0.out x19_2 p128 q128;cases e128;replace hx128_0:=(z_c HB.out hx128_0).trans hx128_0;replace hx128_1:=(z_c HB.out hx128_1).trans hx128_1;replace hx128_2:=(z_c HB.out hx128_2).trans hx128_2;replace hx128_3:=(z_c HB.out hx128_3).trans hx128_3;replace hx128_4:=(z_c HB.out hx128_4).trans hx128_4;replace p128 := eq_true p128;replace q128 := eq_true q128
           go_wp2_with (first|((with_reducible refine gate_dst (N:=4) rfl ?_);refine box_event ?hg (N:=4) ?hd (cs:=#[.int .i64 0,.int .i64 0,.int .i64 0,.int .i64 0,.bool false]) (t:=41) ?hr ?_;(case hd => rfl);(case hg => rfl);(case hr => first|(go_simp;done)|(go_simp;rfl));intro gb129 hg w18 hbox hb;have n0_:=z_a (z_d (g:=gb126) zK hb);have n1_:=z_a (z_f zB hb);have n2_:=z_a (hbox);have n3_:=z_a ((by rw [hg];exact (z_g zB) : w.heap.size ≤ gb129));have n4_:=z_a ((by rw [hg];exact (z_g zB) : w.heap.size ≤ gb129));have n5_:=z_a ((by rw [hg];exact Nat.ne_of_lt (blk_lt (g:=gb126) (o:=.cells #[.slice (some ad128) l0_0.length c0_0,.int .i64 a0_1] 29 (0,0)) zK) : gb126 ≠ gb129));have n6_:=z_a ((by rw [hg];exact Nat.ne_of_gt (blk_lt (g:=gb126) (o:=.cells #[.slice (some ad128) l0_0.length c0_0,.int .i64 a0_1] 29 (0,0)) zK) : gb129 ≠ gb126));clear BK126 HB;have BK126:=n0_;have HB:=n1_;have BK129:=n2_;have GW129:=n3_;have GE129:=n4_;have NB126_129:=n5_;have NB129_126:=n6_;clear n0_ n1_ n2_ n3_ n4_ n5_ n6_;clear hb hbox hg;have hnb19:=NB129_126.out;have hnc19:=NB126_129.out;have hcz20_0 : w18.cell? ⟨gb129,0,none⟩ = some (.int .i64 0):=(z_b BK129.out 0).trans rfl;have hcz20_1 : w18.cell? ⟨gb129,1,none⟩ = some (.int .i64 0):=(z_b BK129.out 1).trans rfl;have hcz20_2 : w18.cell? ⟨gb129,2,none⟩ = some (.int .i64 0):=(z_b BK129.out 2).trans rfl;have hcz20_3 : w18.cell? ⟨gb129,3,none⟩ = some (.int .i64 0):=(z_b BK129.out 3).trans rfl;have hcz20_4 : w18.cell? ⟨gb129,4,none⟩ = some (.bool false):=(z_b BK129.out 4).trans rfl;have hfz20_0:=z_4 BK129.out 0;have hfz20_1:=z_4 BK129.out 1;have hfz20_2:=z_4 BK129.out 2;have hfz20_3:=z_4 BK129.out 3;have hfz20_4:=z_4 BK129.out 4))
           go_roundg k2
           case measure => have := HJ1.out; have := HK2.out; omega
           case rel => exact ⟨(wrap64 (x19_2 + 1)),(by first|rfl|(simp;done)|(simp [*];done)),H',⟨by have:=HJ1.out;have:=HK2.out;omega⟩,⟨by (with_reducible repeat (first|refine y_b ?_ _|refine y_c ?_|refine y_d ?_ _));refine blk_far ?_ NB126_129.out _;(with_reducible repeat (first|refine y_b ?_ _|refine y_c ?_|refine y_d ?_ _));refine blk_far ?_ NB126_129.out _;(with_reducible repeat (first|refine y_b ?_ _|refine y_c ?_|refine y_d ?_ _));refine blk_far ?_ NB126_129.out _;(with_reducible repeat (first|refine y_b ?_ _|refine y_c ?_|refine y_d ?_ _));refine blk_far ?_ NB126_129.out _;(with_reducible repeat (first|refine y_b ?_ _|refine y_c ?_|refine y_d ?_ _));refine blk_far ?_ NB126_129.out _;(with_reducible repeat (first|refine y_b ?_ _|refine y_c ?_|refine y_d ?_ _));exact BK126.out⟩,⟨zB⟩⟩
         ·rw [if_neg c13] at H;have c13b0 : (((rd_T41 l0_0 x19_2).f1) == 0) = false:=beq_eq_false_iff_ne.mpr c13;have c13b1 : (((rd_T41 l0_0 x19_2).f1) != 0) = true:=bne_iff_ne.mpr c13;replace H := z_8 H;obtain ⟨t130, A210, H⟩ := H;replace H : (if t130 = true then ((impl_within.f ((rd_T41 l0_0 x19_2).f1) 1 99999).bind fun t131 => (if t131 = true then ((impl_within.f ((rd_T41 l0_0 x19_2).f2) 0 23).bind fun t132 => (if t132 = true then ((impl_within.f ((rd_T41 l0_0 x19_2).f3) 0 99999).bind fun t133 => (if t133 = true then ((impl_Pool_find.f k2 l0_0 a0_1 ((rd_T41 l0_0 x19_2).f1) ((rd_T41 l0_0 x19_2).f2)).bind fun t134 => (if t134 = x19_2 then (impl_PoolOk.l0 k2 l0_0 (l0_0.length : Int) (wrap64 (x19_2 + 1)) l0_0 a0_1) else (some false))) else (some false))) else (some false))) else (some false))) else (some false)) = some r:=H;have A21 := z_a A210;clear A210
          by_cases c22 : t130 = true
          ·subst c22;have H1 : ((impl_within.f ((rd_T41 l0_0 x19_2).f1) 1 99999).bind fun t131 => (if t131 = true then ((impl_within.f ((rd_T41 l0_0 x19_2).f2) 0 23).bind fun t132 => (if t132 = true then ((impl_within.f ((rd_T41 l0_0 x19_2).f3) 0 99999).bind fun t133 => (if t133 = true then ((impl_Pool_find.f k2 l0_0 a0_1 ((rd_T41 l0_0 x19_2).f1) ((rd_T41 l0_0 x19_2).f2)).bind fun t134 => (if t134 = x19_2 then (impl_PoolOk.l0 k2 l0_0 (l0_0.length : Int) (wrap64 (x19_2 + 1)) l0_0 a0_1) else (some false))) else (some false))) else (some false))) else (some false))) = some r:=by rw [if_pos rfl] at H;exact H
           clear H;have H := H1;clear H1;replace H := z_8 H;obtain ⟨t131, A230, H⟩ := H;replace H : (if t131 = true then ((impl_within.f ((rd_T41 l0_0 x19_2).f2) 0 23).bind fun t132 => (if t132 = true then ((impl_within.f ((rd_T41 l0_0 x19_2).f3) 0 99999).bind fun t133 => (if t133 = true then ((impl_Pool_find.f k2 l0_0 a0_1 ((rd_T41 l0_0 x19_2).f1) ((rd_T41 l0_0 x19_2).f2)).bind fun t134 => (if t134 = x19_2 then (impl_PoolOk.l0 k2 l0_0 (l0_0.length : Int) (wrap64 (x19_2 + 1)) l0_0 a0_1) else (some false))) else (some false))) else (some false))) else (some false)) = some r:=H;have A23 := z_a A230;clear A230
           by_cases c24 : t131 = true
           ·subst c24;have H1 : ((impl_within.f ((rd_T41 l0_0 x19_2).f2) 0 23).bind fun t132 => (if t132 = true then ((impl_within.f ((rd_T41 l0_0 x19_2).f3) 0 99999).bind fun t133 => (if t133 = true then ((impl_Pool_find.f k2 l0_0 a0_1 ((rd_T41 l0_0 x19_2).f1) ((rd_T41 l0_0 x19_2).f2)).bind fun t134 => (if t134 = x19_2 then (impl_PoolOk.l0 k2 l0_0 (l0_0.length : Int) (wrap64 (x19_2 + 1)) l0_0 a0_1) else (some false))) else (some false))) else (some false))) = some r:=by rw [if_pos rfl] at H;exact H
            clear H;have H := H1;clear H1;replace H := z_8 H;obtain ⟨t132, A250, H⟩ := H;replace H : (if t132 = true then ((impl_within.f ((rd_T41 l0_0 x19_2).f3) 0 99999).bind fun t133 => (if t133 = true then ((impl_Pool_find.f k2 l0_0 a0_1 ((rd_T41 l0_0 x19_2).f1) ((rd_T41 l0_0 x19_2).f2)).bind fun t134 => (if t134 = x19_2 then (impl_PoolOk.l0 k2 l0_0 (l0_0.length : Int) (wrap64 (x19_2 + 1)) l0_0 a0_1) else (some false))) else (some false))) else (some false)) = some r:=H;have A25 := z_a A250;clear A250
            by_cases c26 : t132 = true
            ·subst c26;have H1 : ((impl_within.f ((rd_T41 l0_0 x19_2).f3) 0 99999).bind fun t133 => (if t133 = true then ((impl_Pool_find.f k2 l0_0 a0_1 ((rd_T41 l0_0 x19_2).f1) ((rd_T41 l0_0 x19_2).f2)).bind fun t134 => (if t134 = x19_2 then (impl_PoolOk.l0 k2 l0_0 (l0_0.length : Int) (wrap64 (x19_2 + 1)) l0_0 a0_1) else (some false))) else (some false))) = some r:=by rw [if_pos rfl] at H;exact H
             clear H;have H := H1;clear H1;replace H := z_8 H;obtain ⟨t133, A270, H⟩ := H;replace H : (if t133 = true then ((impl_Pool_find.f k2 l0_0 a0_1 ((rd_T41 l0_0 x19_2).f1) ((rd_T41 l0_0 x19_2).f2)).bind fun t134 => (if t134 = x19_2 then (impl_PoolOk.l0 k2 l0_0 (l0_0.length : Int) (wrap64 (x19_2 + 1)) l0_0 a0_1) else (some false))) else (some false)) = some r:=H;have A27 := z_a A270;clear A270
             by_cases c28 : t133 = true
             ·subst c28;have H1 : ((impl_Pool_find.f k2 l0_0 a0_1 ((rd_T41 l0_0 x19_2).f1) ((rd_T41 l0_0 x19_2).f2)).bind fun t134 => (if t134 = x19_2 then (impl_PoolOk.l0 k2 l0_0 (l0_0.length : Int) (wrap64 (x19_2 + 1)) l0_0 a0_1) else (some false))) = some r:=by rw [if_pos rfl] at H;exact H
              clear H;have H := H1;clear H1;replace H := z_8 H;obtain ⟨t134, A290, H⟩ := H;replace H : (if t134 = x19_2 then (impl_PoolOk.l0 k2 l0_0 (l0_0.length : Int) (wrap64 (x19_2 + 1)) l0_0 a0_1) else (some false)) = some r:=H;have A29 := z_a A290;clear A290
              by_cases c30 : t134 = x19_2
              ·rw [if_pos c30] at H;have c30b0 : (t134 == x19_2) = true := beq_iff_eq.mpr c30;have c30b1 : (t134 != x19_2) = false:=bne_eq_false_iff_eq.mpr c30;clear c30;have H' := z_a H;clear H;have p128 : 0 ≤ (x19_2 : Int):=z_9 (by first|(with_reducible assumption)|assumption);have q128 : x19_2 < (l0_0.length : Int):=z_9 (by first|(with_reducible assumption)|assumption);obtain ⟨ad128,e128,hx128_0,hx128_1,hx128_2,hx128_3,hx128_4⟩:=at_T41 HR0_0.out x19_2 p128 q128;cases e128;replace hx128_0:=(z_c HB.out hx128_0).trans hx128_0;replace hx128_1:=(z_c HB.out hx128_1).trans hx128_1;replace hx128_2:=(z_c HB.out hx128_2).trans hx128_2;replace hx128_3:=(z_c HB.out hx128_3).trans hx128_3;replace hx128_4:=(z_c HB.out hx128_4).trans hx128_4;replace p128 := eq_true p128;replace q128 := eq_true q128
               go_wp2_with (first|((with_reducible refine gate_dst (N:=4) rfl ?_);refine box_event ?hg (N:=4) ?hd (cs:=#[.int .i64 0,.int .i64 0,.int .i64 0,.int .i64 0,.bool false]) (t:=41) ?hr ?_;(case hd => rfl);(case hg => rfl);(case hr => first|(go_simp;done)|(go_simp;rfl));intro gb129 hg w31 hbox hb;have n0_:=z_a (z_d (g:=gb126) zK hb);have n1_:=z_a (z_f zB hb);have n2_:=z_a (hbox);have n3_:=z_a ((by rw [hg];exact (z_g zB) : w.heap.size ≤ gb129));have n4_:=z_a ((by rw [hg];exact (z_g zB) : w.heap.size ≤ gb129));have n5_:=z_a ((by rw [hg];exact Nat.ne_of_lt (blk_lt (g:=gb126) (o:=.cells #[.slice (some ad128) l0_0.length c0_0,.int .i64 a0_1] 29 (0,0)) zK) : gb126 ≠ gb129));have n6_:=z_a ((by rw [hg];exact Nat.ne_of_gt (blk_lt (g:=gb126) (o:=.cells #[.slice (some ad128) l0_0.length c0_0,.int .i64 a0_1] 29 (0,0)) zK) : gb129 ≠ gb126));clear BK126 HB;have BK126:=n0_;have HB:=n1_;have BK129:=n2_;have GW129:=n3_;have GE129:=n4_;have NB126_129:=n5_;have NB129_126:=n6_;clear n0_ n1_ n2_ n3_ n4_ n5_ n6_;clear hb hbox hg;have hnb32:=NB129_126.out;have hnc32:=NB126_129.out;have hcz33_0 : w31.cell? ⟨gb129,0,none⟩ = some (.int .i64 0):=(z_b BK129.out 0).trans rfl;have hcz33_1 : w31.cell? ⟨gb129,1,none⟩ = some (.int .i64 0):=(z_b BK129.out 1).trans rfl;have hcz33_2 : w31.cell? ⟨gb129,2,none⟩ = some (.int .i64 0):=(z_b BK129.out 2).trans rfl;have hcz33_3 : w31.cell? ⟨gb129,3,none⟩ = some (.int .i64 0):=(z_b BK129.out 3).trans rfl;have hcz33_4 : w31.cell? ⟨gb129,4,none⟩ = some (.bool false):=(z_b BK129.out 4).trans rfl;have hfz33_0:=z_4 BK129.out 0;have hfz33_1:=z_4 BK129.out 1;have hfz33_2:=z_4 BK129.out 2;have hfz33_3:=z_4 BK129.out 3;have hfz33_4:=z_4 BK129.out 4)|((with_reducible refine gate_callee (f:=46) rfl ?_);refine goesL_ (some 32) rfl rfl Try.func46 (by kernel_rfl) rfl #[.int .i64 ((rd_T41 l0_0 x19_2).f0)] rfl (by (try simp only [z_7,List.map_cons,List.map_nil]);first|done|rfl|(simp only [z_6,z_5];rfl)) ?_;(with_reducible refine (impl_house.calls ((rd_T41 l0_0 x19_2).f0) true _ A21.out).mono ?_);rintro e w' ⟨rfl,⟨nd,rfl⟩⟩;refine ⟨_,rfl,?_⟩)|(go_at_call 45;(with_reducible refine (impl_within.calls ((rd_T41 l0_0 x19_2).f1) 1 99999 true _ A23.out).mono ?_);rintro e w' ⟨rfl,⟨nd,rfl⟩⟩)|(go_at_call 45;(with_reducible refine (impl_within.calls ((rd_T41 l0_0 x19_2).f2) 0 23 true _ A25.out).mono ?_);rintro e w' ⟨rfl,⟨nd,rfl⟩⟩)|(go_at_call 45;(with_reducible refine (impl_within.calls ((rd_T41 l0_0 x19_2).f3) 0 99999 true _ A27.out).mono ?_);rintro e w' ⟨rfl,⟨nd,rfl⟩⟩;have hcz34_0 : w31.cell? ⟨gb126,0,none⟩ = some (.slice (some ad128) l0_0.length c0_0):=(z_b BK126.out 0).trans rfl;have hcz34_1 : w31.cell? ⟨gb126,1,none⟩ = some (.int .i64 a0_1):=(z_b BK126.out 1).trans rfl;have hfz34_0:=z_4 BK126.out 0;have hfz34_1:=z_4 BK126.out 1)|(go_at_call 47;(with_reducible refine (impl_Pool_find.calls k2 _ _ l0_0 a0_1 ((rd_T41 l0_0 x19_2).f1) ((rd_T41 l0_0 x19_2).f2) t134 _ ?side1 ?side2 A29.out).mono ?_);(case side1 => exact Kd.C_below HR0_0.out zB);(case side2 => exact HC0_0.out);rintro e w35 ⟨rfl,hb⟩;have n0_:=z_a (z_d (g:=gb126) (o:=.cells #[.slice (some ad128) l0_0.length c0_0,.int .i64 a0_1] 29 (0,0)) (by (with_reducible repeat (first|refine y_b ?_ _|refine y_c ?_|refine y_d ?_ _));refine blk_far ?_ NB126_129.out _;(with_reducible repeat (first|refine y_b ?_ _|refine y_c ?_|refine y_d ?_ _));refine blk_far ?_ NB126_129.out _;(with_reducible repeat (first|refine y_b ?_ _|refine y_c ?_|refine y_d ?_ _));refine blk_far ?_ NB126_129.out _;(with_reducible repeat (first|refine y_b ?_ _|refine y_c ?_|refine y_d ?_ _));refine blk_far ?_ NB126_129.out _;(with_reducible repeat (first|refine y_b ?_ _|refine y_c ?_|refine y_d ?_ _));refine blk_far ?_ NB126_129.out _;(with_reducible repeat (first|refine y_b ?_ _|refine y_c ?_|refine y_d ?_ _));exact BK126.out) hb);have n1_:=z_a (z_d (g:=gb129) (o:=.cells #[.int .i64 ((rd_T41 l0_0 x19_2).f0),.int .i64 ((rd_T41 l0_0 x19_2).f1),.int .i64 ((rd_T41 l0_0 x19_2).f2),.int .i64 ((rd_T41 l0_0 x19_2).f3),.bool ((rd_T41 l0_0 x19_2).f4)] 41 (0,0)) (by (with_reducible repeat (first|refine y_b ?_ _|refine y_c ?_|refine y_d ?_ _));refine blk_put (cs:=#[.int .i64 ((rd_T41 l0_0 x19_2).f0),.int .i64 ((rd_T41 l0_0 x19_2).f1),.int .i64 ((rd_T41 l0_0 x19_2).f2),.int .i64 ((rd_T41 l0_0 x19_2).f3),.bool false]) ?_ 4 _ rfl;(with_reducible repeat (first|refine y_b ?_ _|refine y_c ?_|refine y_d ?_ _));refine blk_put (cs:=#[.int .i64 ((rd_T41 l0_0 x19_2).f0),.int .i64 ((rd_T41 l0_0 x19_2).f1),.int .i64 ((rd_T41 l0_0 x19_2).f2),.int .i64 0,.bool false]) ?_ 3 _ rfl;(with_reducible repeat (first|refine y_b ?_ _|refine y_c ?_|refine y_d ?_ _));refine blk_put (cs:=#[.int .i64 ((rd_T41 l0_0 x19_2).f0),.int .i64 ((rd_T41 l0_0 x19_2).f1),.int .i64 0,.int .i64 0,.bool false]) ?_ 2 _ rfl;(with_reducible repeat (first|refine y_b ?_ _|refine y_c ?_|refine y_d ?_ _));refine blk_put (cs:=#[.int .i64 ((rd_T41 l0_0 x19_2).f0),.int .i64 0,.int .i64 0,.int .i64 0,.bool false]) ?_ 1 _ rfl;(with_reducible repeat (first|refine y_b ?_ _|refine y_c ?_|refine y_d ?_ _));refine blk_put (cs:=#[.int .i64 0,.int .i64 0,.int .i64 0,.int .i64 0,.bool false]) ?_ 0 _ rfl;(with_reducible repeat (first|refine y_b ?_ _|refine y_c ?_|refine y_d ?_ _));exact BK129.out) hb);have n2_:=z_a (z_f zB hb);clear BK126 BK129 HB;have BK126:=n0_;have BK129:=n1_;have HB:=n2_;clear n0_ n1_ n2_;(try clear hb);(try clear hb2);(try clear hk);(try clear hi)))
               go_roundg k2
               case measure => have := HJ1.out; have := HK2.out; omega
               case rel => exact ⟨(wrap64 (x19_2 + 1)),(by first|rfl|(simp;done)|(simp [*];done)),H',⟨by have:=HJ1.out;have:=HK2.out;omega⟩,⟨by (with_reducible repeat (first|refine y_b ?_ _|refine y_c ?_|refine y_d ?_ _));exact BK126.out⟩,⟨zB⟩⟩
              ·rw [if_neg c30] at H;have c30b0 : (t134 == x19_2) = false:=beq_eq_false_iff_ne.mpr c30;have c30b1 : (t134 != x19_2) = true := bne_iff_ne.mpr c30;obtain rfl := Option.some.inj H;have p128 : 0 ≤ (x19_2 : Int):=z_9 (by first|(with_reducible assumption)|assumption);have q128 : x19_2 < (l0_0.length : Int):=z_9 (by first|(with_reducible assumption)|assumption);obtain ⟨ad128,e128,hx128_0,hx128_1,hx128_2,hx128_3,hx128_4⟩:=at_T41 HR0_0.out x19_2 p128 q128;cases e128;replace hx128_0:=(z_c HB.out hx128_0).trans hx128_0;replace hx128_1:=(z_c HB.out hx128_1).trans hx128_1;replace hx128_2:=(z_c HB.out hx128_2).trans hx128_2;replace hx128_3:=(z_c HB.out hx128_3).trans hx128_3;replace hx128_4:=(z_c HB.out hx128_4).trans hx128_4;replace p128 := eq_true p128;replace q128 := eq_true q128
               go_wp2_with (first|((with_reducible refine gate_dst (N:=4) rfl ?_);refine box_event ?hg (N:=4) ?hd (cs:=#[.int .i64 0,.int .i64 0,.int .i64 0,.int .i64 0,.bool false]) (t:=41) ?hr ?_;(case hd => rfl);(case hg => rfl);(case hr => first|(go_simp;done)|(go_simp;rfl));intro gb129 hg w36 hbox hb;have n0_:=z_a (z_d (g:=gb126) zK hb);have n1_:=z_a (z_f zB hb);have n2_:=z_a (hbox);have n3_:=z_a ((by rw [hg];exact (z_g zB) : w.heap.size ≤ gb129));have n4_:=z_a ((by rw [hg];exact (z_g zB) : w.heap.size ≤ gb129));have n5_:=z_a ((by rw [hg];exact Nat.ne_of_lt (blk_lt (g:=gb126) (o:=.cells #[.slice (some ad128) l0_0.length c0_0,.int .i64 a0_1] 29 (0,0)) zK) : gb126 ≠ gb129));have n6_:=z_a ((by rw [hg];exact Nat.ne_of_gt (blk_lt (g:=gb126) (o:=.cells #[.slice (some ad128) l0_0.length c0_0,.int .i64 a0_1] 29 (0,0)) zK) : gb129 ≠ gb126));clear BK126 HB;have BK126:=n0_;have HB:=n1_;have BK129:=n2_;have GW129:=n3_;have GE129:=n4_;have NB126_129:=n5_;have NB129_126:=n6_;clear n0_ n1_ n2_ n3_ n4_ n5_ n6_;clear hb hbox hg;have hnb37:=NB129_126.out;have hnc37:=NB126_129.out;have hcz38_0 : w36.cell? ⟨gb129,0,none⟩ = some (.int .i64 0):=(z_b BK129.out 0).trans rfl;have hcz38_1 : w36.cell? ⟨gb129,1,none⟩ = some (.int .i64 0):=(z_b BK129.out 1).trans rfl;have hcz38_2 : w36.cell? ⟨gb129,2,none⟩ = some (.int .i64 0):=(z_b BK129.out 2).trans rfl;have hcz38_3 : w36.cell? ⟨gb129,3,none⟩ = some (.int .i64 0):=(z_b BK129.out 3).trans rfl;have hcz38_4 : w36.cell? ⟨gb129,4,none⟩ = some (.bool false):=(z_b BK129.out 4).trans rfl;have hfz38_0:=z_4 BK129.out 0;have hfz38_1:=z_4 BK129.out 1;have hfz38_2:=z_4 BK129.out 2;have hfz38_3:=z_4 BK129.out 3;have hfz38_4:=z_4 BK129.out 4)|((with_reducible refine gate_callee (f:=46) rfl ?_);refine goesL_ (some 32) rfl rfl Try.func46 (by kernel_rfl) rfl #[.int .i64 ((rd_T41 l0_0 x19_2).f0)] rfl (by (try simp only [z_7,List.map_cons,List.map_nil]);first|done|rfl|(simp only [z_6,z_5];rfl)) ?_;(with_reducible refine (impl_house.calls ((rd_T41 l0_0 x19_2).f0) true _ A21.out).mono ?_);rintro e w' ⟨rfl,⟨nd,rfl⟩⟩;refine ⟨_,rfl,?_⟩)|(go_at_call 45;(with_reducible refine (impl_within.calls ((rd_T41 l0_0 x19_2).f1) 1 99999 true _ A23.out).mono ?_);rintro e w' ⟨rfl,⟨nd,rfl⟩⟩)|(go_at_call 45;(with_reducible refine (impl_within.calls ((rd_T41 l0_0 x19_2).f2) 0 23 true _ A25.out).mono ?_);rintro e w' ⟨rfl,⟨nd,rfl⟩⟩)|(go_at_call 45;(with_reducible refine (impl_within.calls ((rd_T41 l0_0 x19_2).f3) 0 99999 true _ A27.out).mono ?_);rintro e w' ⟨rfl,⟨nd,rfl⟩⟩;have hcz39_0 : w36.cell? ⟨gb126,0,none⟩ = some (.slice (some ad128) l0_0.length c0_0):=(z_b BK126.out 0).trans rfl;have hcz39_1 : w36.cell? ⟨gb126,1,none⟩ = some (.int .i64 a0_1):=(z_b BK126.out 1).trans rfl;have hfz39_0:=z_4 BK126.out 0;have hfz39_1:=z_4 BK126.out 1)|(go_at_call 47;(with_reducible refine (impl_Pool_find.calls k2 _ _ l0_0 a0_1 ((rd_T41 l0_0 x19_2).f1) ((rd_T41 l0_0 x19_2).f2) t134 _ ?side1 ?side2 A29.out).mono ?_);(case side1 => exact Kd.C_below HR0_0.out zB);(case side2 => exact HC0_0.out);rintro e w40 ⟨rfl,hb⟩;have n0_:=z_a (z_d (g:=gb126) (o:=.cells #[.slice (some ad128) l0_0.length c0_0,.int .i64 a0_1] 29 (0,0)) (by (with_reducible repeat (first|refine y_b ?_ _|refine y_c ?_|refine y_d ?_ _));refine blk_far ?_ NB126_129.out _;(with_reducible repeat (first|refine y_b ?_ _|refine y_c ?_|refine y_d ?_ _));refine blk_far ?_ NB126_129.out _;(with_reducible repeat (first|refine y_b ?_ _|refine y_c ?_|refine y_d ?_ _));refine blk_far ?_ NB126_129.out _;(with_reducible repeat (first|refine y_b ?_ _|refine y_c ?_|refine y_d ?_ _));refine blk_far ?_ NB126_129.out _;(with_reducible repeat (first|refine y_b ?_ _|refine y_c ?_|refine y_d ?_ _));refine blk_far ?_ NB126_129.out _;(with_reducible repeat (first|refine y_b ?_ _|refine y_c ?_|refine y_d ?_ _));exact BK126.out) hb);have n1_:=z_a (z_d (g:=gb129) (o:=.cells #[.int .i64 ((rd_T41 l0_0 x19_2).f0),.int .i64 ((rd_T41 l0_0 x19_2).f1),.int .i64 ((rd_T41 l0_0 x19_2).f2),.int .i64 ((rd_T41 l0_0 x19_2).f3),.bool ((rd_T41 l0_0 x19_2).f4)] 41 (0,0)) (by (with_reducible repeat (first|refine y_b ?_ _|refine y_c ?_|refine y_d ?_ _));refine blk_put (cs:=#[.int .i64 ((rd_T41 l0_0 x19_2).f0),.int .i64 ((rd_T41 l0_0 x19_2).f1),.int .i64 ((rd_T41 l0_0 x19_2).f2),.int .i64 ((rd_T41 l0_0 x19_2).f3),.bool false]) ?_ 4 _ rfl;(with_reducible repeat (first|refine y_b ?_ _|refine y_c ?_|refine y_d ?_ _));refine blk_put (cs:=#[.int .i64 ((rd_T41 l0_0 x19_2).f0),.int .i64 ((rd_T41 l0_0 x19_2).f1),.int .i64 ((rd_T41 l0_0 x19_2).f2),.int .i64 0,.bool false]) ?_ 3 _ rfl;(with_reducible repeat (first|refine y_b ?_ _|refine y_c ?_|refine y_d ?_ _));refine blk_put (cs:=#[.int .i64 ((rd_T41 l0_0 x19_2).f0),.int .i64 ((rd_T41 l0_0 x19_2).f1),.int .i64 0,.int .i64 0,.bool false]) ?_ 2 _ rfl;(with_reducible repeat (first|refine y_b ?_ _|refine y_c ?_|refine y_d ?_ _));refine blk_put (cs:=#[.int .i64 ((rd_T41 l0_0 x19_2).f0),.int .i64 0,.int .i64 0,.int .i64 0,.bool false]) ?_ 1 _ rfl;(with_reducible repeat (first|refine y_b ?_ _|refine y_c ?_|refine y_d ?_ _));refine blk_put (cs:=#[.int .i64 0,.int .i64 0,.int .i64 0,.int .i64 0,.bool false]) ?_ 0 _ rfl;(with_reducible repeat (first|refine y_b ?_ _|refine y_c ?_|refine y_d ?_ _));exact BK129.out) hb);have n2_:=z_a (z_f zB hb);clear BK126 BK129 HB;have BK126:=n0_;have BK129:=n1_;have HB:=n2_;clear n0_ n1_ n2_;(try clear hb);(try clear hb2);(try clear hk);(try clear hi)))
               go_ret
               exact ⟨by first|rfl|(simp [errW_none,errW_some] <;> rfl)|(simp [*,errW_none,errW_some] <;> rfl),zB⟩
             ·replace c28 := Bool.eq_false_iff.mpr c28;subst c28;have H1 : (some false) = some r:=by rw [if_neg (show ¬ (false = true) by decide)] at H;exact H
              clear H;have H := H1;clear H1;obtain rfl := Option.some.inj H;have p128 : 0 ≤ (x19_2 : Int):=z_9 (by first|(with_reducible assumption)|assumption);have q128 : x19_2 < (l0_0.length : Int):=z_9 (by first|(with_reducible assumption)|assumption);obtain ⟨ad128,e128,hx128_0,hx128_1,hx128_2,hx128_3,hx128_4⟩:=at_T41 HR0_0.out x19_2 p128 q128;cases e128;replace hx128_0:=(z_c HB.out hx128_0).trans hx128_0;replace hx128_1:=(z_c HB.out hx128_1).trans hx128_1;replace hx128_2:=(z_c HB.out hx128_2).trans hx128_2;replace hx128_3:=(z_c HB.out hx128_3).trans hx128_3;replace hx128_4:=(z_c HB.out hx128_4).trans hx128_4;replace p128 := eq_true p128;replace q128 := eq_true q128
              go_wp2_with (first|((with_reducible refine gate_dst (N:=4) rfl ?_);refine box_event ?hg (N:=4) ?hd (cs:=#[.int .i64 0,.int .i64 0,.int .i64 0,.int .i64 0,.bool false]) (t:=41) ?hr ?_;(case hd => rfl);(case hg => rfl);(case hr => first|(go_simp;done)|(go_simp;rfl));intro gb129 hg w41 hbox hb;have n0_:=z_a (z_d (g:=gb126) zK hb);have n1_:=z_a (z_f zB hb);have n2_:=z_a (hbox);have n3_:=z_a ((by rw [hg];exact (z_g zB) : w.heap.size ≤ gb129));have n4_:=z_a ((by rw [hg];exact (z_g zB) : w.heap.size ≤ gb129));have n5_:=z_a ((by rw [hg];exact Nat.ne_of_lt (blk_lt (g:=gb126) (o:=.cells #[.slice (some ad128) l0_0.length c0_0,.int .i64 a0_1] 29 (0,0)) zK) : gb126 ≠ gb129));have n6_:=z_a ((by rw [hg];exact Nat.ne_of_gt (blk_lt (g:=gb126) (o:=.cells #[.slice (some ad128) l0_0.length c0_0,.int .i64 a0_1] 29 (0,0)) zK) : gb129 ≠ gb126));clear BK126 HB;have BK126:=n0_;have HB:=n1_;have BK129:=n2_;have GW129:=n3_;have GE129:=n4_;have NB126_129:=n5_;have NB129_126:=n6_;clear n0_ n1_ n2_ n3_ n4_ n5_ n6_;clear hb hbox hg;have hnb42:=NB129_126.out;have hnc42:=NB126_129.out;have hcz43_0 : w41.cell? ⟨gb129,0,none⟩ = some (.int .i64 0):=(z_b BK129.out 0).trans rfl;have hcz43_1 : w41.cell? ⟨gb129,1,none⟩ = some (.int .i64 0):=(z_b BK129.out 1).trans rfl;have hcz43_2 : w41.cell? ⟨gb129,2,none⟩ = some (.int .i64 0):=(z_b BK129.out 2).trans rfl;have hcz43_3 : w41.cell? ⟨gb129,3,none⟩ = some (.int .i64 0):=(z_b BK129.out 3).trans rfl;have hcz43_4 : w41.cell? ⟨gb129,4,none⟩ = some (.bool false):=(z_b BK129.out 4).trans rfl;have hfz43_0:=z_4 BK129.out 0;have hfz43_1:=z_4 BK129.out 1;have hfz43_2:=z_4 BK129.out 2;have hfz43_3:=z_4 BK129.out 3;have hfz43_4:=z_4 BK129.out 4)|((with_reducible refine gate_callee (f:=46) rfl ?_);refine goesL_ (some 32) rfl rfl Try.func46 (by kernel_rfl) rfl #[.int .i64 ((rd_T41 l0_0 x19_2).f0)] rfl (by (try simp only [z_7,List.map_cons,List.map_nil]);first|done|rfl|(simp only [z_6,z_5];rfl)) ?_;(with_reducible refine (impl_house.calls ((rd_T41 l0_0 x19_2).f0) true _ A21.out).mono ?_);rintro e w' ⟨rfl,⟨nd,rfl⟩⟩;refine ⟨_,rfl,?_⟩)|(go_at_call 45;(with_reducible refine (impl_within.calls ((rd_T41 l0_0 x19_2).f1) 1 99999 true _ A23.out).mono ?_);rintro e w' ⟨rfl,⟨nd,rfl⟩⟩)|(go_at_call 45;(with_reducible refine (impl_within.calls ((rd_T41 l0_0 x19_2).f2) 0 23 true _ A25.out).mono ?_);rintro e w' ⟨rfl,⟨nd,rfl⟩⟩)|(go_at_call 45;(with_reducible refine (impl_within.calls ((rd_T41 l0_0 x19_2).f3) 0 99999 false _ A27.out).mono ?_);rintro e w' ⟨rfl,⟨nd,rfl⟩⟩))
              go_ret
              exact ⟨by first|rfl|(simp [errW_none,errW_some] <;> rfl)|(simp [*,errW_none,errW_some] <;> rfl),zB⟩
            ·replace c26 := Bool.eq_false_iff.mpr c26;subst c26;have H1 : (some false) = some r:=by rw [if_neg (show ¬ (false = true) by decide)] at H;exact H
             clear H;have H := H1;clear H1;obtain rfl := Option.some.inj H;have p128 : 0 ≤ (x19_2 : Int):=z_9 (by first|(with_reducible assumption)|assumption);have q128 : x19_2 < (l0_0.length : Int):=z_9 (by first|(with_reducible assumption)|assumption);obtain ⟨ad128,e128,hx128_0,hx128_1,hx128_2,hx128_3,hx128_4⟩:=at_T41 HR0_0.out x19_2 p128 q128;cases e128;replace hx128_0:=(z_c HB.out hx128_0).trans hx128_0;replace hx128_1:=(z_c HB.out hx128_1).trans hx128_1;replace hx128_2:=(z_c HB.out hx128_2).trans hx128_2;replace hx128_3:=(z_c HB.out hx128_3).trans hx128_3;replace hx128_4:=(z_c HB.out hx128_4).trans hx128_4;replace p128 := eq_true p128;replace q128 := eq_true q128
             go_wp2_with (first|((with_reducible refine gate_dst (N:=4) rfl ?_);refine box_event ?hg (N:=4) ?hd (cs:=#[.int .i64 0,.int .i64 0,.int .i64 0,.int .i64 0,.bool false]) (t:=41) ?hr ?_;(case hd => rfl);(case hg => rfl);(case hr => first|(go_simp;done)|(go_simp;rfl));intro gb129 hg w44 hbox hb;have n0_:=z_a (z_d (g:=gb126) zK hb);have n1_:=z_a (z_f zB hb);have n2_:=z_a (hbox);have n3_:=z_a ((by rw [hg];exact (z_g zB) : w.heap.size ≤ gb129));have n4_:=z_a ((by rw [hg];exact (z_g zB) : w.heap.size ≤ gb129));have n5_:=z_a ((by rw [hg];exact Nat.ne_of_lt (blk_lt (g:=gb126) (o:=.cells #[.slice (some ad128) l0_0.length c0_0,.int .i64 a0_1] 29 (0,0)) zK) : gb126 ≠ gb129));have n6_:=z_a ((by rw [hg];exact Nat.ne_of_gt (blk_lt (g:=gb126) (o:=.cells #[.slice (some ad128) l0_0.length c0_0,.int .i64 a0_1] 29 (0,0)) zK) : gb129 ≠ gb126));clear BK126 HB;have BK126:=n0_;have HB:=n1_;have BK129:=n2_;have GW129:=n3_;have GE129:=n4_;have NB126_129:=n5_;have NB129_126:=n6_;clear n0_ n1_ n2_ n3_ n4_ n5_ n6_;clear hb hbox hg;have hnb45:=NB129_126.out;have hnc45:=NB126_129.out;have hcz46_0 : w44.cell? ⟨gb129,0,none⟩ = some (.int .i64 0):=(z_b BK129.out 0).trans rfl;have hcz46_1 : w44.cell? ⟨gb129,1,none⟩ = some (.int .i64 0):=(z_b BK129.out 1).trans rfl;have hcz46_2 : w44.cell? ⟨gb129,2,none⟩ = some (.int .i64 0):=(z_b BK129.out 2).trans rfl;have hcz46_3 : w44.cell? ⟨gb129,3,none⟩ = some (.int .i64 0):=(z_b BK129.out 3).trans rfl;have hcz46_4 : w44.cell? ⟨gb129,4,none⟩ = some (.bool false):=(z_b BK129.out 4).trans rfl;have hfz46_0:=z_4 BK129.out 0;have hfz46_1:=z_4 BK129.out 1;have hfz46_2:=z_4 BK129.out 2;have hfz46_3:=z_4 BK129.out 3;have hfz46_4:=z_4 BK129.out 4)|((with_reducible refine gate_callee (f:=46) rfl ?_);refine goesL_ (some 32) rfl rfl Try.func46 (by kernel_rfl) rfl #[.int .i64 ((rd_T41 l0_0 x19_2).f0)] rfl (by (try simp only [z_7,List.map_cons,List.map_nil]);first|done|rfl|(simp only [z_6,z_5];rfl)) ?_;(with_reducible refine (impl_house.calls ((rd_T41 l0_0 x19_2).f0) true _ A21.out).mono ?_);rintro e w' ⟨rfl,⟨nd,rfl⟩⟩;refine ⟨_,rfl,?_⟩)|(go_at_call 45;(with_reducible refine (impl_within.calls ((rd_T41 l0_0 x19_2).f1) 1 99999 true _ A23.out).mono ?_);rintro e w' ⟨rfl,⟨nd,rfl⟩⟩)|(go_at_call 45;(with_reducible refine (impl_within.calls ((rd_T41 l0_0 x19_2).f2) 0 23 false _ A25.out).mono ?_);rintro e w' ⟨rfl,⟨nd,rfl⟩⟩))
             go_ret
             exact ⟨by first|rfl|(simp [errW_none,errW_some] <;> rfl)|(simp [*,errW_none,errW_some] <;> rfl),zB⟩
           ·replace c24 := Bool.eq_false_iff.mpr c24;subst c24;have H1 : (some false) = some r:=by rw [if_neg (show ¬ (false = true) by decide)] at H;exact H
            clear H;have H := H1;clear H1;obtain rfl := Option.some.inj H;have p128 : 0 ≤ (x19_2 : Int):=z_9 (by first|(with_reducible assumption)|assumption);have q128 : x19_2 < (l0_0.length : Int):=z_9 (by first|(with_reducible assumption)|assumption);obtain ⟨ad128,e128,hx128_0,hx128_1,hx128_2,hx128_3,hx128_4⟩:=at_T41 HR0_0.out x19_2 p128 q128;cases e128;replace hx128_0:=(z_c HB.out hx128_0).trans hx128_0;replace hx128_1:=(z_c HB.out hx128_1).trans hx128_1;replace hx128_2:=(z_c HB.out hx128_2).trans hx128_2;replace hx128_3:=(z_c HB.out hx128_3).trans hx128_3;replace hx128_4:=(z_c HB.out hx128_4).trans hx128_4;replace p128 := eq_true p128;replace q128 := eq_true q128
            go_wp2_with (first|((with_reducible refine gate_dst (N:=4) rfl ?_);refine box_event ?hg (N:=4) ?hd (cs:=#[.int .i64 0,.int .i64 0,.int .i64 0,.int .i64 0,.bool false]) (t:=41) ?hr ?_;(case hd => rfl);(case hg => rfl);(case hr => first|(go_simp;done)|(go_simp;rfl));intro gb129 hg w47 hbox hb;have n0_:=z_a (z_d (g:=gb126) zK hb);have n1_:=z_a (z_f zB hb);have n2_:=z_a (hbox);have n3_:=z_a ((by rw [hg];exact (z_g zB) : w.heap.size ≤ gb129));have n4_:=z_a ((by rw [hg];exact (z_g zB) : w.heap.size ≤ gb129));have n5_:=z_a ((by rw [hg];exact Nat.ne_of_lt (blk_lt (g:=gb126) (o:=.cells #[.slice (some ad128) l0_0.length c0_0,.int .i64 a0_1] 29 (0,0)) zK) : gb126 ≠ gb129));have n6_:=z_a ((by rw [hg];exact Nat.ne_of_gt (blk_lt (g:=gb126) (o:=.cells #[.slice (some ad128) l0_0.length c0_0,.int .i64 a0_1] 29 (0,0)) zK) : gb129 ≠ gb126));clear BK126 HB;have BK126:=n0_;have HB:=n1_;have BK129:=n2_;have GW129:=n3_;have GE129:=n4_;have NB126_129:=n5_;have NB129_126:=n6_;clear n0_ n1_ n2_ n3_ n4_ n5_ n6_;clear hb hbox hg;have hnb48:=NB129_126.out;have hnc48:=NB126_129.out;have hcz49_0 : w47.cell? ⟨gb129,0,none⟩ = some (.int .i64 0):=(z_b BK129.out 0).trans rfl;have hcz49_1 : w47.cell? ⟨gb129,1,none⟩ = some (.int .i64 0):=(z_b BK129.out 1).trans rfl;have hcz49_2 : w47.cell? ⟨gb129,2,none⟩ = some (.int .i64 0):=(z_b BK129.out 2).trans rfl;have hcz49_3 : w47.cell? ⟨gb129,3,none⟩ = some (.int .i64 0):=(z_b BK129.out 3).trans rfl;have hcz49_4 : w47.cell? ⟨gb129,4,none⟩ = some (.bool false):=(z_b BK129.out 4).trans rfl;have hfz49_0:=z_4 BK129.out 0;have hfz49_1:=z_4 BK129.out 1;have hfz49_2:=z_4 BK129.out 2;have hfz49_3:=z_4 BK129.out 3;have hfz49_4:=z_4 BK129.out 4)|((with_reducible refine gate_callee (f:=46) rfl ?_);refine goesL_ (some 32) rfl rfl Try.func46 (by kernel_rfl) rfl #[.int .i64 ((rd_T41 l0_0 x19_2).f0)] rfl (by (try simp only [z_7,List.map_cons,List.map_nil]);first|done|rfl|(simp only [z_6,z_5];rfl)) ?_;(with_reducible refine (impl_house.calls ((rd_T41 l0_0 x19_2).f0) true _ A21.out).mono ?_);rintro e w' ⟨rfl,⟨nd,rfl⟩⟩;refine ⟨_,rfl,?_⟩)|(go_at_call 45;(with_reducible refine (impl_within.calls ((rd_T41 l0_0 x19_2).f1) 1 99999 false _ A23.out).mono ?_);rintro e w' ⟨rfl,⟨nd,rfl⟩⟩))
            go_ret
            exact ⟨by first|rfl|(simp [errW_none,errW_some] <;> rfl)|(simp [*,errW_none,errW_some] <;> rfl),zB⟩
          ·replace c22 := Bool.eq_false_iff.mpr c22;subst c22;have H1 : (some false) = some r:=by rw [if_neg (show ¬ (false = true) by decide)] at H;exact H
           clear H;have H := H1;clear H1;obtain rfl := Option.some.inj H;have p128 : 0 ≤ (x19_2 : Int):=z_9 (by first|(with_reducible assumption)|assumption);have q128 : x19_2 < (l0_0.length : Int):=z_9 (by first|(with_reducible assumption)|assumption);obtain ⟨ad128,e128,hx128_0,hx128_1,hx128_2,hx128_3,hx128_4⟩:=at_T41 HR0_0.out x19_2 p128 q128;cases e128;replace hx128_0:=(z_c HB.out hx128_0).trans hx128_0;replace hx128_1:=(z_c HB.out hx128_1).trans hx128_1;replace hx128_2:=(z_c HB.out hx128_2).trans hx128_2;replace hx128_3:=(z_c HB.out hx128_3).trans hx128_3;replace hx128_4:=(z_c HB.out hx128_4).trans hx128_4;replace p128 := eq_true p128;replace q128 := eq_true q128
           go_wp2_with (first|((with_reducible refine gate_dst (N:=4) rfl ?_);refine box_event ?hg (N:=4) ?hd (cs:=#[.int .i64 0,.int .i64 0,.int .i64 0,.int .i64 0,.bool false]) (t:=41) ?hr ?_;(case hd => rfl);(case hg => rfl);(case hr => first|(go_simp;done)|(go_simp;rfl));intro gb129 hg w50 hbox hb;have n0_:=z_a (z_d (g:=gb126) zK hb);have n1_:=z_a (z_f zB hb);have n2_:=z_a (hbox);have n3_:=z_a ((by rw [hg];exact (z_g zB) : w.heap.size ≤ gb129));have n4_:=z_a ((by rw [hg];exact (z_g zB) : w.heap.size ≤ gb129));have n5_:=z_a ((by rw [hg];exact Nat.ne_of_lt (blk_lt (g:=gb126) (o:=.cells #[.slice (some ad128) l0_0.length c0_0,.int .i64 a0_1] 29 (0,0)) zK) : gb126 ≠ gb129));have n6_:=z_a ((by rw [hg];exact Nat.ne_of_gt (blk_lt (g:=gb126) (o:=.cells #[.slice (some ad128) l0_0.length c0_0,.int .i64 a0_1] 29 (0,0)) zK) : gb129 ≠ gb126));clear BK126 HB;have BK126:=n0_;have HB:=n1_;have BK129:=n2_;have GW129:=n3_;have GE129:=n4_;have NB126_129:=n5_;have NB129_126:=n6_;clear n0_ n1_ n2_ n3_ n4_ n5_ n6_;clear hb hbox hg;have hnb51:=NB129_126.out;have hnc51:=NB126_129.out;have hcz52_0 : w50.cell? ⟨gb129,0,none⟩ = some (.int .i64 0):=(z_b BK129.out 0).trans rfl;have hcz52_1 : w50.cell? ⟨gb129,1,none⟩ = some (.int .i64 0):=(z_b BK129.out 1).trans rfl;have hcz52_2 : w50.cell? ⟨gb129,2,none⟩ = some (.int .i64 0):=(z_b BK129.out 2).trans rfl;have hcz52_3 : w50.cell? ⟨gb129,3,none⟩ = some (.int .i64 0):=(z_b BK129.out 3).trans rfl;have hcz52_4 : w50.cell? ⟨gb129,4,none⟩ = some (.bool false):=(z_b BK129.out 4).trans rfl;have hfz52_0:=z_4 BK129.out 0;have hfz52_1:=z_4 BK129.out 1;have hfz52_2:=z_4 BK129.out 2;have hfz52_3:=z_4 BK129.out 3;have hfz52_4:=z_4 BK129.out 4)|((with_reducible refine gate_callee (f:=46) rfl ?_);refine goesL_ (some 32) rfl rfl Try.func46 (by kernel_rfl) rfl #[.int .i64 ((rd_T41 l0_0 x19_2).f0)] rfl (by (try simp only [z_7,List.map_cons,List.map_nil]);first|done|rfl|(simp only [z_6,z_5];rfl)) ?_;(with_reducible refine (impl_house.calls ((rd_T41 l0_0 x19_2).f0) false _ A21.out).mono ?_);rintro e w' ⟨rfl,⟨nd,rfl⟩⟩;refine ⟨_,rfl,?_⟩))
           go_ret
           exact ⟨by first|rfl|(simp [errW_none,errW_some] <;> rfl)|(simp [*,errW_none,errW_some] <;> rfl),zB⟩
        ·rw [if_neg c12] at H;exact absurd H (by simp)
       ·rw [if_neg c11] at H;exact absurd H (by simp)
      ·rw [if_neg c10] at H;have c10b0 : decide (x19_2 < (l0_0.length : Int)) = false:=decide_eq_false c10;clear c10;have H' := z_a H;clear H
       go_wp2
       go_loopg [63] k2 (fun kq v63 w' => ∃ (x63_3 : Int),v63 = .int .i64 x63_3 ∧ Aside0 (impl_PoolOk.l1 kq x63_3 l0_0 a0_1 = some r) ∧ Aside0 (kq ≤ k2) ∧ Aside0 (w'.heap[gb126]? = some (.cells #[(.slice A0_0 l0_0.length c0_0),.int .i64 a0_1] 29 (0,0))) ∧ Aside0 (Below w.heap.size w w'))
       case atStart => exact ⟨(0),(by first|rfl|(simp;done)|(simp [*];done)),H',⟨Nat.le_refl _⟩,⟨by (with_reducible repeat (first|refine y_b ?_ _|refine y_c ?_|refine y_d ?_ _));exact BK126.out⟩,⟨zB⟩⟩
       case round =>
        clear H'
        try clear c1
        try clear p1
        try clear q1
        try clear hx1
        try clear c2
        try clear p2
        try clear c3
        try clear c4
        try clear c4b0
        try clear c4b1
        try clear c5
        try clear p6
        try clear c8
        try clear c10
        try clear c10b0
        try clear c11
        try clear c11b0
        try clear c12
        try clear c12b0
        try clear p12
        try clear q12
        try clear hx12
        try clear c13
        try clear c13b0
        try clear c13b1
        try clear c14
        try clear c14b0
        try clear c16
        try clear c18
        try clear c19
        try clear c22
        try clear c24
        try clear c26
        try clear c28
        try clear c30
        try clear c30b0
        try clear c30b1
        try clear c32
        try clear c37
        try clear c42
        try clear c45
        try clear c46
        try clear c48
        try clear c51
        try clear hcz17_0
        try clear hcz17_1
        try clear hcz17_2
        try clear hcz17_3
        try clear hcz17_4
        try clear hcz20_0
        try clear hcz20_1
        try clear hcz20_2
        try clear hcz20_3
        try clear hcz20_4
        try clear hcz33_0
        try clear hcz33_1
        try clear hcz33_2
        try clear hcz33_3
        try clear hcz33_4
        try clear hcz34_0
        try clear hcz34_1
        try clear hcz38_0
        try clear hcz38_1
        try clear hcz38_2
        try clear hcz38_3
        try clear hcz38_4
        try clear hcz39_0
        try clear hcz39_1
        try clear hcz43_0
        try clear hcz43_1
        try clear hcz43_2
        try clear hcz43_3
        try clear hcz43_4
        try clear hcz46_0
        try clear hcz46_1
        try clear hcz46_2
        try clear hcz46_3
        try clear hcz46_4
        try clear hcz49_0
        try clear hcz49_1
        try clear hcz49_2
        try clear hcz49_3
        try clear hcz49_4
        try clear hcz52_0
        try clear hcz52_1
        try clear hcz52_2
        try clear hcz52_3
        try clear hcz52_4
        try clear hcz6_0
        try clear hcz6_1
        try clear hcz7_0
        try clear hcz7_1
        try clear hcz9_0
        try clear hcz9_1
        try clear hfz17_0
        try clear hfz17_1
        try clear hfz17_2
        try clear hfz17_3
        try clear hfz17_4
        try clear hfz20_0
        try clear hfz20_1
        try clear hfz20_2
        try clear hfz20_3
        try clear hfz20_4
        try clear hfz33_0
        try clear hfz33_1
        try clear hfz33_2
        try clear hfz33_3
        try clear hfz33_4
        try clear hfz34_0
        try clear hfz34_1
        try clear hfz38_0
        try clear hfz38_1
        try clear hfz38_2
        try clear hfz38_3
        try clear hfz38_4
        try clear hfz39_0
        try clear hfz39_1
        try clear hfz43_0
        try clear hfz43_1
        try clear hfz43_2
        try clear hfz43_3
        try clear hfz43_4
        try clear hfz46_0
        try clear hfz46_1
        try clear hfz46_2
        try clear hfz46_3
        try clear hfz46_4
        try clear hfz49_0
        try clear hfz49_1
        try clear hfz49_2
        try clear hfz49_3
        try clear hfz49_4
        try clear hfz52_0
        try clear hfz52_1
        try clear hfz52_2
        try clear hfz52_3
        try clear hfz52_4
        try clear hfz6_0
        try clear hfz6_1
        try clear hfz7_0
        try clear hfz7_1
        try clear hfz9_0
        try clear hfz9_1
        try clear hx128_0
        try clear hx128_1
        try clear hx128_2
        try clear hx128_3
        try clear hx128_4
        try clear p128
        try clear p2
        try clear q128
        obtain ⟨x63_3, rfl, HA, HK3, BK126, HB⟩ := hrel;cases gk with
        | zero => exact absurd HA.out (by simp [impl_PoolOk.l1])
        | succ k3 =>
         have H := HA.out;clear HA;simp only [impl_PoolOk.l1] at H
         by_cases c53 : x63_3 < 2
         ·rw [if_pos c53] at H;have c53b0 : decide (x63_3 < 2) = true := z_e c53;clear c53;replace H := z_8 H;obtain ⟨t135, A540, H⟩ := H;replace H : (if t135 > 5 then (some false) else (impl_PoolOk.l1 k3 (wrap64 (x63_3 + 1)) l0_0 a0_1)) = some r:=H;have A54 := z_a A540;clear A540
          by_cases c55 : t135 > 5
          ·rw [if_pos c55] at H;have c55b0 : decide (5 < t135) = true := z_e c55;clear c55;obtain rfl := Option.some.inj H;have hcz56_0 : wr.cell? ⟨gb126,0,none⟩ = some (.slice A0_0 l0_0.length c0_0):=(z_b BK126.out 0).trans rfl;have hcz56_1 : wr.cell? ⟨gb126,1,none⟩ = some (.int .i64 a0_1):=(z_b BK126.out 1).trans rfl;have hfz56_0 := z_4 BK126.out 0;have hfz56_1 := z_4 BK126.out 1
           go_wp2_with (first|((with_reducible refine gate_callee (f:=48) rfl ?_);refine goesL_ (some 68) rfl rfl Try.func48 (by kernel_rfl) rfl #[.agg #[.slice A0_0 l0_0.length c0_0,.int .i64 a0_1],.int .i64 x63_3] rfl (by (try simp only [z_7,List.map_cons,List.map_nil]);first|done|rfl|(simp only [z_6,z_5];rfl)) ?_;(with_reducible refine (impl_Pool_of.calls k3 _ _ l0_0 a0_1 x63_3 t135 _ ?side1 ?side2 A54.out).mono ?_);(case side1 => repeat (first|exact (Kd.C_below HR0_0.out HB.out)|(with_reducible refine y_o ?_ _)|(with_reducible refine y_p ?_ _)|(with_reducible refine y_q ?_)));(case side2 => exact HC0_0.out);rintro e w57 ⟨rfl,hb⟩;refine ⟨_,rfl,?_⟩;have n0_:=z_a (z_d (g:=gb126) zK hb);have n1_:=z_a (z_f zB hb);clear BK126 HB;have BK126:=n0_;have HB:=n1_;clear n0_ n1_;(try clear hb);(try clear hb2);(try clear hk);(try clear hi)))
           go_ret
           exact ⟨by first|rfl|(simp [errW_none,errW_some] <;> rfl)|(simp [*,errW_none,errW_some] <;> rfl),zB⟩
          ·rw [if_neg c55] at H;have c55b0 : decide (5 < t135) = false:=decide_eq_false c55;clear c55;have H' := z_a H;clear H;have hcz58_0 : wr.cell? ⟨gb126,0,none⟩ = some (.slice A0_0 l0_0.length c0_0):=(z_b BK126.out 0).trans rfl;have hcz58_1 : wr.cell? ⟨gb126,1,none⟩ = some (.int .i64 a0_1):=(z_b BK126.out 1).trans rfl;have hfz58_0 := z_4 BK126.out 0;have hfz58_1 := z_4 BK126.out 1
           go_wp2_with (first|((with_reducible refine gate_callee (f:=48) rfl ?_);refine goesL_ (some 68) rfl rfl Try.func48 (by kernel_rfl) rfl #[.agg #[.slice A0_0 l0_0.length c0_0,.int .i64 a0_1],.int .i64 x63_3] rfl (by (try simp only [z_7,List.map_cons,List.map_nil]);first|done|rfl|(simp only [z_6,z_5];rfl)) ?_;(with_reducible refine (impl_Pool_of.calls k3 _ _ l0_0 a0_1 x63_3 t135 _ ?side1 ?side2 A54.out).mono ?_);(case side1 => repeat (first|exact (Kd.C_below HR0_0.out HB.out)|(with_reducible refine y_o ?_ _)|(with_reducible refine y_p ?_ _)|(with_reducible refine y_q ?_)));(case side2 => exact HC0_0.out);rintro e w59 ⟨rfl,hb⟩;refine ⟨_,rfl,?_⟩;have n0_:=z_a (z_d (g:=gb126) zK hb);have n1_:=z_a (z_f zB hb);clear BK126 HB;have BK126:=n0_;have HB:=n1_;clear n0_ n1_;(try clear hb);(try clear hb2);(try clear hk);(try clear hi)))
           go_roundg k3
           case measure => have:=HJ1.out;have:=HK2.out;have:=HK3.out;omega
           case rel => exact ⟨(wrap64 (x63_3 + 1)),(by first|rfl|(simp;done)|(simp [*];done)),H',⟨by have:=HJ1.out;have:=HK2.out;have:=HK3.out;omega⟩,⟨by (with_reducible repeat (first|refine y_b ?_ _|refine y_c ?_|refine y_d ?_ _));exact BK126.out⟩,⟨zB⟩⟩
         ·rw [if_neg c53] at H;have c53b0 : decide (x63_3 < 2) = false:=decide_eq_false c53;clear c53;obtain rfl := Option.some.inj H
          go_wp2
          go_ret
          exact ⟨by first|rfl|(simp [errW_none,errW_some] <;> rfl)|(simp [*,errW_none,errW_some] <;> rfl),zB⟩

end Go.Proofs.Ytlfnjkcgefcidaa.PFnPoolDrop
