-- Written by a program of this session over the print's form. Lean checks it.
import Derived.Test.YtlfnjkcgefcidaaPFnPoolDropx0
import Derived.Test.YtlfnjkcgefcidaaPFnPoolDropx2
import Derived.Test.YtlfnjkcgefcidaaPFnPoolDropx3
namespace Go.Proofs.Ytlfnjkcgefcidaa.PFnPoolDrop
open Go.RowKit Go.Proofs.YtlfnjkcgefcidaaW.PrintWords Go.Proofs.YtlfnjkcgefcidaaW.PrintLast Go.Proofs.YtlfnjkcgefcidaaW.PrintMore
attribute [local go_sem] max2_int min2_int max_two min_two max_three min_three max_four min_four   -- for this text's walks alone
set_option linter.unusedVariables false
set_option linter.unusedSimpArgs false

/-! ### spec_PoolOk: function 16 -/
mutual
def spec_PoolOk.j0 : Nat → Bool → List (S41) → Int → Option (Bool)
 | 0, _, _, _ => none
 | k + 1, x15, x110000, x110001 => if x15 = true then (some false) else (spec_PoolOk.l0 k 0 x110000 x110001)
def spec_PoolOk.l0 : Nat → Int → List (S41) → Int → Option (Bool)
 | 0, _, _, _ => none
 | k + 1, x3, x110000, x110001 => if x3 < (x110000.length : Int) then (if 0 ≤ x3 then ((spec_l10Ok.f ((rd_T41 x110000 x3).f0) ((rd_T41 x110000 x3).f1) ((rd_T41 x110000 x3).f2) ((rd_T41 x110000 x3).f3) ((rd_T41 x110000 x3).f4)).bind fun t112 => (if t112 = true then (spec_PoolOk.l1 k x3 0 x110000 x110001) else (some false))) else (none)) else (spec_PoolOk.l2 k 0 x110000 x110001)
def spec_PoolOk.l1 : Nat → Int → Int → List (S41) → Int → Option (Bool)
 | 0, _, _, _, _ => none
 | k + 1, x3, x4, x110000, x110001 => if x4 < x3 then (if 0 ≤ x3 then (if x3 < (x110000.length : Int) then (if ((rd_T41 x110000 x3).f1) > 0 then (if 0 ≤ x4 then (if x4 < (x110000.length : Int) then (if ((rd_T41 x110000 x3).f1) = ((rd_T41 x110000 x4).f1) then (if ((rd_T41 x110000 x3).f2) = ((rd_T41 x110000 x4).f2) then (some false) else (spec_PoolOk.l1 k x3 (wrap64 (x4 + 1)) x110000 x110001)) else (spec_PoolOk.l1 k x3 (wrap64 (x4 + 1)) x110000 x110001)) else (none)) else (none)) else (spec_PoolOk.l1 k x3 (wrap64 (x4 + 1)) x110000 x110001)) else (none)) else (none)) else (spec_PoolOk.l0 k (wrap64 (x3 + 1)) x110000 x110001)
def spec_PoolOk.l2 : Nat → Int → List (S41) → Int → Option (Bool)
 | 0, _, _, _ => none
 | k + 1, x5, x110000, x110001 => if x5 < 2 then ((spec_l10Of.f k x110000 x110001 x5).bind fun t118 => (if t118 > 5 then (some false) else (spec_PoolOk.l2 k (wrap64 (x5 + 1)) x110000 x110001))) else (some true)
end
def spec_PoolOk.f (k : Nat) (l0_0 : List (S41)) (a0_1 : Int) : Option (Bool) := if (l0_0.length : Int) = 8 then ((spec_l1In.f a0_1 0 7).bind fun t110 => (spec_PoolOk.j0 k (!t110) l0_0 a0_1)) else (spec_PoolOk.j0 k true l0_0 a0_1)
theorem spec_PoolOk.mono_l : ∀ k, (∀ y0 y1 y2, LeO (spec_PoolOk.j0 k y0 y1 y2) (spec_PoolOk.j0 (k + 1) y0 y1 y2)) ∧ (∀ y0 y1 y2, LeO (spec_PoolOk.l0 k y0 y1 y2) (spec_PoolOk.l0 (k + 1) y0 y1 y2)) ∧ (∀ y0 y1 y2 y3, LeO (spec_PoolOk.l1 k y0 y1 y2 y3) (spec_PoolOk.l1 (k + 1) y0 y1 y2 y3)) ∧ (∀ y0 y1 y2, LeO (spec_PoolOk.l2 k y0 y1 y2) (spec_PoolOk.l2 (k + 1) y0 y1 y2))
 | 0 => ⟨fun _ _ _ r h => by simp [spec_PoolOk.j0] at h, fun _ _ _ r h => by simp [spec_PoolOk.l0] at h, fun _ _ _ _ r h => by simp [spec_PoolOk.l1] at h, fun _ _ _ r h => by simp [spec_PoolOk.l2] at h⟩
 | k + 1 => by
  obtain ⟨ih0, ih1, ih2, ih3⟩ := spec_PoolOk.mono_l k
  refine ⟨?_, ?_, ?_, ?_⟩
  ·intro y0 y1 y2
   unfold spec_PoolOk.j0
   repeat' first
   | (with_reducible exact ih0 _ _ _)
   | (with_reducible exact ih1 _ _ _)
   | (with_reducible exact ih2 _ _ _ _)
   | (with_reducible exact ih3 _ _ _)
   | (with_reducible exact spec_l10Of.mono _ _ _ _)
   | (with_reducible exact LeO.refl _)
   | (with_reducible exact LeO.none _)
   | (with_reducible refine LeO.ite ?_ ?_)
   | (with_reducible refine LeO.bind ?_ (fun _ => ?_))
   | exact ih0 _ _ _
   | exact ih1 _ _ _
   | exact ih2 _ _ _ _
   | exact ih3 _ _ _
   | exact spec_l10Of.mono _ _ _ _
   | exact LeO.none _
   | refine LeO.ite ?_ ?_
   | refine LeO.bind ?_ (fun _ => ?_)
  ·intro y0 y1 y2
   unfold spec_PoolOk.l0
   repeat' first
   | (with_reducible exact ih0 _ _ _)
   | (with_reducible exact ih1 _ _ _)
   | (with_reducible exact ih2 _ _ _ _)
   | (with_reducible exact ih3 _ _ _)
   | (with_reducible exact spec_l10Of.mono _ _ _ _)
   | (with_reducible exact LeO.refl _)
   | (with_reducible exact LeO.none _)
   | (with_reducible refine LeO.ite ?_ ?_)
   | (with_reducible refine LeO.bind ?_ (fun _ => ?_))
   | exact ih0 _ _ _
   | exact ih1 _ _ _
   | exact ih2 _ _ _ _
   | exact ih3 _ _ _
   | exact spec_l10Of.mono _ _ _ _
   | exact LeO.none _
   | refine LeO.ite ?_ ?_
   | refine LeO.bind ?_ (fun _ => ?_)
  ·intro y0 y1 y2 y3
   unfold spec_PoolOk.l1
   repeat' first
   | (with_reducible exact ih0 _ _ _)
   | (with_reducible exact ih1 _ _ _)
   | (with_reducible exact ih2 _ _ _ _)
   | (with_reducible exact ih3 _ _ _)
   | (with_reducible exact spec_l10Of.mono _ _ _ _)
   | (with_reducible exact LeO.refl _)
   | (with_reducible exact LeO.none _)
   | (with_reducible refine LeO.ite ?_ ?_)
   | (with_reducible refine LeO.bind ?_ (fun _ => ?_))
   | exact ih0 _ _ _
   | exact ih1 _ _ _
   | exact ih2 _ _ _ _
   | exact ih3 _ _ _
   | exact spec_l10Of.mono _ _ _ _
   | exact LeO.none _
   | refine LeO.ite ?_ ?_
   | refine LeO.bind ?_ (fun _ => ?_)
  ·intro y0 y1 y2
   unfold spec_PoolOk.l2
   repeat' first
   | (with_reducible exact ih0 _ _ _)
   | (with_reducible exact ih1 _ _ _)
   | (with_reducible exact ih2 _ _ _ _)
   | (with_reducible exact ih3 _ _ _)
   | (with_reducible exact spec_l10Of.mono _ _ _ _)
   | (with_reducible exact LeO.refl _)
   | (with_reducible exact LeO.none _)
   | (with_reducible refine LeO.ite ?_ ?_)
   | (with_reducible refine LeO.bind ?_ (fun _ => ?_))
   | exact ih0 _ _ _
   | exact ih1 _ _ _
   | exact ih2 _ _ _ _
   | exact ih3 _ _ _
   | exact spec_l10Of.mono _ _ _ _
   | exact LeO.none _
   | refine LeO.ite ?_ ?_
   | refine LeO.bind ?_ (fun _ => ?_)
theorem spec_PoolOk.mono : ∀ a0 a1 k, LeO (spec_PoolOk.f k a0 a1) (spec_PoolOk.f (k + 1) a0 a1) := by
 intro a0 a1 k;obtain ⟨ih0, ih1, ih2, ih3⟩ := spec_PoolOk.mono_l k;unfold spec_PoolOk.f
 repeat' first
   | (with_reducible exact ih0 _ _ _)
   | (with_reducible exact ih1 _ _ _)
   | (with_reducible exact ih2 _ _ _ _)
   | (with_reducible exact ih3 _ _ _)
   | (with_reducible exact spec_l10Of.mono _ _ _ _)
   | (with_reducible exact LeO.refl _)
   | (with_reducible exact LeO.none _)
   | (with_reducible refine LeO.ite ?_ ?_)
   | (with_reducible refine LeO.bind ?_ (fun _ => ?_))
   | exact ih0 _ _ _
   | exact ih1 _ _ _
   | exact ih2 _ _ _ _
   | exact ih3 _ _ _
   | exact spec_l10Of.mono _ _ _ _
   | exact LeO.none _
   | refine LeO.ite ?_ ?_
   | refine LeO.bind ?_ (fun _ => ?_)
set_option maxHeartbeats 8000000 in
set_option maxRecDepth 100000 in
theorem spec_PoolOk.calls (k : Nat) (A0_0 : Option Addr) (c0_0 : Nat) (l0_0 : List (S41)) (a0_1 : Int) (r : Bool) (w : World) (hr0_0 : Kd.C k41 w A0_0 l0_0.length l0_0) (hc0_0 : l0_0.length ≤ c0_0) (h : spec_PoolOk.f k l0_0 a0_1 = some r) :
  Calls Try.prog 16 #[.agg #[.slice A0_0 l0_0.length c0_0, .int .i64 a0_1]] w fun e w' => e = .returned (.bool r) ∧ Below w.heap.size w w' := by
 have hu29 := Try.underlying29;have hu41 := Try.underlying41;have HR0_0 := z_a hr0_0;have HC0_0 := z_a hc0_0;clear hr0_0 hc0_0;have HB := z_a (Below.refl w.heap.size w);have H : (if (l0_0.length : Int) = 8 then ((spec_l1In.f a0_1 0 7).bind fun t110 => (spec_PoolOk.j0 k (!t110) l0_0 a0_1)) else (spec_PoolOk.j0 k true l0_0 a0_1)) = some r:=h;clear h;have HC2 := z_a H;clear H
 go_enter Try.func16, Try.ntmps16
 go_upto_region 1 with (first|((with_reducible refine gate_dst (N:=1) rfl ?_);refine box_event ?hg (N:=1) ?hd (cs:=#[.slice A0_0 l0_0.length c0_0,.int .i64 a0_1]) (t:=29) ?hr ?_;(case hd => rfl);(case hg => rfl);(case hr => first|(go_simp;done)|(go_simp;rfl));intro gb109 hg w3 hbox hb;have n0_:=z_a (z_f zB hb);have n1_:=z_a (hbox);have n2_:=z_a ((by rw [hg];exact (z_g zB) : w.heap.size ≤ gb109));have n3_:=z_a ((by rw [hg];exact (z_g zB) : w.heap.size ≤ gb109));clear HB;have HB:=n0_;have BK109:=n1_;have GW109:=n2_;have GE109:=n3_;clear n0_ n1_ n2_ n3_;clear hb hbox hg))
 repeat (go_quiet (first|((with_reducible refine gate_dst (N:=1) rfl ?_);refine box_event ?hg (N:=1) ?hd (cs:=#[.slice A0_0 l0_0.length c0_0,.int .i64 a0_1]) (t:=29) ?hr ?_;(case hd => rfl);(case hg => rfl);(case hr => first|(go_simp;done)|(go_simp;rfl));intro gb109 hg w3 hbox hb;have n0_:=z_a (z_f zB hb);have n1_:=z_a (hbox);have n2_:=z_a ((by rw [hg];exact (z_g zB) : w.heap.size ≤ gb109));have n3_:=z_a ((by rw [hg];exact (z_g zB) : w.heap.size ≤ gb109));clear HB;have HB:=n0_;have BK109:=n1_;have GW109:=n2_;have GE109:=n3_;clear n0_ n1_ n2_ n3_;clear hb hbox hg));go_upto_region 1 with (first|((with_reducible refine gate_dst (N:=1) rfl ?_);refine box_event ?hg (N:=1) ?hd (cs:=#[.slice A0_0 l0_0.length c0_0,.int .i64 a0_1]) (t:=29) ?hr ?_;(case hd => rfl);(case hg => rfl);(case hr => first|(go_simp;done)|(go_simp;rfl));intro gb109 hg w3 hbox hb;have n0_:=z_a (z_f zB hb);have n1_:=z_a (hbox);have n2_:=z_a ((by rw [hg];exact (z_g zB) : w.heap.size ≤ gb109));have n3_:=z_a ((by rw [hg];exact (z_g zB) : w.heap.size ≤ gb109));clear HB;have HB:=n0_;have BK109:=n1_;have GW109:=n2_;have GE109:=n3_;clear n0_ n1_ n2_ n3_;clear hb hbox hg)))
 (try simp only [Act.put,z_1,z_2,z_3])
 go_cut [15] (fun v15 wc => ∃ (kq : Nat) (x15_1 : Bool),v15 = .bool x15_1 ∧ Aside0 (spec_PoolOk.j0 kq x15_1 l0_0 a0_1 = some r) ∧ Aside0 (kq ≤ k) ∧ Aside0 (wc.heap[gb109]? = some (.cells #[(.slice A0_0 l0_0.length c0_0),.int .i64 a0_1] 29 (0,0))) ∧ Aside0 (Below w.heap.size w wc))
 case first =>
  have H := HC2.out;clear HC2
  by_cases c4 : (l0_0.length : Int) = 8
  ·rw [if_pos c4] at H;have c4b0 : ((l0_0.length : Int) == 8) = true:=beq_iff_eq.mpr c4;have c4b1 : ((l0_0.length : Int) != 8) = false:=bne_eq_false_iff_eq.mpr c4;clear c4
   (first|rw [c4b0]|(simp only [i64_w,i32_w];rw [c4b0])|skip)
   replace H := z_8 H;obtain ⟨t110, A50, H⟩ := H;replace H : (spec_PoolOk.j0 k (!t110) l0_0 a0_1) = some r:=H;have A5 := z_a A50;clear A50;have H' := z_a H;clear H;have hcz6_0 : w3.cell? ⟨gb109,0,none⟩ = some (.slice A0_0 l0_0.length c0_0):=(z_b BK109.out 0).trans rfl;have hcz6_1 : w3.cell? ⟨gb109,1,none⟩ = some (.int .i64 a0_1):=(z_b BK109.out 1).trans rfl;have hfz6_0 := z_4 BK109.out 0;have hfz6_1 := z_4 BK109.out 1
   go_wp2_with (first|(go_at_call 41;(with_reducible refine (spec_l1In.calls a0_1 0 7 t110 _ A5.out).mono ?_);rintro e w' ⟨rfl,⟨nd,rfl⟩⟩;(try first|exact ⟨rfl,_,World.drewN_drewN _ _ _⟩|exact ⟨rfl,_,Eq.trans (World.drewN_drewN _ _ _) (congrArg (World.drewN _) (Nat.add_assoc _ _ _))⟩)))
   repeat (go_quiet (first|(go_at_call 41;(with_reducible refine (spec_l1In.calls a0_1 0 7 t110 _ A5.out).mono ?_);rintro e w' ⟨rfl,⟨nd,rfl⟩⟩;(try first|exact ⟨rfl,_,World.drewN_drewN _ _ _⟩|exact ⟨rfl,_,Eq.trans (World.drewN_drewN _ _ _) (congrArg (World.drewN _) (Nat.add_assoc _ _ _))⟩)));try go_wp2_with (first|(go_at_call 41;(with_reducible refine (spec_l1In.calls a0_1 0 7 t110 _ A5.out).mono ?_);rintro e w' ⟨rfl,⟨nd,rfl⟩⟩;(try first|exact ⟨rfl,_,World.drewN_drewN _ _ _⟩|exact ⟨rfl,_,Eq.trans (World.drewN_drewN _ _ _) (congrArg (World.drewN _) (Nat.add_assoc _ _ _))⟩))))
   go_meet
   case rel => exact ⟨_,(!t110),(by first|rfl|(simp;done)|(simp [*];done)),H',⟨by first|omega|exact Nat.le_refl _⟩,⟨by (with_reducible repeat (first|refine y_b ?_ _|refine y_c ?_|refine y_d ?_ _));exact BK109.out⟩,⟨zB⟩⟩
  rw [if_neg c4] at H;have c4b0 : ((l0_0.length : Int) == 8) = false:=beq_eq_false_iff_ne.mpr c4;have c4b1 : ((l0_0.length : Int) != 8) = true:=bne_iff_ne.mpr c4
  (first|rw [c4b0]|(simp only [i64_w,i32_w];rw [c4b0])|skip)
  have H' := z_a H;clear H;have hcz7_0 : w3.cell? ⟨gb109,0,none⟩ = some (.slice A0_0 l0_0.length c0_0):=(z_b BK109.out 0).trans rfl;have hcz7_1 : w3.cell? ⟨gb109,1,none⟩ = some (.int .i64 a0_1):=(z_b BK109.out 1).trans rfl;have hfz7_0 := z_4 BK109.out 0;have hfz7_1 := z_4 BK109.out 1
  go_wp2
  repeat (go_quiet (fail); try go_wp2)
  go_meet
  case rel => exact ⟨_,(true),(by first|rfl|(simp;done)|(simp [*];done)),H',⟨by first|omega|exact Nat.le_refl _⟩,⟨by (with_reducible repeat (first|refine y_b ?_ _|refine y_c ?_|refine y_d ?_ _));exact BK109.out⟩,⟨zB⟩⟩
 case rest =>
  clear HC2
  try clear c1
  try clear p2
  try clear c4
  try clear c4b0
  try clear c4b1
  try clear hcz6_0
  try clear hcz6_1
  try clear hcz7_0
  try clear hcz7_1
  try clear hfz6_0
  try clear hfz6_1
  try clear hfz7_0
  try clear hfz7_1
  obtain ⟨kq, x15_1, rfl, HA, HJ1, BK109, HB⟩ := hcut;cases kq with
  | zero => exact absurd HA.out (by simp [spec_PoolOk.j0])
  | succ kj1 =>
   have H := HA.out;clear HA;simp only [spec_PoolOk.j0] at H
   by_cases c8 : x15_1 = true
   ·subst c8;have H1 : (some false) = some r:=by rw [if_pos rfl] at H;exact H
    clear H;have H := H1;clear H1;obtain rfl := Option.some.inj H
    go_wp2
    repeat (go_quiet (fail); try go_wp2)
    go_ret
    exact ⟨by first|rfl|(simp [errW_none,errW_some] <;> rfl)|(simp [*,errW_none,errW_some] <;> rfl),zB⟩
   ·replace c8 := Bool.eq_false_iff.mpr c8;subst c8;have H1 : (spec_PoolOk.l0 kj1 0 l0_0 a0_1) = some r:=by rw [if_neg (show ¬ (false = true) by decide)] at H;exact H
    clear H;have H := H1;clear H1;have H' := z_a H;clear H
    go_wp2
    repeat (go_quiet (fail); try go_wp2)
    go_loopg [3] kj1 (fun kq v3 w' => ∃ (x3_2 : Int),v3 = .int .i64 x3_2 ∧ Aside0 (spec_PoolOk.l0 kq x3_2 l0_0 a0_1 = some r) ∧ Aside0 (kq ≤ kj1) ∧ Aside0 (w'.heap[gb109]? = some (.cells #[(.slice A0_0 l0_0.length c0_0),.int .i64 a0_1] 29 (0,0))) ∧ Aside0 (Below w.heap.size w w'))
    case atStart => exact ⟨(0),(by first|rfl|(simp;done)|(simp [*];done)),H',⟨Nat.le_refl _⟩,⟨by (with_reducible repeat (first|refine y_b ?_ _|refine y_c ?_|refine y_d ?_ _));exact BK109.out⟩,⟨zB⟩⟩
    case round =>
     clear H'
     try clear c1
     try clear p2
     try clear c4
     try clear c4b0
     try clear c4b1
     try clear c8
     try clear hcz6_0
     try clear hcz6_1
     try clear hcz7_0
     try clear hcz7_1
     try clear hfz6_0
     try clear hfz6_1
     try clear hfz7_0
     try clear hfz7_1
     try clear p2
     obtain ⟨x3_2, rfl, HA, HK2, BK109, HB⟩ := hrel;cases gk with
     | zero => exact absurd HA.out (by simp [spec_PoolOk.l0])
     | succ k2 =>
      have H := HA.out;clear HA;simp only [spec_PoolOk.l0] at H
      by_cases c9 : x3_2 < (l0_0.length : Int)
      ·rw [if_pos c9] at H;have c9b0 : decide (x3_2 < (l0_0.length : Int)) = true:=z_e c9;clear c9
       by_cases c10 : 0 ≤ x3_2
       ·rw [if_pos c10] at H;have c10b0 : decide (0 ≤ x3_2) = true := z_e c10;clear c10;replace H := z_8 H;obtain ⟨t112, A110, H⟩ := H;replace H : (if t112 = true then (spec_PoolOk.l1 k2 x3_2 0 l0_0 a0_1) else (some false)) = some r:=H;have A11 := z_a A110;clear A110
        by_cases c12 : t112 = true
        ·subst c12;have H1 : (spec_PoolOk.l1 k2 x3_2 0 l0_0 a0_1) = some r:=by rw [if_pos rfl] at H;exact H
         clear H;have H := H1;clear H1;have H' := z_a H;clear H;have hcz13_0 : wr.cell? ⟨gb109,0,none⟩ = some (.slice A0_0 l0_0.length c0_0):=(z_b BK109.out 0).trans rfl;have hcz13_1 : wr.cell? ⟨gb109,1,none⟩ = some (.int .i64 a0_1):=(z_b BK109.out 1).trans rfl;have hfz13_0 := z_4 BK109.out 0;have hfz13_1 := z_4 BK109.out 1;have p111 : 0 ≤ (x3_2 : Int):=z_9 (by first|(with_reducible assumption)|assumption);have q111 : x3_2 < (l0_0.length : Int):=z_9 (by first|(with_reducible assumption)|assumption);obtain ⟨ad111,e111,hx111_0,hx111_1,hx111_2,hx111_3,hx111_4⟩:=at_T41 HR0_0.out x3_2 p111 q111;cases e111;replace hx111_0:=(z_c HB.out hx111_0).trans hx111_0;replace hx111_1:=(z_c HB.out hx111_1).trans hx111_1;replace hx111_2:=(z_c HB.out hx111_2).trans hx111_2;replace hx111_3:=(z_c HB.out hx111_3).trans hx111_3;replace hx111_4:=(z_c HB.out hx111_4).trans hx111_4;replace p111 := eq_true p111;replace q111 := eq_true q111
         go_wp2_with (first|(go_at_call 42;(with_reducible refine (spec_l10Ok.calls ((rd_T41 l0_0 x3_2).f0) ((rd_T41 l0_0 x3_2).f1) ((rd_T41 l0_0 x3_2).f2) ((rd_T41 l0_0 x3_2).f3) ((rd_T41 l0_0 x3_2).f4) true _ A11.out).mono ?_);rintro e w14 ⟨rfl,hb⟩;have n0_:=z_a (z_d (g:=gb109) zK hb);have n1_:=z_a (z_f zB hb);clear BK109 HB;have BK109:=n0_;have HB:=n1_;clear n0_ n1_;(try clear hb);(try clear hb2);(try clear hk);(try clear hi)))
         repeat (go_quiet (first|(go_at_call 42;(with_reducible refine (spec_l10Ok.calls ((rd_T41 l0_0 x3_2).f0) ((rd_T41 l0_0 x3_2).f1) ((rd_T41 l0_0 x3_2).f2) ((rd_T41 l0_0 x3_2).f3) ((rd_T41 l0_0 x3_2).f4) true _ A11.out).mono ?_);rintro e w14 ⟨rfl,hb⟩;have n0_:=z_a (z_d (g:=gb109) zK hb);have n1_:=z_a (z_f zB hb);clear BK109 HB;have BK109:=n0_;have HB:=n1_;clear n0_ n1_;(try clear hb);(try clear hb2);(try clear hk);(try clear hi)));try go_wp2_with (first|(go_at_call 42;(with_reducible refine (spec_l10Ok.calls ((rd_T41 l0_0 x3_2).f0) ((rd_T41 l0_0 x3_2).f1) ((rd_T41 l0_0 x3_2).f2) ((rd_T41 l0_0 x3_2).f3) ((rd_T41 l0_0 x3_2).f4) true _ A11.out).mono ?_);rintro e w14 ⟨rfl,hb⟩;have n0_:=z_a (z_d (g:=gb109) zK hb);have n1_:=z_a (z_f zB hb);clear BK109 HB;have BK109:=n0_;have HB:=n1_;clear n0_ n1_;(try clear hb);(try clear hb2);(try clear hk);(try clear hi))))
         go_loopg [4] k2 (fun kq v4 w' => ∃ (x4_3 : Int),v4 = .int .i64 x4_3 ∧ Aside0 (spec_PoolOk.l1 kq x3_2 x4_3 l0_0 a0_1 = some r) ∧ Aside0 (kq ≤ k2) ∧ Aside0 (w'.heap[gb109]? = some (.cells #[(.slice (some ad111) l0_0.length c0_0),.int .i64 a0_1] 29 (0,0))) ∧ Aside0 (Below w.heap.size w w'))
         case atStart => exact ⟨(0),(by first|rfl|(simp;done)|(simp [*];done)),H',⟨Nat.le_refl _⟩,⟨by (with_reducible repeat (first|refine y_b ?_ _|refine y_c ?_|refine y_d ?_ _));exact BK109.out⟩,⟨zB⟩⟩
         case round =>
          clear H'
          try clear c1
          try clear p1
          try clear q1
          try clear hx1
          try clear p2
          try clear c4
          try clear c4b0
          try clear c4b1
          try clear c8
          try clear c9
          try clear c9b0
          try clear c10
          try clear c10b0
          try clear p11
          try clear q11
          try clear hx11
          try clear c12
          try clear hcz13_0
          try clear hcz13_1
          try clear hcz6_0
          try clear hcz6_1
          try clear hcz7_0
          try clear hcz7_1
          try clear hfz13_0
          try clear hfz13_1
          try clear hfz6_0
          try clear hfz6_1
          try clear hfz7_0
          try clear hfz7_1
          try clear hx111_0
          try clear hx111_1
          try clear hx111_2
          try clear hx111_3
          try clear hx111_4
          try clear p111
          try clear p2
          try clear q111
          obtain ⟨x4_3, rfl, HA, HK3, BK109, HB⟩ := hrel;cases gk with
          | zero => exact absurd HA.out (by simp [spec_PoolOk.l1])
          | succ k3 =>
           have H := HA.out;clear HA;simp only [spec_PoolOk.l1] at H
           by_cases c15 : x4_3 < x3_2
           ·rw [if_pos c15] at H;have c15b0 : decide (x4_3 < x3_2) = true:=z_e c15;clear c15
            by_cases c16 : 0 ≤ x3_2
            ·rw [if_pos c16] at H;have c16b0 : decide (0 ≤ x3_2) = true := z_e c16;clear c16
             by_cases c17 : x3_2 < (l0_0.length : Int)
             ·rw [if_pos c17] at H;have c17b0 : decide (x3_2 < (l0_0.length : Int)) = true:=z_e c17;clear c17
              by_cases c18 : ((rd_T41 l0_0 x3_2).f1) > 0
              ·rw [if_pos c18] at H;have c18b0 : decide (0 < ((rd_T41 l0_0 x3_2).f1)) = true:=z_e c18;clear c18
               by_cases c19 : 0 ≤ x4_3
               ·rw [if_pos c19] at H;have c19b0 : decide (0 ≤ x4_3) = true := z_e c19;clear c19
                by_cases c20 : x4_3 < (l0_0.length : Int)
                ·rw [if_pos c20] at H;have c20b0 : decide (x4_3 < (l0_0.length : Int)) = true:=z_e c20;clear c20
                 by_cases c21 : ((rd_T41 l0_0 x3_2).f1) = ((rd_T41 l0_0 x4_3).f1)
                 ·rw [if_pos c21] at H;have c21b0 : (((rd_T41 l0_0 x3_2).f1) == ((rd_T41 l0_0 x4_3).f1)) = true:=beq_iff_eq.mpr c21;have c21b1 : (((rd_T41 l0_0 x3_2).f1) != ((rd_T41 l0_0 x4_3).f1)) = false:=bne_eq_false_iff_eq.mpr c21;clear c21
                  by_cases c22 : ((rd_T41 l0_0 x3_2).f2) = ((rd_T41 l0_0 x4_3).f2)
                  ·rw [if_pos c22] at H;have c22b0 : (((rd_T41 l0_0 x3_2).f2) == ((rd_T41 l0_0 x4_3).f2)) = true:=beq_iff_eq.mpr c22;have c22b1 : (((rd_T41 l0_0 x3_2).f2) != ((rd_T41 l0_0 x4_3).f2)) = false:=bne_eq_false_iff_eq.mpr c22;clear c22;obtain rfl := Option.some.inj H;have hcz23_0 : wr.cell? ⟨gb109,0,none⟩ = some (.slice (some ad111) l0_0.length c0_0):=(z_b BK109.out 0).trans rfl;have hcz23_1 : wr.cell? ⟨gb109,1,none⟩ = some (.int .i64 a0_1):=(z_b BK109.out 1).trans rfl;have hfz23_0 := z_4 BK109.out 0;have hfz23_1 := z_4 BK109.out 1;have p113 : 0 ≤ (x3_2 : Int):=z_9 (by first|(with_reducible assumption)|assumption);have q113 : x3_2 < (l0_0.length : Int):=z_9 (by first|(with_reducible assumption)|assumption);obtain ⟨ad113,e113,hx113_0,hx113_1,hx113_2,hx113_3,hx113_4⟩:=at_T41 HR0_0.out x3_2 p113 q113;obtain rfl : ad111 = ad113 := (by injection e113);replace hx113_0:=(z_c HB.out hx113_0).trans hx113_0;replace hx113_1:=(z_c HB.out hx113_1).trans hx113_1;replace hx113_2:=(z_c HB.out hx113_2).trans hx113_2;replace hx113_3:=(z_c HB.out hx113_3).trans hx113_3;replace hx113_4:=(z_c HB.out hx113_4).trans hx113_4;replace p113 := eq_true p113;replace q113 := eq_true q113;have p114 : 0 ≤ (x3_2 : Int):=z_9 (by first|(with_reducible assumption)|assumption);have q114 : x3_2 < (l0_0.length : Int):=z_9 (by first|(with_reducible assumption)|assumption);obtain ⟨ad114,e114,hx114_0,hx114_1,hx114_2,hx114_3,hx114_4⟩:=at_T41 HR0_0.out x3_2 p114 q114
                   obtain rfl : ad111 = ad114 := (by injection e114);replace hx114_0:=(z_c HB.out hx114_0).trans hx114_0;replace hx114_1:=(z_c HB.out hx114_1).trans hx114_1;replace hx114_2:=(z_c HB.out hx114_2).trans hx114_2;replace hx114_3:=(z_c HB.out hx114_3).trans hx114_3;replace hx114_4:=(z_c HB.out hx114_4).trans hx114_4;replace p114 := eq_true p114;replace q114 := eq_true q114;have p115 : 0 ≤ (x4_3 : Int):=z_9 (by first|(with_reducible assumption)|assumption);have q115 : x4_3 < (l0_0.length : Int):=z_9 (by first|(with_reducible assumption)|assumption);obtain ⟨ad115,e115,hx115_0,hx115_1,hx115_2,hx115_3,hx115_4⟩:=at_T41 HR0_0.out x4_3 p115 q115;obtain rfl : ad111 = ad115 := (by injection e115);replace hx115_0:=(z_c HB.out hx115_0).trans hx115_0;replace hx115_1:=(z_c HB.out hx115_1).trans hx115_1;replace hx115_2:=(z_c HB.out hx115_2).trans hx115_2;replace hx115_3:=(z_c HB.out hx115_3).trans hx115_3;replace hx115_4:=(z_c HB.out hx115_4).trans hx115_4;replace p115 := eq_true p115;replace q115 := eq_true q115;have p116 : 0 ≤ (x3_2 : Int):=z_9 (by first|(with_reducible assumption)|assumption);have q116 : x3_2 < (l0_0.length : Int):=z_9 (by first|(with_reducible assumption)|assumption);obtain ⟨ad116,e116,hx116_0,hx116_1,hx116_2,hx116_3,hx116_4⟩:=at_T41 HR0_0.out x3_2 p116 q116;obtain rfl : ad111 = ad116 := (by injection e116);replace hx116_0:=(z_c HB.out hx116_0).trans hx116_0;replace hx116_1:=(z_c HB.out hx116_1).trans hx116_1
                   replace hx116_2:=(z_c HB.out hx116_2).trans hx116_2;replace hx116_3:=(z_c HB.out hx116_3).trans hx116_3;replace hx116_4:=(z_c HB.out hx116_4).trans hx116_4;replace p116 := eq_true p116;replace q116 := eq_true q116;have p117 : 0 ≤ (x4_3 : Int):=z_9 (by first|(with_reducible assumption)|assumption);have q117 : x4_3 < (l0_0.length : Int):=z_9 (by first|(with_reducible assumption)|assumption);obtain ⟨ad117,e117,hx117_0,hx117_1,hx117_2,hx117_3,hx117_4⟩:=at_T41 HR0_0.out x4_3 p117 q117;obtain rfl : ad111 = ad117 := (by injection e117);replace hx117_0:=(z_c HB.out hx117_0).trans hx117_0;replace hx117_1:=(z_c HB.out hx117_1).trans hx117_1;replace hx117_2:=(z_c HB.out hx117_2).trans hx117_2;replace hx117_3:=(z_c HB.out hx117_3).trans hx117_3;replace hx117_4:=(z_c HB.out hx117_4).trans hx117_4;replace p117 := eq_true p117;replace q117 := eq_true q117
                   go_wp2
                   repeat (go_quiet (fail); try go_wp2)
                   go_ret
                   exact ⟨by first|rfl|(simp [errW_none,errW_some] <;> rfl)|(simp [*,errW_none,errW_some] <;> rfl),zB⟩
                  ·rw [if_neg c22] at H;have c22b0 : (((rd_T41 l0_0 x3_2).f2) == ((rd_T41 l0_0 x4_3).f2)) = false:=beq_eq_false_iff_ne.mpr c22;have c22b1 : (((rd_T41 l0_0 x3_2).f2) != ((rd_T41 l0_0 x4_3).f2)) = true:=bne_iff_ne.mpr c22;have H' := z_a H;clear H;have hcz24_0 : wr.cell? ⟨gb109,0,none⟩ = some (.slice (some ad111) l0_0.length c0_0):=(z_b BK109.out 0).trans rfl;have hcz24_1 : wr.cell? ⟨gb109,1,none⟩ = some (.int .i64 a0_1):=(z_b BK109.out 1).trans rfl;have hfz24_0 := z_4 BK109.out 0;have hfz24_1 := z_4 BK109.out 1;have p113 : 0 ≤ (x3_2 : Int):=z_9 (by first|(with_reducible assumption)|assumption);have q113 : x3_2 < (l0_0.length : Int):=z_9 (by first|(with_reducible assumption)|assumption);obtain ⟨ad113,e113,hx113_0,hx113_1,hx113_2,hx113_3,hx113_4⟩:=at_T41 HR0_0.out x3_2 p113 q113;obtain rfl : ad111 = ad113 := (by injection e113);replace hx113_0:=(z_c HB.out hx113_0).trans hx113_0;replace hx113_1:=(z_c HB.out hx113_1).trans hx113_1;replace hx113_2:=(z_c HB.out hx113_2).trans hx113_2;replace hx113_3:=(z_c HB.out hx113_3).trans hx113_3;replace hx113_4:=(z_c HB.out hx113_4).trans hx113_4;replace p113 := eq_true p113;replace q113 := eq_true q113;have p114 : 0 ≤ (x3_2 : Int):=z_9 (by first|(with_reducible assumption)|assumption);have q114 : x3_2 < (l0_0.length : Int):=z_9 (by first|(with_reducible assumption)|assumption);obtain ⟨ad114,e114,hx114_0,hx114_1,hx114_2,hx114_3,hx114_4⟩:=at_T41 HR0_0.out x3_2 p114 q114
                   obtain rfl : ad111 = ad114 := (by injection e114);replace hx114_0:=(z_c HB.out hx114_0).trans hx114_0;replace hx114_1:=(z_c HB.out hx114_1).trans hx114_1;replace hx114_2:=(z_c HB.out hx114_2).trans hx114_2;replace hx114_3:=(z_c HB.out hx114_3).trans hx114_3;replace hx114_4:=(z_c HB.out hx114_4).trans hx114_4;replace p114 := eq_true p114;replace q114 := eq_true q114;have p115 : 0 ≤ (x4_3 : Int):=z_9 (by first|(with_reducible assumption)|assumption);have q115 : x4_3 < (l0_0.length : Int):=z_9 (by first|(with_reducible assumption)|assumption);obtain ⟨ad115,e115,hx115_0,hx115_1,hx115_2,hx115_3,hx115_4⟩:=at_T41 HR0_0.out x4_3 p115 q115;obtain rfl : ad111 = ad115 := (by injection e115);replace hx115_0:=(z_c HB.out hx115_0).trans hx115_0;replace hx115_1:=(z_c HB.out hx115_1).trans hx115_1;replace hx115_2:=(z_c HB.out hx115_2).trans hx115_2;replace hx115_3:=(z_c HB.out hx115_3).trans hx115_3;replace hx115_4:=(z_c HB.out hx115_4).trans hx115_4;replace p115 := eq_true p115;replace q115 := eq_true q115;have p116 : 0 ≤ (x3_2 : Int):=z_9 (by first|(with_reducible assumption)|assumption);have q116 : x3_2 < (l0_0.length : Int):=z_9 (by first|(with_reducible assumption)|assumption);obtain ⟨ad116,e116,hx116_0,hx116_1,hx116_2,hx116_3,hx116_4⟩:=at_T41 HR0_0.out x3_2 p116 q116;obtain rfl : ad111 = ad116 := (by injection e116);replace hx116_0:=(z_c HB.out hx116_0).trans hx116_0;replace hx116_1:=(z_c HB.out hx116_1).trans hx116_1
                   replace hx116_2:=(z_c HB.out hx116_2).trans hx116_2;replace hx116_3:=(z_c HB.out hx116_3).trans hx116_3;replace hx116_4:=(z_c HB.out hx116_4).trans hx116_4;replace p116 := eq_true p116;replace q116 := eq_true q116;have p117 : 0 ≤ (x4_3 : Int):=z_9 (by first|(with_reducible assumption)|assumption);have q117 : x4_3 < (l0_0.length : Int):=z_9 (by first|(with_reducible assumption)|assumption);obtain ⟨ad117,e117,hx117_0,hx117_1,hx117_2,hx117_3,hx117_4⟩:=at_T41 HR0_0.out x4_3 p117 q117;obtain rfl : ad111 = ad117 := (by injection e117);replace hx117_0:=(z_c HB.out hx117_0).trans hx117_0;replace hx117_1:=(z_c HB.out hx117_1).trans hx117_1;replace hx117_2:=(z_c HB.out hx117_2).trans hx117_2;replace hx117_3:=(z_c HB.out hx117_3).trans hx117_3;replace hx117_4:=(z_c HB.out hx117_4).trans hx117_4;replace p117 := eq_true p117;replace q117 := eq_true q117
                   go_wp2
                   repeat (go_quiet (fail); try go_wp2)
                   go_roundg k3
                   case measure => have:=HJ1.out;have:=HK2.out;have:=HK3.out;omega
                   case rel => exact ⟨(wrap64 (x4_3 + 1)),(by first|rfl|(simp;done)|(simp [*];done)),H',⟨by have:=HJ1.out;have:=HK2.out;have:=HK3.out;omega⟩,⟨by (with_reducible repeat (first|refine y_b ?_ _|refine y_c ?_|refine y_d ?_ _));exact BK109.out⟩,⟨zB⟩⟩
                 ·rw [if_neg c21] at H;have c21b0 : (((rd_T41 l0_0 x3_2).f1) == ((rd_T41 l0_0 x4_3).f1)) = false:=beq_eq_false_iff_ne.mpr c21;have c21b1 : (((rd_T41 l0_0 x3_2).f1) != ((rd_T41 l0_0 x4_3).f1)) = true:=bne_iff_ne.mpr c21;have H' := z_a H;clear H;have hcz25_0 : wr.cell? ⟨gb109,0,none⟩ = some (.slice (some ad111) l0_0.length c0_0):=(z_b BK109.out 0).trans rfl;have hcz25_1 : wr.cell? ⟨gb109,1,none⟩ = some (.int .i64 a0_1):=(z_b BK109.out 1).trans rfl;have hfz25_0 := z_4 BK109.out 0;have hfz25_1 := z_4 BK109.out 1;have p113 : 0 ≤ (x3_2 : Int):=z_9 (by first|(with_reducible assumption)|assumption);have q113 : x3_2 < (l0_0.length : Int):=z_9 (by first|(with_reducible assumption)|assumption);obtain ⟨ad113,e113,hx113_0,hx113_1,hx113_2,hx113_3,hx113_4⟩:=at_T41 HR0_0.out x3_2 p113 q113;obtain rfl : ad111 = ad113 := (by injection e113);replace hx113_0:=(z_c HB.out hx113_0).trans hx113_0;replace hx113_1:=(z_c HB.out hx113_1).trans hx113_1;replace hx113_2:=(z_c HB.out hx113_2).trans hx113_2;replace hx113_3:=(z_c HB.out hx113_3).trans hx113_3;replace hx113_4:=(z_c HB.out hx113_4).trans hx113_4;replace p113 := eq_true p113;replace q113 := eq_true q113;have p114 : 0 ≤ (x3_2 : Int):=z_9 (by first|(with_reducible assumption)|assumption);have q114 : x3_2 < (l0_0.length : Int):=z_9 (by first|(with_reducible assumption)|assumption);obtain ⟨ad114,e114,hx114_0,hx114_1,hx114_2,hx114_3,hx114_4⟩:=at_T41 HR0_0.out x3_2 p114 q114
                  obtain rfl : ad111 = ad114 := (by injection e114);replace hx114_0:=(z_c HB.out hx114_0).trans hx114_0;replace hx114_1:=(z_c HB.out hx114_1).trans hx114_1;replace hx114_2:=(z_c HB.out hx114_2).trans hx114_2;replace hx114_3:=(z_c HB.out hx114_3).trans hx114_3;replace hx114_4:=(z_c HB.out hx114_4).trans hx114_4;replace p114 := eq_true p114;replace q114 := eq_true q114;have p115 : 0 ≤ (x4_3 : Int):=z_9 (by first|(with_reducible assumption)|assumption);have q115 : x4_3 < (l0_0.length : Int):=z_9 (by first|(with_reducible assumption)|assumption);obtain ⟨ad115,e115,hx115_0,hx115_1,hx115_2,hx115_3,hx115_4⟩:=at_T41 HR0_0.out x4_3 p115 q115;obtain rfl : ad111 = ad115 := (by injection e115);replace hx115_0:=(z_c HB.out hx115_0).trans hx115_0;replace hx115_1:=(z_c HB.out hx115_1).trans hx115_1;replace hx115_2:=(z_c HB.out hx115_2).trans hx115_2;replace hx115_3:=(z_c HB.out hx115_3).trans hx115_3;replace hx115_4:=(z_c HB.out hx115_4).trans hx115_4;replace p115 := eq_true p115;replace q115 := eq_true q115
                  go_wp2
                  repeat (go_quiet (fail); try go_wp2)
                  go_roundg k3
                  case measure => have:=HJ1.out;have:=HK2.out;have:=HK3.out;omega
                  case rel => exact ⟨(wrap64 (x4_3 + 1)),(by first|rfl|(simp;done)|(simp [*];done)),H',⟨by have:=HJ1.out;have:=HK2.out;have:=HK3.out;omega⟩,⟨by (with_reducible repeat (first|refine y_b ?_ _|refine y_c ?_|refine y_d ?_ _));exact BK109.out⟩,⟨zB⟩⟩
                ·rw [if_neg c20] at H;exact absurd H (by simp)
               ·rw [if_neg c19] at H;exact absurd H (by simp)
              ·rw [if_neg c18] at H;have c18b0 : decide (0 < ((rd_T41 l0_0 x3_2).f1)) = false:=decide_eq_false c18;clear c18;have H' := z_a H;clear H;have hcz26_0 : wr.cell? ⟨gb109,0,none⟩ = some (.slice (some ad111) l0_0.length c0_0):=(z_b BK109.out 0).trans rfl;have hcz26_1 : wr.cell? ⟨gb109,1,none⟩ = some (.int .i64 a0_1):=(z_b BK109.out 1).trans rfl;have hfz26_0 := z_4 BK109.out 0;have hfz26_1 := z_4 BK109.out 1;have p113 : 0 ≤ (x3_2 : Int):=z_9 (by first|(with_reducible assumption)|assumption);have q113 : x3_2 < (l0_0.length : Int):=z_9 (by first|(with_reducible assumption)|assumption);obtain ⟨ad113,e113,hx113_0,hx113_1,hx113_2,hx113_3,hx113_4⟩:=at_T41 HR0_0.out x3_2 p113 q113;obtain rfl : ad111 = ad113 := (by injection e113);replace hx113_0:=(z_c HB.out hx113_0).trans hx113_0;replace hx113_1:=(z_c HB.out hx113_1).trans hx113_1;replace hx113_2:=(z_c HB.out hx113_2).trans hx113_2;replace hx113_3:=(z_c HB.out hx113_3).trans hx113_3;replace hx113_4:=(z_c HB.out hx113_4).trans hx113_4;replace p113 := eq_true p113;replace q113 := eq_true q113
               go_wp2
               repeat (go_quiet (fail); try go_wp2)
               go_roundg k3
               case measure => have:=HJ1.out;have:=HK2.out;have:=HK3.out;omega
               case rel => exact ⟨(wrap64 (x4_3 + 1)),(by first|rfl|(simp;done)|(simp [*];done)),H',⟨by have:=HJ1.out;have:=HK2.out;have:=HK3.out;omega⟩,⟨by (with_reducible repeat (first|refine y_b ?_ _|refine y_c ?_|refine y_d ?_ _));exact BK109.out⟩,⟨zB⟩⟩
             ·rw [if_neg c17] at H;exact absurd H (by simp)
            ·rw [if_neg c16] at H;exact absurd H (by simp)
           ·rw [if_neg c15] at H;have c15b0 : decide (x4_3 < x3_2) = false:=decide_eq_false c15;clear c15;have H' := z_a H;clear H
            go_wp2
            repeat (go_quiet (fail); try go_wp2)
            go_roundg k3
            case measure => have:=HJ1.out;have:=HK2.out;have:=HK3.out;omega
            case rel => exact ⟨(wrap64 (x3_2 + 1)),(by first|rfl|(simp;done)|(simp [*];done)),H',⟨by have:=HJ1.out;have:=HK2.out;have:=HK3.out;omega⟩,⟨by (with_reducible repeat (first|refine y_b ?_ _|refine y_c ?_|refine y_d ?_ _));exact BK109.out⟩,⟨zB⟩⟩
        ·replace c12 := Bool.eq_false_iff.mpr c12;subst c12;have H1 : (some false) = some r:=by rw [if_neg (show ¬ (false = true) by decide)] at H;exact H
         clear H;have H := H1;clear H1;obtain rfl := Option.some.inj H;have hcz27_0 : wr.cell? ⟨gb109,0,none⟩ = some (.slice A0_0 l0_0.length c0_0):=(z_b BK109.out 0).trans rfl;have hcz27_1 : wr.cell? ⟨gb109,1,none⟩ = some (.int .i64 a0_1):=(z_b BK109.out 1).trans rfl;have hfz27_0 := z_4 BK109.out 0;have hfz27_1 := z_4 BK109.out 1;have p111 : 0 ≤ (x3_2 : Int):=z_9 (by first|(with_reducible assumption)|assumption);have q111 : x3_2 < (l0_0.length : Int):=z_9 (by first|(with_reducible assumption)|assumption);obtain ⟨ad111,e111,hx111_0,hx111_1,hx111_2,hx111_3,hx111_4⟩:=at_T41 HR0_0.out x3_2 p111 q111;cases e111;replace hx111_0:=(z_c HB.out hx111_0).trans hx111_0;replace hx111_1:=(z_c HB.out hx111_1).trans hx111_1;replace hx111_2:=(z_c HB.out hx111_2).trans hx111_2;replace hx111_3:=(z_c HB.out hx111_3).trans hx111_3;replace hx111_4:=(z_c HB.out hx111_4).trans hx111_4;replace p111 := eq_true p111;replace q111 := eq_true q111
         go_wp2_with (first|(go_at_call 42;(with_reducible refine (spec_l10Ok.calls ((rd_T41 l0_0 x3_2).f0) ((rd_T41 l0_0 x3_2).f1) ((rd_T41 l0_0 x3_2).f2) ((rd_T41 l0_0 x3_2).f3) ((rd_T41 l0_0 x3_2).f4) false _ A11.out).mono ?_);rintro e w28 ⟨rfl,hb⟩;have n0_:=z_a (z_d (g:=gb109) zK hb);have n1_:=z_a (z_f zB hb);clear BK109 HB;have BK109:=n0_;have HB:=n1_;clear n0_ n1_;(try clear hb);(try clear hb2);(try clear hk);(try clear hi)))
         repeat (go_quiet (first|(go_at_call 42;(with_reducible refine (spec_l10Ok.calls ((rd_T41 l0_0 x3_2).f0) ((rd_T41 l0_0 x3_2).f1) ((rd_T41 l0_0 x3_2).f2) ((rd_T41 l0_0 x3_2).f3) ((rd_T41 l0_0 x3_2).f4) false _ A11.out).mono ?_);rintro e w28 ⟨rfl,hb⟩;have n0_:=z_a (z_d (g:=gb109) zK hb);have n1_:=z_a (z_f zB hb);clear BK109 HB;have BK109:=n0_;have HB:=n1_;clear n0_ n1_;(try clear hb);(try clear hb2);(try clear hk);(try clear hi)));try go_wp2_with (first|(go_at_call 42;(with_reducible refine (spec_l10Ok.calls ((rd_T41 l0_0 x3_2).f0) ((rd_T41 l0_0 x3_2).f1) ((rd_T41 l0_0 x3_2).f2) ((rd_T41 l0_0 x3_2).f3) ((rd_T41 l0_0 x3_2).f4) false _ A11.out).mono ?_);rintro e w28 ⟨rfl,hb⟩;have n0_:=z_a (z_d (g:=gb109) zK hb);have n1_:=z_a (z_f zB hb);clear BK109 HB;have BK109:=n0_;have HB:=n1_;clear n0_ n1_;(try clear hb);(try clear hb2);(try clear hk);(try clear hi))))
         go_ret
         exact ⟨by first|rfl|(simp [errW_none,errW_some] <;> rfl)|(simp [*,errW_none,errW_some] <;> rfl),zB⟩
       ·rw [if_neg c10] at H;exact absurd H (by simp)
      ·rw [if_neg c9] at H;have c9b0 : decide (x3_2 < (l0_0.length : Int)) = false:=decide_eq_false c9;clear c9;have H' := z_a H;clear H;have hcz29_0 : wr.cell? ⟨gb109,0,none⟩ = some (.slice A0_0 l0_0.length c0_0):=(z_b BK109.out 0).trans rfl;have hcz29_1 : wr.cell? ⟨gb109,1,none⟩ = some (.int .i64 a0_1):=(z_b BK109.out 1).trans rfl;have hfz29_0 := z_4 BK109.out 0;have hfz29_1 := z_4 BK109.out 1
       go_wp2
       repeat (go_quiet (fail); try go_wp2)
       go_loopg [5] k2 (fun kq v5 w' => ∃ (x5_3 : Int),v5 = .int .i64 x5_3 ∧ Aside0 (spec_PoolOk.l2 kq x5_3 l0_0 a0_1 = some r) ∧ Aside0 (kq ≤ k2) ∧ Aside0 (w'.heap[gb109]? = some (.cells #[(.slice A0_0 l0_0.length c0_0),.int .i64 a0_1] 29 (0,0))) ∧ Aside0 (Below w.heap.size w w'))
       case atStart => exact ⟨(0),(by first|rfl|(simp;done)|(simp [*];done)),H',⟨Nat.le_refl _⟩,⟨by (with_reducible repeat (first|refine y_b ?_ _|refine y_c ?_|refine y_d ?_ _));exact BK109.out⟩,⟨zB⟩⟩
       case round =>
        clear H'
        try clear c1
        try clear p1
        try clear q1
        try clear hx1
        try clear c2
        try clear p2
        try clear c4
        try clear c4b0
        try clear c4b1
        try clear p6
        try clear c8
        try clear c9
        try clear c9b0
        try clear c10
        try clear c10b0
        try clear p11
        try clear q11
        try clear hx11
        try clear c12
        try clear c15
        try clear c15b0
        try clear c16
        try clear c16b0
        try clear c17
        try clear c17b0
        try clear c18
        try clear c18b0
        try clear c19
        try clear c19b0
        try clear c20
        try clear c20b0
        try clear c21
        try clear c21b0
        try clear c21b1
        try clear c22
        try clear c22b0
        try clear c22b1
        try clear hcz13_0
        try clear hcz13_1
        try clear hcz23_0
        try clear hcz23_1
        try clear hcz24_0
        try clear hcz24_1
        try clear hcz25_0
        try clear hcz25_1
        try clear hcz26_0
        try clear hcz26_1
        try clear hcz27_0
        try clear hcz27_1
        try clear hcz29_0
        try clear hcz29_1
        try clear hcz6_0
        try clear hcz6_1
        try clear hcz7_0
        try clear hcz7_1
        try clear hfz13_0
        try clear hfz13_1
        try clear hfz23_0
        try clear hfz23_1
        try clear hfz24_0
        try clear hfz24_1
        try clear hfz25_0
        try clear hfz25_1
        try clear hfz26_0
        try clear hfz26_1
        try clear hfz27_0
        try clear hfz27_1
        try clear hfz29_0
        try clear hfz29_1
        try clear hfz6_0
        try clear hfz6_1
        try clear hfz7_0
        try clear hfz7_1
        try clear hx111_0
        try clear hx111_1
        try clear hx111_2
        try clear hx111_3
        try clear hx111_4
        try clear hx113_0
        try clear hx113_1
        try clear hx113_2
        try clear hx113_3
        try clear hx113_4
        try clear hx114_0
        try clear hx114_1
        try clear hx114_2
        try clear hx114_3
        try clear hx114_4
        try clear hx115_0
        try clear hx115_1
        try clear hx115_2
        try clear hx115_3
        try clear hx115_4
        try clear hx116_0
        try clear hx116_1
        try clear hx116_2
        try clear hx116_3
        try clear hx116_4
        try clear hx117_0
        try clear hx117_1
        try clear hx117_2
        try clear hx117_3
        try clear hx117_4
        try clear p1
        try clear p11
        try clear p111
        try clear p113
        try clear p114
        try clear p115
        try clear p116
        try clear p117
        try clear p2
        try clear q1
        try clear q11
        try clear q111
        try clear q113
        try clear q114
        try clear q115
        try clear q116
        try clear q117
        obtain ⟨x5_3, rfl, HA, HK3, BK109, HB⟩ := hrel;cases gk with
        | zero => exact absurd HA.out (by simp [spec_PoolOk.l2])
        | succ k3 =>
         have H := HA.out;clear HA;simp only [spec_PoolOk.l2] at H
         by_cases c30 : x5_3 < 2
         ·rw [if_pos c30] at H;have c30b0 : decide (x5_3 < 2) = true := z_e c30;clear c30;replace H := z_8 H;obtain ⟨t118, A310, H⟩ := H;replace H : (if t118 > 5 then (some false) else (spec_PoolOk.l2 k3 (wrap64 (x5_3 + 1)) l0_0 a0_1)) = some r:=H;have A31 := z_a A310;clear A310
          by_cases c32 : t118 > 5
          ·rw [if_pos c32] at H;have c32b0 : decide (5 < t118) = true := z_e c32;clear c32;obtain rfl := Option.some.inj H;have hcz33_0 : wr.cell? ⟨gb109,0,none⟩ = some (.slice A0_0 l0_0.length c0_0):=(z_b BK109.out 0).trans rfl;have hcz33_1 : wr.cell? ⟨gb109,1,none⟩ = some (.int .i64 a0_1):=(z_b BK109.out 1).trans rfl;have hfz33_0 := z_4 BK109.out 0;have hfz33_1 := z_4 BK109.out 1
           go_wp2_with (first|(go_at_call 43;(with_reducible refine (spec_l10Of.calls k3 _ _ l0_0 a0_1 x5_3 t118 _ ?side1 ?side2 A31.out).mono ?_);(case side1 => repeat (first|exact (Kd.C_below HR0_0.out HB.out)|(with_reducible refine y_o ?_ _)|(with_reducible refine y_p ?_ _)|(with_reducible refine y_q ?_)));(case side2 => exact HC0_0.out);rintro e w34 ⟨rfl,hb⟩;have n0_:=z_a (z_d (g:=gb109) zK hb);have n1_:=z_a (z_f zB hb);clear BK109 HB;have BK109:=n0_;have HB:=n1_;clear n0_ n1_;(try clear hb);(try clear hb2);(try clear hk);(try clear hi)))
           repeat (go_quiet (first|(go_at_call 43;(with_reducible refine (spec_l10Of.calls k3 _ _ l0_0 a0_1 x5_3 t118 _ ?side1 ?side2 A31.out).mono ?_);(case side1 => repeat (first|exact (Kd.C_below HR0_0.out HB.out)|(with_reducible refine y_o ?_ _)|(with_reducible refine y_p ?_ _)|(with_reducible refine y_q ?_)));(case side2 => exact HC0_0.out);rintro e w34 ⟨rfl,hb⟩;have n0_:=z_a (z_d (g:=gb109) zK hb);have n1_:=z_a (z_f zB hb);clear BK109 HB;have BK109:=n0_;have HB:=n1_;clear n0_ n1_;(try clear hb);(try clear hb2);(try clear hk);(try clear hi)));try go_wp2_with (first|(go_at_call 43;(with_reducible refine (spec_l10Of.calls k3 _ _ l0_0 a0_1 x5_3 t118 _ ?side1 ?side2 A31.out).mono ?_);(case side1 => repeat (first|exact (Kd.C_below HR0_0.out HB.out)|(with_reducible refine y_o ?_ _)|(with_reducible refine y_p ?_ _)|(with_reducible refine y_q ?_)));(case side2 => exact HC0_0.out);rintro e w34 ⟨rfl,hb⟩;have n0_:=z_a (z_d (g:=gb109) zK hb);have n1_:=z_a (z_f zB hb);clear BK109 HB;have BK109:=n0_;have HB:=n1_;clear n0_ n1_;(try clear hb);(try clear hb2);(try clear hk);(try clear hi))))
           go_ret
           exact ⟨by first|rfl|(simp [errW_none,errW_some] <;> rfl)|(simp [*,errW_none,errW_some] <;> rfl),zB⟩
          ·rw [if_neg c32] at H;have c32b0 : decide (5 < t118) = false:=decide_eq_false c32;clear c32;have H' := z_a H;clear H;have hcz35_0 : wr.cell? ⟨gb109,0,none⟩ = some (.slice A0_0 l0_0.length c0_0):=(z_b BK109.out 0).trans rfl;have hcz35_1 : wr.cell? ⟨gb109,1,none⟩ = some (.int .i64 a0_1):=(z_b BK109.out 1).trans rfl;have hfz35_0 := z_4 BK109.out 0;have hfz35_1 := z_4 BK109.out 1
           go_wp2_with (first|(go_at_call 43;(with_reducible refine (spec_l10Of.calls k3 _ _ l0_0 a0_1 x5_3 t118 _ ?side1 ?side2 A31.out).mono ?_);(case side1 => repeat (first|exact (Kd.C_below HR0_0.out HB.out)|(with_reducible refine y_o ?_ _)|(with_reducible refine y_p ?_ _)|(with_reducible refine y_q ?_)));(case side2 => exact HC0_0.out);rintro e w36 ⟨rfl,hb⟩;have n0_:=z_a (z_d (g:=gb109) zK hb);have n1_:=z_a (z_f zB hb);clear BK109 HB;have BK109:=n0_;have HB:=n1_;clear n0_ n1_;(try clear hb);(try clear hb2);(try clear hk);(try clear hi)))
           repeat (go_quiet (first|(go_at_call 43;(with_reducible refine (spec_l10Of.calls k3 _ _ l0_0 a0_1 x5_3 t118 _ ?side1 ?side2 A31.out).mono ?_);(case side1 => repeat (first|exact (Kd.C_below HR0_0.out HB.out)|(with_reducible refine y_o ?_ _)|(with_reducible refine y_p ?_ _)|(with_reducible refine y_q ?_)));(case side2 => exact HC0_0.out);rintro e w36 ⟨rfl,hb⟩;have n0_:=z_a (z_d (g:=gb109) zK hb);have n1_:=z_a (z_f zB hb);clear BK109 HB;have BK109:=n0_;have HB:=n1_;clear n0_ n1_;(try clear hb);(try clear hb2);(try clear hk);(try clear hi)));try go_wp2_with (first|(go_at_call 43;(with_reducible refine (spec_l10Of.calls k3 _ _ l0_0 a0_1 x5_3 t118 _ ?side1 ?side2 A31.out).mono ?_);(case side1 => repeat (first|exact (Kd.C_below HR0_0.out HB.out)|(with_reducible refine y_o ?_ _)|(with_reducible refine y_p ?_ _)|(with_reducible refine y_q ?_)));(case side2 => exact HC0_0.out);rintro e w36 ⟨rfl,hb⟩;have n0_:=z_a (z_d (g:=gb109) zK hb);have n1_:=z_a (z_f zB hb);clear BK109 HB;have BK109:=n0_;have HB:=n1_;clear n0_ n1_;(try clear hb);(try clear hb2);(try clear hk);(try clear hi))))
           go_roundg k3
           case measure => have:=HJ1.out;have:=HK2.out;have:=HK3.out;omega
           case rel => exact ⟨(wrap64 (x5_3 + 1)),(by first|rfl|(simp;done)|(simp [*];done)),H',⟨by have:=HJ1.out;have:=HK2.out;have:=HK3.out;omega⟩,⟨by (with_reducible repeat (first|refine y_b ?_ _|refine y_c ?_|refine y_d ?_ _));exact BK109.out⟩,⟨zB⟩⟩
         ·rw [if_neg c30] at H;have c30b0 : decide (x5_3 < 2) = false:=decide_eq_false c30;clear c30;obtain rfl := Option.some.inj H
          go_wp2
          repeat (go_quiet (fail); try go_wp2)
          go_ret
          exact ⟨by first|rfl|(simp [errW_none,errW_some] <;> rfl)|(simp [*,errW_none,errW_some] <;> rfl),zB⟩

end Go.Proofs.Ytlfnjkcgefcidaa.PFnPoolDrop
