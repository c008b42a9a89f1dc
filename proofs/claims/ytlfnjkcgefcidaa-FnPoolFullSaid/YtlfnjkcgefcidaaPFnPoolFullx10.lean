-- Written by a program of this session over the print's form. Lean checks it.
import Derived.Test.YtlfnjkcgefcidaaPFnPoolFullx0
import Derived.Test.YtlfnjkcgefcidaaPFnPoolFullx8
import Derived.Test.YtlfnjkcgefcidaaPFnPoolFullx9
namespace Go.Proofs.Ytlfnjkcgefcidaa.PFnPoolFull
open Go.RowKit Go.Proofs.YtlfnjkcgefcidaaW.PrintWords Go.Proofs.YtlfnjkcgefcidaaW.PrintLast Go.Proofs.YtlfnjkcgefcidaaW.PrintMore
attribute [local go_sem] max2_int min2_int max_two min_two max_three min_three max_four min_four   -- for this text's walks alone
set_option linter.unusedVariables false
set_option linter.unusedSimpArgs false

/-! ### spec_PoolOk: function 16 -/
mutual
def spec_PoolOk.j0 : Nat → Bool → List (S41) → Int → Option (Bool)
 | 0, _, _, _ => none
 | k + 1, x15, x183000, x183001 => if x15 = true then (some false) else (spec_PoolOk.l0 k 0 x183000 x183001)
def spec_PoolOk.l0 : Nat → Int → List (S41) → Int → Option (Bool)
 | 0, _, _, _ => none
 | k + 1, x3, x183000, x183001 => if x3 < (x183000.length : Int) then (if 0 ≤ x3 then ((spec_l10Ok.f ((rd_T41 x183000 x3).f0) ((rd_T41 x183000 x3).f1) ((rd_T41 x183000 x3).f2) ((rd_T41 x183000 x3).f3) ((rd_T41 x183000 x3).f4)).bind fun t185 => (if t185 = true then (spec_PoolOk.l1 k x3 0 x183000 x183001) else (some false))) else (none)) else (spec_PoolOk.l2 k 0 x183000 x183001)
def spec_PoolOk.l1 : Nat → Int → Int → List (S41) → Int → Option (Bool)
 | 0, _, _, _, _ => none
 | k + 1, x3, x4, x183000, x183001 => if x4 < x3 then (if 0 ≤ x3 then (if x3 < (x183000.length : Int) then (if ((rd_T41 x183000 x3).f1) > 0 then (if 0 ≤ x4 then (if x4 < (x183000.length : Int) then (if ((rd_T41 x183000 x3).f1) = ((rd_T41 x183000 x4).f1) then (if ((rd_T41 x183000 x3).f2) = ((rd_T41 x183000 x4).f2) then (some false) else (spec_PoolOk.l1 k x3 (wrap64 (x4 + 1)) x183000 x183001)) else (spec_PoolOk.l1 k x3 (wrap64 (x4 + 1)) x183000 x183001)) else (none)) else (none)) else (spec_PoolOk.l1 k x3 (wrap64 (x4 + 1)) x183000 x183001)) else (none)) else (none)) else (spec_PoolOk.l0 k (wrap64 (x3 + 1)) x183000 x183001)
def spec_PoolOk.l2 : Nat → Int → List (S41) → Int → Option (Bool)
 | 0, _, _, _ => none
 | k + 1, x5, x183000, x183001 => if x5 < 2 then ((spec_l10Of.f k x183000 x183001 x5).bind fun t191 => (if t191 > 5 then (some false) else (spec_PoolOk.l2 k (wrap64 (x5 + 1)) x183000 x183001))) else (some true)
end
def spec_PoolOk.f (k : Nat) (l0_0 : List (S41)) (a0_1 : Int) : Option (Bool) := if (l0_0.length : Int) = 8 then ((spec_l1In.f a0_1 0 7).bind fun t183 => (spec_PoolOk.j0 k (!t183) l0_0 a0_1)) else (spec_PoolOk.j0 k true l0_0 a0_1)
theorem spec_PoolOk.mono_l : ∀ k, (∀ y0 y1 y2, LeO (spec_PoolOk.j0 k y0 y1 y2) (spec_PoolOk.j0 (k + 1) y0 y1 y2)) ∧ (∀ y0 y1 y2, LeO (spec_PoolOk.l0 k y0 y1 y2) (spec_PoolOk.l0 (k + 1) y0 y1 y2)) ∧ (∀ y0 y1 y2 y3, LeO (spec_PoolOk.l1 k y0 y1 y2 y3) (spec_PoolOk.l1 (k + 1) y0 y1 y2 y3)) ∧ (∀ y0 y1 y2, LeO (spec_PoolOk.l2 k y0 y1 y2) (spec_PoolOk.l2 (k + 1) y0 y1 y2))
 | 0 => ⟨fun _ _ _ r h => by simp [spec_PoolOk.j0] at h, fun _ _ _ r h => by simp [spec_PoolOk.l0] at h, fun _ _ _ _ r h => by simp [spec_PoolOk.l1] at h, fun _ _ _ r h => by simp [spec_PoolOk.l2] at h⟩
 | k + 1 => by
  obtain ⟨ih0, ih1, ih2, ih3⟩ := spec_PoolOk.mono_l k
  refine ⟨?_, ?_, ?_, ?_⟩
  ·intro y0 y1 y2
   unfold spec_PoolOk.j0
   repeat' first
   | (with_reducible exact ih0 _ _ _)
   | (with_reducible exact ih1 _ _ _)
   | (with_reducible exact ih2 _ _ _ _)
   | (with_reducible exact ih3 _ _ _)
   | (with_reducible exact spec_l10Of.mono _ _ _ _)
   | (with_reducible exact LeO.refl _)
   | (with_reducible exact LeO.none _)
   | (with_reducible refine LeO.ite ?_ ?_)
   | (with_reducible refine LeO.bind ?_ (fun _ => ?_))
   | exact ih0 _ _ _
   | exact ih1 _ _ _
   | exact ih2 _ _ _ _
   | exact ih3 _ _ _
   | exact spec_l10Of.mono _ _ _ _
   | exact LeO.none _
   | refine LeO.ite ?_ ?_
   | refine LeO.bind ?_ (fun _ => ?_)
  ·intro y0 y1 y2
   unfold spec_PoolOk.l0
   repeat' first
   | (with_reducible exact ih0 _ _ _)
   | (with_reducible exact ih1 _ _ _)
   | (with_reducible exact ih2 _ _ _ _)
   | (with_reducible exact ih3 _ _ _)
   | (with_reducible exact spec_l10Of.mono _ _ _ _)
   | (with_reducible exact LeO.refl _)
   | (with_reducible exact LeO.none _)
   | (with_reducible refine LeO.ite ?_ ?_)
   | (with_reducible refine LeO.bind ?_ (fun _ => ?_))
   | exact ih0 _ _ _
   | exact ih1 _ _ _
   | exact ih2 _ _ _ _
   | exact ih3 _ _ _
   | exact spec_l10Of.mono _ _ _ _
   | exact LeO.none _
   | refine LeO.ite ?_ ?_
   | refine LeO.bind ?_ (fun _ => ?_)
  ·intro y0 y1 y2 y3
   unfold spec_PoolOk.l1
   repeat' first
   | (with_reducible exact ih0 _ _ _)
   | (with_reducible exact ih1 _ _ _)
   | (with_reducible exact ih2 _ _ _ _)
   | (with_reducible exact ih3 _ _ _)
   | (with_reducible exact spec_l10Of.mono _ _ _ _)
   | (with_reducible exact LeO.refl _)
   | (with_reducible exact LeO.none _)
   | (with_reducible refine LeO.ite ?_ ?_)
   | (with_reducible refine LeO.bind ?_ (fun _ => ?_))
   | exact ih0 _ _ _
   | exact ih1 _ _ _
   | exact ih2 _ _ _ _
   | exact ih3 _ _ _
   | exact spec_l10Of.mono _ _ _ _
   | exact LeO.none _
   | refine LeO.ite ?_ ?_
   | refine LeO.bind ?_ (fun _ => ?_)
  ·intro y0 y1 y2
   unfold spec_PoolOk.l2
   repeat' first
   | (with_reducible exact ih0 _ _ _)
   | (with_reducible exact ih1 _ _ _)
   | (with_reducible exact ih2 _ _ _ _)
   | (with_reducible exact ih3 _ _ _)
   | (with_reducible exact spec_l10Of.mono _ _ _ _)
   | (with_reducible exact LeO.refl _)
   | (with_reducible exact LeO.none _)
   | (with_reducible refine LeO.ite ?_ ?_)
   | (with_reducible refine LeO.bind ?_ (fun _ => ?_))
   | exact ih0 _ _ _
   | exact ih1 _ _ _
   | exact ih2 _ _ _ _
   | exact ih3 _ _ _
   | exact spec_l10Of.mono _ _ _ _
   | exact LeO.none _
   | refine LeO.ite ?_ ?_
   | refine LeO.bind ?_ (fun _ => ?_)
theorem spec_PoolOk.mono : ∀ a0 a1 k, LeO (spec_PoolOk.f k a0 a1) (spec_PoolOk.f (k + 1) a0 a1) := by
 intro a0 a1 k;obtain ⟨ih0, ih1, ih2, ih3⟩ := spec_PoolOk.mono_l k;unfold spec_PoolOk.f
 repeat' first
   | (with_reducible exact ih0 _ _ _)
   | (with_reducible exact ih1 _ _ _)
   | (with_reducible exact ih2 _ _ _ _)
   | (with_reducible exact ih3 _ _ _)
   | (with_reducible exact spec_l10Of.mono _ _ _ _)
   | (with_reducible exact LeO.refl _)
   | (with_reducible exact LeO.none _)
   | (with_reducible refine LeO.ite ?_ ?_)
   | (with_reducible refine LeO.bind ?_ (fun _ => ?_))
   | exact ih0 _ _ _
   | exact ih1 _ _ _
   | exact ih2 _ _ _ _
   | exact ih3 _ _ _
   | exact spec_l10Of.mono _ _ _ _
   | exact LeO.none _
   | refine LeO.ite ?_ ?_
   | refine LeO.bind ?_ (fun _ => ?_)
set_option maxHeartbeats 8000000 in
set_option maxRecDepth 100000 in
theorem spec_PoolOk.calls (k : Nat) (A0_0 : Option Addr) (c0_0 : Nat) (l0_0 : List (S41)) (a0_1 : Int) (r : Bool) (w : World) (hr0_0 : Kd.C k41 w A0_0 l0_0.length l0_0) (hc0_0 : l0_0.length ≤ c0_0) (h : spec_PoolOk.f k l0_0 a0_1 = some r) :
  Calls Try.prog 16 #[.agg #[.slice A0_0 l0_0.length c0_0, .int .i64 a0_1]] w fun e w' => e = .returned (.bool r) ∧ Below w.heap.size w w' := by
 have hu29 := Try.underlying29;have hu41 := Try.underlying41;have HR0_0 := z_a hr0_0;have HC0_0 := z_a hc0_0;clear hr0_0 hc0_0;have HB := z_a (Below.refl w.heap.size w);have H : (if (l0_0.length : Int) = 8 then ((spec_l1In.f a0_1 0 7).bind fun t183 => (spec_PoolOk.j0 k (!t183) l0_0 a0_1)) else (spec_PoolOk.j0 k true l0_0 a0_1)) = some r:=h;clear h;have HC2 := z_a H;clear H
 go_enter Try.func16, Try.ntmps16
 go_upto_region 1 with (first|((with_reducible refine gate_dst (N:=1) rfl ?_);refine box_event ?hg (N:=1) ?hd (cs:=#[.slice A0_0 l0_0.length c0_0,.int .i64 a0_1]) (t:=29) ?hr ?_;(case hd => rfl);(case hg => rfl);(case hr => first|(go_simp;done)|(go_simp;rfl));intro gb182 hg w3 hbox hb;have n0_:=z_a (z_f zB hb);have n1_:=z_a (hbox);have n2_:=z_a ((by rw [hg];exact (z_g zB) : w.heap.size ≤ gb182));have n3_:=z_a ((by rw [hg];exact (z_g zB) : w.heap.size ≤ gb182));clear HB;have HB:=n0_;have BK182:=n1_;have GW182:=n2_;have GE182:=n3_;clear n0_ n1_ n2_ n3_;clear hb hbox hg))
 repeat (go_quiet (first|((with_reducible refine gate_dst (N:=1) rfl ?_);refine box_event ?hg (N:=1) ?hd (cs:=#[.slice A0_0 l0_0.length c0_0,.int .i64 a0_1]) (t:=29) ?hr ?_;(case hd => rfl);(case hg => rfl);(case hr => first|(go_simp;done)|(go_simp;rfl));intro gb182 hg w3 hbox hb;have n0_:=z_a (z_f zB hb);have n1_:=z_a (hbox);have n2_:=z_a ((by rw [hg];exact (z_g zB) : w.heap.size ≤ gb182));have n3_:=z_a ((by rw [hg];exact (z_g zB) : w.heap.size ≤ gb182));clear HB;have HB:=n0_;have BK182:=n1_;have GW182:=n2_;have GE182:=n3_;clear n0_ n1_ n2_ n3_;clear hb hbox hg));go_upto_region 1 with (first|((with_reducible refine gate_dst (N:=1) rfl ?_);refine box_event ?hg (N:=1) ?hd (cs:=#[.slice A0_0 l0_0.length c0_0,.int .i64 a0_1]) (t:=29) ?hr ?_;(case hd => rfl);(case hg => rfl);(case hr => first|(go_simp;done)|(go_simp;rfl));intro gb182 hg w3 hbox hb;have n0_:=z_a (z_f zB hb);have n1_:=z_a (hbox);have n2_:=z_a ((by rw [hg];exact (z_g zB) : w.heap.size ≤ gb182));have n3_:=z_a ((by rw [hg];exact (z_g zB) : w.heap.size ≤ gb182));clear HB;have HB:=n0_;have BK182:=n1_;have GW182:=n2_;have GE182:=n3_;clear n0_ n1_ n2_ n3_;clear hb hbox hg)))
 (try simp only [Act.put,z_1,z_2,z_3])
 go_cut [15] (fun v15 wc => ∃ (kq : Nat) (x15_1 : Bool),v15 = .bool x15_1 ∧ Aside0 (spec_PoolOk.j0 kq x15_1 l0_0 a0_1 = some r) ∧ Aside0 (kq ≤ k) ∧ Aside0 (wc.heap[gb182]? = some (.cells #[(.slice A0_0 l0_0.length c0_0),.int .i64 a0_1] 29 (0,0))) ∧ Aside0 (Below w.heap.size w wc))
 case first =>
  have H := HC2.out;clear HC2
  by_cases c4 : (l0_0.length : Int) = 8
  ·rw [if_pos c4] at H;have c4b0 : ((l0_0.length : Int) == 8) = true:=beq_iff_eq.mpr c4;have c4b1 : ((l0_0.length : Int) != 8) = false:=bne_eq_false_iff_eq.mpr c4;clear c4
   (first|rw [c4b0]|(simp only [i64_w,i32_w];rw [c4b0])|skip)
   replace H := z_8 H;obtain ⟨t183, A50, H⟩ := H;replace H : (spec_PoolOk.j0 k (!t183) l0_0 a0_1) = some r:=H;have A5 := z_a A50;clear A50;have H' := z_a H;clear H;have hcz6_0 : w3.cell? ⟨gb182,0,none⟩ = some (.slice A0_0 l0_0.length c0_0):=(z_b BK182.out 0).trans rfl;have hcz6_1 : w3.cell? ⟨gb182,1,none⟩ = some (.int .i64 a0_1):=(z_b BK182.out 1).trans rfl;have hfz6_0 := z_4 BK182.out 0;have hfz6_1 := z_4 BK182.out 1
   go_wp2_with (first|(go_at_call 41;(with_reducible refine (spec_l1In.calls a0_1 0 7 t183 _ A5.out).mono ?_);rintro e w' ⟨rfl,⟨nd,rfl⟩⟩;(try first|exact ⟨rfl,_,World.drewN_drewN _ _ _⟩|exact ⟨rfl,_,Eq.trans (World.drewN_drewN _ _ _) (congrArg (World.drewN _) (Nat.add_assoc _ _ _))⟩)))
   repeat (go_quiet (first|(go_at_call 41;(with_reducible refine (spec_l1In.calls a0_1 0 7 t183 _ A5.out).mono ?_);rintro e w' ⟨rfl,⟨nd,rfl⟩⟩;(try first|exact ⟨rfl,_,World.drewN_drewN _ _ _⟩|exact ⟨rfl,_,Eq.trans (World.drewN_drewN _ _ _) (congrArg (World.drewN _) (Nat.add_assoc _ _ _))⟩)));try go_wp2_with (first|(go_at_call 41;(with_reducible refine (spec_l1In.calls a0_1 0 7 t183 _ A5.out).mono ?_);rintro e w' ⟨rfl,⟨nd,rfl⟩⟩;(try first|exact ⟨rfl,_,World.drewN_drewN _ _ _⟩|exact ⟨rfl,_,Eq.trans (World.drewN_drewN _ _ _) (congrArg (World.drewN _) (Nat.add_assoc _ _ _))⟩))))
   go_meet
   case rel => exact ⟨_,(!t183),(by first|rfl|(simp;done)|(simp [*];done)),H',⟨by first|omega|exact Nat.le_refl _⟩,⟨by (with_reducible repeat (first|refine y_b ?_ _|refine y_c ?_|refine y_d ?_ _));exact BK182.out⟩,⟨zB⟩⟩
  rw [if_neg c4] at H;have c4b0 : ((l0_0.length : Int) == 8) = false:=beq_eq_false_iff_ne.mpr c4;have c4b1 : ((l0_0.length : Int) != 8) = true:=bne_iff_ne.mpr c4
  (first|rw [c4b0]|(simp only [i64_w,i32_w];rw [c4b0])|skip)
  have H' := z_a H;clear H;have hcz7_0 : w3.cell? ⟨gb182,0,none⟩ = some (.slice A0_0 l0_0.length c0_0):=(z_b BK182.out 0).trans rfl;have hcz7_1 : w3.cell? ⟨gb182,1,none⟩ = some (.int .i64 a0_1):=(z_b BK182.out 1).trans rfl;have hfz7_0 := z_4 BK182.out 0;have hfz7_1 := z_4 BK182.out 1
  go_wp2
  repeat (go_quiet (fail); try go_wp2)
  go_meet
  case rel => exact ⟨_,(true),(by first|rfl|(simp;done)|(simp [*];done)),H',⟨by first|omega|exact Nat.le_refl _⟩,⟨by (with_reducible repeat (first|refine y_b ?_ _|refine y_c ?_|refine y_d ?_ _));exact BK182.out⟩,⟨zB⟩⟩
 case rest =>
  clear HC2
  try clear c1
  try clear p2
  try clear c4
  try clear c4b0
  try clear c4b1
  try clear hcz6_0
  try clear hcz6_1
  try clear hcz7_0
  try clear hcz7_1
  try clear hfz6_0
  try clear hfz6_1
  try clear hfz7_0
  try clear hfz7_1
  obtain ⟨kq, x15_1, rfl, HA, HJ1, BK182, HB⟩ := hcut;cases kq with
  | zero => exact absurd HA.out (by simp [spec_PoolOk.j0])
  | succ kj1 =>
   have H := HA.out;clear HA;simp only [spec_PoolOk.j0] at H
   by_cases c8 : x15_1 = true
   ·subst c8;have H1 : (some false) = some r:=by rw [if_pos rfl] at H;exact H
    clear H;have H := H1;clear H1;obtain rfl := Option.some.inj H
    go_wp2
    repeat (go_quiet (fail); try go_wp2)
    go_ret
    exact ⟨by first|rfl|(simp [errW_none,errW_some] <;> rfl)|(simp [*,errW_none,errW_some] <;> rfl),zB⟩
   ·replace c8 := Bool.eq_false_iff.mpr c8;subst c8;have H1 : (spec_PoolOk.l0 kj1 0 l0_0 a0_1) = some r:=by rw [if_neg (show ¬ (false = true) by decide)] at H;exact H
    clear H;have H := H1;clear H1;have H' := z_a H;clear H
    go_wp2
    repeat (go_quiet (fail); try go_wp2)
    go_loopg [3] kj1 (fun kq v3 w' => ∃ (x3_2 : Int),v3 = .int .i64 x3_2 ∧ Aside0 (spec_PoolOk.l0 kq x3_2 l0_0 a0_1 = some r) ∧ Aside0 (kq ≤ kj1) ∧ Aside0 (w'.heap[gb182]? = some (.cells #[(.slice A0_0 l0_0.length c0_0),.int .i64 a0_1] 29 (0,0))) ∧ Aside0 (Below w.heap.size w w'))
    case atStart => exact ⟨(0),(by first|rfl|(simp;done)|(simp [*];done)),H',⟨Nat.le_refl _⟩,⟨by (with_reducible repeat (first|refine y_b ?_ _|refine y_c ?_|refine y_d ?_ _));exact BK182.out⟩,⟨zB⟩⟩
    case round =>
     clear H'
     try clear c1
     try clear p2
     try clear c4
     try clear c4b0
     try clear c4b1
     try clear c8
     try clear hcz6_0
     try clear hcz6_1
     try clear hcz7_0
     try clear hcz7_1
     try clear hfz6_0
     try clear hfz6_1
     try clear hfz7_0
     try clear hfz7_1
     try clear p2
     obtain ⟨x3_2, rfl, HA, HK2, BK182, HB⟩ := hrel;cases gk with
     | zero => exact absurd HA.out (by simp [spec_PoolOk.l0])
     | succ k2 =>
      have H := HA.out;clear HA;simp only [spec_PoolOk.l0] at H
      by_cases c9 : x3_2 < (l0_0.length : Int)
      ·rw [if_pos c9] at H;have c9b0 : decide (x3_2 < (l0_0.length : Int)) = true:=z_e c9;clear c9
       by_cases c10 : 0 ≤ x3_2
       ·rw [if_pos c10] at H;have c10b0 : decide (0 ≤ x3_2) = true := z_e c10;clear c10;replace H := z_8 H;obtain ⟨t185, A110, H⟩ := H;replace H : (if t185 = true then (spec_PoolOk.l1 k2 x3_2 0 l0_0 a0_1) else (some false)) = some r:=H;have A11 := z_a A110;clear A110
        by_cases c12 : t185 = true
        ·subst c12;have H1 : (spec_PoolOk.l1 k2 x3_2 0 l0_0 a0_1) = some r:=by rw [if_pos rfl] at H;exact H
         clear H;have H := H1;clear H1;have H' := z_a H;clear H;have hcz13_0 : wr.cell? ⟨gb182,0,none⟩ = some (.slice A0_0 l0_0.length c0_0):=(z_b BK182.out 0).trans rfl;have hcz13_1 : wr.cell? ⟨gb182,1,none⟩ = some (.int .i64 a0_1):=(z_b BK182.out 1).trans rfl;have hfz13_0 := z_4 BK182.out 0;have hfz13_1 := z_4 BK182.out 1;have p184 : 0 ≤ (x3_2 : Int):=z_9 (by first|(with_reducible assumption)|assumption);have q184 : x3_2 < (l0_0.length : Int):=z_9 (by first|(with_reducible assumption)|assumption);obtain ⟨ad184,e184,hx184_0,hx184_1,hx184_2,hx184_3,hx184_4⟩:=at_T41 HR0_0.out x3_2 p184 q184;cases e184;replace hx184_0:=(z_c HB.out hx184_0).trans hx184_0;replace hx184_1:=(z_c HB.out hx184_1).trans hx184_1;replace hx184_2:=(z_c HB.out hx184_2).trans hx184_2;replace hx184_3:=(z_c HB.out hx184_3).trans hx184_3;replace hx184_4:=(z_c HB.out hx184_4).trans hx184_4;replace p184 := eq_true p184;replace q184 := eq_true q184
         go_wp2_with (first|(go_at_call 42;(with_reducible refine (spec_l10Ok.calls ((rd_T41 l0_0 x3_2).f0) ((rd_T41 l0_0 x3_2).f1) ((rd_T41 l0_0 x3_2).f2) ((rd_T41 l0_0 x3_2).f3) ((rd_T41 l0_0 x3_2).f4) true _ A11.out).mono ?_);rintro e w14 ⟨rfl,hb⟩;have n0_:=z_a (z_d (g:=gb182) zK hb);have n1_:=z_a (z_f zB hb);clear BK182 HB;have BK182:=n0_;have HB:=n1_;clear n0_ n1_;(try clear hb);(try clear hb2);(try clear hk);(try clear hi)))
         repeat (go_quiet (first|(go_at_call 42;(with_reducible refine (spec_l10Ok.calls ((rd_T41 l0_0 x3_2).f0) ((rd_T41 l0_0 x3_2).f1) ((rd_T41 l0_0 x3_2).f2) ((rd_T41 l0_0 x3_2).f3) ((rd_T41 l0_0 x3_2).f4) true _ A11.out).mono ?_);rintro e w14 ⟨rfl,hb⟩;have n0_:=z_a (z_d (g:=gb182) zK hb);have n1_:=z_a (z_f zB hb);clear BK182 HB;have BK182:=n0_;have HB:=n1_;clear n0_ n1_;(try clear hb);(try clear hb2);(try clear hk);(try clear hi)));try go_wp2_with (first|(go_at_call 42;(with_reducible refine (spec_l10Ok.calls ((rd_T41 l0_0 x3_2).f0) ((rd_T41 l0_0 x3_2).f1) ((rd_T41 l0_0 x3_2).f2) ((rd_T41 l0_0 x3_2).f3) ((rd_T41 l0_0 x3_2).f4) true _ A11.out).mono ?_);rintro e w14 ⟨rfl,hb⟩;have n0_:=z_a (z_d (g:=gb182) zK hb);have n1_:=z_a (z_f zB hb);clear BK182 HB;have BK182:=n0_;have HB:=n1_;clear n0_ n1_;(try clear hb);(try clear hb2);(try clear hk);(try clear hi))))
         go_loopg [4] k2 (fun kq v4 w' => ∃ (x4_3 : Int),v4 = .int .i64 x4_3 ∧ Aside0 (spec_PoolOk.l1 kq x3_2 x4_3 l0_0 a0_1 = some r) ∧ Aside0 (kq ≤ k2) ∧ Aside0 (w'.heap[gb182]? = some (.cells #[(.slice (some ad184) l0_0.length c0_0),.int .i64 a0_1] 29 (0,0))) ∧ Aside0 (Below w.heap.size w w'))
         case atStart => exact ⟨(0),(by first|rfl|(simp;done)|(simp [*];done)),H',⟨Nat.le_refl _⟩,⟨by (with_reducible repeat (first|refine y_b ?_ _|refine y_c ?_|refine y_d ?_ _));exact BK182.out⟩,⟨zB⟩⟩
         case round =>
          clear H'
          try clear c1
          try clear p1
          try clear q1
          try clear hx1
          try clear p2
          try clear c4
          try clear c4b0
          try clear c4b1
          try clear c8
          try clear c9
          try clear c9b0
          try clear c10
          try clear c10b0
          try clear c12
          try clear hcz13_0
          try clear hcz13_1
          try clear hcz6_0
          try clear hcz6_1
          try clear hcz7_0
          try clear hcz7_1
          try clear hfz13_0
          try clear hfz13_1
          try clear hfz6_0
          try clear hfz6_1
          try clear hfz7_0
          try clear hfz7_1
          try clear hx184_0
          try clear hx184_1
          try clear hx184_2
          try clear hx184_3
          try clear hx184_4
          try clear p184
          try clear p2
          try clear q184
          obtain ⟨x4_3, rfl, HA, HK3, BK182, HB⟩ := hrel;cases gk with
          | zero => exact absurd HA.out (by simp [spec_PoolOk.l1])
          | succ k3 =>
           have H := HA.out;clear HA;simp only [spec_PoolOk.l1] at H
           by_cases c15 : x4_3 < x3_2
           ·rw [if_pos c15] at H;have c15b0 : decide (x4_3 < x3_2) = true:=z_e c15;clear c15
            by_cases c16 : 0 ≤ x3_2
            ·rw [if_pos c16] at H;have c16b0 : decide (0 ≤ x3_2) = true := z_e c16;clear c16
             by_cases c17 : x3_2 < (l0_0.length : Int)
             ·rw [if_pos c17] at H;have c17b0 : decide (x3_2 < (l0_0.length : Int)) = true:=z_e c17;clear c17
              by_cases c18 : ((rd_T41 l0_0 x3_2).f1) > 0
              ·rw [if_pos c18] at H;have c18b0 : decide (0 < ((rd_T41 l0_0 x3_2).f1)) = true:=z_e c18;clear c18
               by_cases c19 : 0 ≤ x4_3
               ·rw [if_pos c19] at H;have c19b0 : decide (0 ≤ x4_3) = true := z_e c19;clear c19
                by_cases c20 : x4_3 < (l0_0.length : Int)
                ·rw [if_pos c20] at H;have c20b0 : decide (x4_3 < (l0_0.length : Int)) = true:=z_e c20;clear c20
                 by_cases c21 : ((rd_T41 l0_0 x3_2).f1) = ((rd_T41 l0_0 x4_3).f1)
                 ·rw [if_pos c21] at H;have c21b0 : (((rd_T41 l0_0 x3_2).f1) == ((rd_T41 l0_0 x4_3).f1)) = true:=beq_iff_eq.mpr c21;have c21b1 : (((rd_T41 l0_0 x3_2).f1) != ((rd_T41 l0_0 x4_3).f1)) = false:=bne_eq_false_iff_eq.mpr c21;clear c21
                  by_cases c22 : ((rd_T41 l0_0 x3_2).f2) = ((rd_T41 l0_0 x4_3).f2)
                  ·rw [if_pos c22] at H;have c22b0 : (((rd_T41 l0_0 x3_2).f2) == ((rd_T41 l0_0 x4_3).f2)) = true:=beq_iff_eq.mpr c22;have c22b1 : (((rd_T41 l0_0 x3_2).f2) != ((rd_T41 l0_0 x4_3).f2)) = false:=bne_eq_false_iff_eq.mpr c22;clear c22;obtain rfl := Option.some.inj H;have hcz23_0 : wr.cell? ⟨gb182,0,none⟩ = some (.slice (some ad184) l0_0.length c0_0):=(z_b BK182.out 0).trans rfl;have hcz23_1 : wr.cell? ⟨gb182,1,none⟩ = some (.int .i64 a0_1):=(z_b BK182.out 1).trans rfl;have hfz23_0 := z_4 BK182.out 0;have hfz23_1 := z_4 BK182.out 1;have p186 : 0 ≤ (x3_2 : Int):=z_9 (by first|(with_reducible assumption)|assumption);have q186 : x3_2 < (l0_0.length : Int):=z_9 (by first|(with_reducible assumption)|assumption);obtain ⟨ad186,e186,hx186_0,hx186_1,hx186_2,hx186_3,hx186_4⟩:=at_T41 HR0_0.out x3_2 p186 q186;obtain rfl : ad184 = ad186 := (by injection e186);replace hx186_0:=(z_c HB.out hx186_0).trans hx186_0;replace hx186_1:=(z_c HB.out hx186_1).trans hx186_1;replace hx186_2:=(z_c HB.out hx186_2).trans hx186_2;replace hx186_3:=(z_c HB.out hx186_3).trans hx186_3;replace hx186_4:=(z_c HB.out hx186_4).trans hx186_4;replace p186 := eq_true p186;replace q186 := eq_true q186;have p187 : 0 ≤ (x3_2 : Int):=z_9 (by first|(with_reducible assumption)|assumption);have q187 : x3_2 < (l0_0.length : Int):=z_9 (by first|(with_reducible assumption)|assumption);obtain ⟨ad187,e187,hx187_0,hx187_1,hx187_2,hx187_3,hx187_4⟩:=at_T41 HR0_0.out x3_2 p187 q187
                   obtain rfl : ad184 = ad187 := (by injection e187);replace hx187_0:=(z_c HB.out hx187_0).trans hx187_0;replace hx187_1:=(z_c HB.out hx187_1).trans hx187_1;replace hx187_2:=(z_c HB.out hx187_2).trans hx187_2;replace hx187_3:=(z_c HB.out hx187_3).trans hx187_3;replace hx187_4:=(z_c HB.out hx187_4).trans hx187_4;replace p187 := eq_true p187;replace q187 := eq_true q187;have p188 : 0 ≤ (x4_3 : Int):=z_9 (by first|(with_reducible assumption)|assumption);have q188 : x4_3 < (l0_0.length : Int):=z_9 (by first|(with_reducible assumption)|assumption);obtain ⟨ad188,e188,hx188_0,hx188_1,hx188_2,hx188_3,hx188_4⟩:=at_T41 HR0_0.out x4_3 p188 q188;obtain rfl : ad184 = ad188 := (by injection e188);replace hx188_0:=(z_c HB.out hx188_0).trans hx188_0;replace hx188_1:=(z_c HB.out hx188_1).trans hx188_1;replace hx188_2:=(z_c HB.out hx188_2).trans hx188_2;replace hx188_3:=(z_c HB.out hx188_3).trans hx188_3;replace hx188_4:=(z_c HB.out hx188_4).trans hx188_4;replace p188 := eq_true p188;replace q188 := eq_true q188;have p189 : 0 ≤ (x3_2 : Int):=z_9 (by first|(with_reducible assumption)|assumption);have q189 : x3_2 < (l0_0.length : Int):=z_9 (by first|(with_reducible assumption)|assumption);obtain ⟨ad189,e189,hx189_0,hx189_1,hx189_2,hx189_3,hx189_4⟩:=at_T41 HR0_0.out x3_2 p189 q189;obtain rfl : ad184 = ad189 := (by injection e189);replace hx189_0:=(z_c HB.out hx189_0).trans hx189_0;replace hx189_1:=(z_c HB.out hx189_1).trans hx189_1
                   replace hx189_2:=(z_c HB.out hx189_2).trans hx189_2;replace hx189_3:=(z_c HB.out hx189_3).trans hx189_3;replace hx189_4:=(z_c HB.out hx189_4).trans hx189_4;replace p189 := eq_true p189;replace q189 := eq_true q189;have p190 : 0 ≤ (x4_3 : Int):=z_9 (by first|(with_reducible assumption)|assumption);have q190 : x4_3 < (l0_0.length : Int):=z_9 (by first|(with_reducible assumption)|assumption);obtain ⟨ad190,e190,hx190_0,hx190_1,hx190_2,hx190_3,hx190_4⟩:=at_T41 HR0_0.out x4_3 p190 q190;obtain rfl : ad184 = ad190 := (by injection e190);replace hx190_0:=(z_c HB.out hx190_0).trans hx190_0;replace hx190_1:=(z_c HB.out hx190_1).trans hx190_1;replace hx190_2:=(z_c HB.out hx190_2).trans hx190_2;replace hx190_3:=(z_c HB.out hx190_3).trans hx190_3;replace hx190_4:=(z_c HB.out hx190_4).trans hx190_4;replace p190 := eq_true p190;replace q190 := eq_true q190
                   go_wp2
                   repeat (go_quiet (fail); try go_wp2)
                   go_ret
                   exact ⟨by first|rfl|(simp [errW_none,errW_some] <;> rfl)|(simp [*,errW_none,errW_some] <;> rfl),zB⟩
                  ·rw [if_neg c22] at H;have c22b0 : (((rd_T41 l0_0 x3_2).f2) == ((rd_T41 l0_0 x4_3).f2)) = false:=beq_eq_false_iff_ne.mpr c22;have c22b1 : (((rd_T41 l0_0 x3_2).f2) != ((rd_T41 l0_0 x4_3).f2)) = true:=bne_iff_ne.mpr c22;have H' := z_a H;clear H;have hcz24_0 : wr.cell? ⟨gb182,0,none⟩ = some (.slice (some ad184) l0_0.length c0_0):=(z_b BK182.out 0).trans rfl;have hcz24_1 : wr.cell? ⟨gb182,1,none⟩ = some (.int .i64 a0_1):=(z_b BK182.out 1).trans rfl;have hfz24_0 := z_4 BK182.out 0;have hfz24_1 := z_4 BK182.out 1;have p186 : 0 ≤ (x3_2 : Int):=z_9 (by first|(with_reducible assumption)|assumption);have q186 : x3_2 < (l0_0.length : Int):=z_9 (by first|(with_reducible assumption)|assumption);obtain ⟨ad186,e186,hx186_0,hx186_1,hx186_2,hx186_3,hx186_4⟩:=at_T41 HR0_0.out x3_2 p186 q186;obtain rfl : ad184 = ad186 := (by injection e186);replace hx186_0:=(z_c HB.out hx186_0).trans hx186_0;replace hx186_1:=(z_c HB.out hx186_1).trans hx186_1;replace hx186_2:=(z_c HB.out hx186_2).trans hx186_2;replace hx186_3:=(z_c HB.out hx186_3).trans hx186_3;replace hx186_4:=(z_c HB.out hx186_4).trans hx186_4;replace p186 := eq_true p186;replace q186 := eq_true q186;have p187 : 0 ≤ (x3_2 : Int):=z_9 (by first|(with_reducible assumption)|assumption);have q187 : x3_2 < (l0_0.length : Int):=z_9 (by first|(with_reducible assumption)|assumption);obtain ⟨ad187,e187,hx187_0,hx187_1,hx187_2,hx187_3,hx187_4⟩:=at_T41 HR0_0.out x3_2 p187 q187
                   obtain rfl : ad184 = ad187 := (by injection e187);replace hx187_0:=(z_c HB.out hx187_0).trans hx187_0;replace hx187_1:=(z_c HB.out hx187_1).trans hx187_1;replace hx187_2:=(z_c HB.out hx187_2).trans hx187_2;replace hx187_3:=(z_c HB.out hx187_3).trans hx187_3;replace hx187_4:=(z_c HB.out hx187_4).trans hx187_4;replace p187 := eq_true p187;replace q187 := eq_true q187;have p188 : 0 ≤ (x4_3 : Int):=z_9 (by first|(with_reducible assumption)|assumption);have q188 : x4_3 < (l0_0.length : Int):=z_9 (by first|(with_reducible assumption)|assumption);obtain ⟨ad188,e188,hx188_0,hx188_1,hx188_2,hx188_3,hx188_4⟩:=at_T41 HR0_0.out x4_3 p188 q188;obtain rfl : ad184 = ad188 := (by injection e188);replace hx188_0:=(z_c HB.out hx188_0).trans hx188_0;replace hx188_1:=(z_c HB.out hx188_1).trans hx188_1;replace hx188_2:=(z_c HB.out hx188_2).trans hx188_2;replace hx188_3:=(z_c HB.out hx188_3).trans hx188_3;replace hx188_4:=(z_c HB.out hx188_4).trans hx188_4;replace p188 := eq_true p188;replace q188 := eq_true q188;have p189 : 0 ≤ (x3_2 : Int):=z_9 (by first|(with_reducible assumption)|assumption);have q189 : x3_2 < (l0_0.length : Int):=z_9 (by first|(with_reducible assumption)|assumption);obtain ⟨ad189,e189,hx189_0,hx189_1,hx189_2,hx189_3,hx189_4⟩:=at_T41 HR0_0.out x3_2 p189 q189;obtain rfl : ad184 = ad189 := (by injection e189);replace hx189_0:=(z_c HB.out hx189_0).trans hx189_0;replace hx189_1:=(z_c HB.out hx189_1).trans hx189_1
                   replace hx189_2:=(z_c HB.out hx189_2).trans hx189_2;replace hx189_3:=(z_c HB.out hx189_3).trans hx189_3;replace hx189_4:=(z_c HB.out hx189_4).trans hx189_4;replace p189 := eq_true p189;replace q189 := eq_true q189;have p190 : 0 ≤ (x4_3 : Int):=z_9 (by first|(with_reducible assumption)|assumption);have q190 : x4_3 < (l0_0.length : Int):=z_9 (by first|(with_reducible assumption)|assumption);obtain ⟨ad190,e190,hx190_0,hx190_1,hx190_2,hx190_3,hx190_4⟩:=at_T41 HR0_0.out x4_3 p190 q190;obtain rfl : ad184 = ad190 := (by injection e190);replace hx190_0:=(z_c HB.out hx190_0).trans hx190_0;replace hx190_1:=(z_c HB.out hx190_1).trans hx190_1;replace hx190_2:=(z_c HB.out hx190_2).trans hx190_2;replace hx190_3:=(z_c HB.out hx190_3).trans hx190_3;replace hx190_4:=(z_c HB.out hx190_4).trans hx190_4;replace p190 := eq_true p190;replace q190 := eq_true q190
                   go_wp2
                   repeat (go_quiet (fail); try go_wp2)
                   go_roundg k3
                   case measure => have:=HJ1.out;have:=HK2.out;have:=HK3.out;omega
                   case rel => exact ⟨(wrap64 (x4_3 + 1)),(by first|rfl|(simp;done)|(simp [*];done)),H',⟨by have:=HJ1.out;have:=HK2.out;have:=HK3.out;omega⟩,⟨by (with_reducible repeat (first|refine y_b ?_ _|refine y_c ?_|refine y_d ?_ _));exact BK182.out⟩,⟨zB⟩⟩
                 ·rw [if_neg c21] at H;have c21b0 : (((rd_T41 l0_0 x3_2).f1) == ((rd_T41 l0_0 x4_3).f1)) = false:=beq_eq_false_iff_ne.mpr c21;have c21b1 : (((rd_T41 l0_0 x3_2).f1) != ((rd_T41 l0_0 x4_3).f1)) = true:=bne_iff_ne.mpr c21;have H' := z_a H;clear H;have hcz25_0 : wr.cell? ⟨gb182,0,none⟩ = some (.slice (some ad184) l0_0.length c0_0):=(z_b BK182.out 0).trans rfl;have hcz25_1 : wr.cell? ⟨gb182,1,none⟩ = some (.int .i64 a0_1):=(z_b BK182.out 1).trans rfl;have hfz25_0 := z_4 BK182.out 0;have hfz25_1 := z_4 BK182.out 1;have p186 : 0 ≤ (x3_2 : Int):=z_9 (by first|(with_reducible assumption)|assumption);have q186 : x3_2 < (l0_0.length : Int):=z_9 (by first|(with_reducible assumption)|assumption);obtain ⟨ad186,e186,hx186_0,hx186_1,hx186_2,hx186_3,hx186_4⟩:=at_T41 HR0_0.out x3_2 p186 q186;obtain rfl : ad184 = ad186 := (by injection e186);replace hx186_0:=(z_c HB.out hx186_0).trans hx186_0;replace hx186_1:=(z_c HB.out hx186_1).trans hx186_1;replace hx186_2:=(z_c HB.out hx186_2).trans hx186_2;replace hx186_3:=(z_c HB.out hx186_3).trans hx186_3;replace hx186_4:=(z_c HB.out hx186_4).trans hx186_4;replace p186 := eq_true p186;replace q186 := eq_true q186;have p187 : 0 ≤ (x3_2 : Int):=z_9 (by first|(with_reducible assumption)|assumption);have q187 : x3_2 < (l0_0.length : Int):=z_9 (by first|(with_reducible assumption)|assumption);obtain ⟨ad187,e187,hx187_0,hx187_1,hx187_2,hx187_3,hx187_4⟩:=at_T41 HR0_0.out x3_2 p187 q187
                  obtain rfl : ad184 = ad187 := (by injection e187);replace hx187_0:=(z_c HB.out hx187_0).trans hx187_0;replace hx187_1:=(z_c HB.out hx187_1).trans hx187_1;replace hx187_2:=(z_c HB.out hx187_2).trans hx187_2;replace hx187_3:=(z_c HB.out hx187_3).trans hx187_3;replace hx187_4:=(z_c HB.out hx187_4).trans hx187_4;replace p187 := eq_true p187;replace q187 := eq_true q187;have p188 : 0 ≤ (x4_3 : Int):=z_9 (by first|(with_reducible assumption)|assumption);have q188 : x4_3 < (l0_0.length : Int):=z_9 (by first|(with_reducible assumption)|assumption);obtain ⟨ad188,e188,hx188_0,hx188_1,hx188_2,hx188_3,hx188_4⟩:=at_T41 HR0_0.out x4_3 p188 q188;obtain rfl : ad184 = ad188 := (by injection e188);replace hx188_0:=(z_c HB.out hx188_0).trans hx188_0;replace hx188_1:=(z_c HB.out hx188_1).trans hx188_1;replace hx188_2:=(z_c HB.out hx188_2).trans hx188_2;replace hx188_3:=(z_c HB.out hx188_3).trans hx188_3;replace hx188_4:=(z_c HB.out hx188_4).trans hx188_4;replace p188 := eq_true p188;replace q188 := eq_true q188
                  go_wp2
                  repeat (go_quiet (fail); try go_wp2)
                  go_roundg k3
                  case measure => have:=HJ1.out;have:=HK2.out;have:=HK3.out;omega
                  case rel => exact ⟨(wrap64 (x4_3 + 1)),(by first|rfl|(simp;done)|(simp [*];done)),H',⟨by have:=HJ1.out;have:=HK2.out;have:=HK3.out;omega⟩,⟨by (with_reducible repeat (first|refine y_b ?_ _|refine y_c ?_|refine y_d ?_ _));exact BK182.out⟩,⟨zB⟩⟩
                ·rw [if_neg c20] at H;exact absurd H (by simp)
               ·rw [if_neg c19] at H;exact absurd H (by simp)
              ·rw [if_neg c18] at H;have c18b0 : decide (0 < ((rd_T41 l0_0 x3_2).f1)) = false:=decide_eq_false c18;clear c18;have H' := z_a H;clear H;have hcz26_0 : wr.cell? ⟨gb182,0,none⟩ = some (.slice (some ad184) l0_0.length c0_0):=(z_b BK182.out 0).trans rfl;have hcz26_1 : wr.cell? ⟨gb182,1,none⟩ = some (.int .i64 a0_1):=(z_b BK182.out 1).trans rfl;have hfz26_0 := z_4 BK182.out 0;have hfz26_1 := z_4 BK182.out 1;have p186 : 0 ≤ (x3_2 : Int):=z_9 (by first|(with_reducible assumption)|assumption);have q186 : x3_2 < (l0_0.length : Int):=z_9 (by first|(with_reducible assumption)|assumption);obtain ⟨ad186,e186,hx186_0,hx186_1,hx186_2,hx186_3,hx186_4⟩:=at_T41 HR0_0.out x3_2 p186 q186;obtain rfl : ad184 = ad186 := (by injection e186);replace hx186_0:=(z_c HB.out hx186_0).trans hx186_0;replace hx186_1:=(z_c HB.out hx186_1).trans hx186_1;replace hx186_2:=(z_c HB.out hx186_2).trans hx186_2;replace hx186_3:=(z_c HB.out hx186_3).trans hx186_3;replace hx186_4:=(z_c HB.out hx186_4).trans hx186_4;replace p186 := eq_true p186;replace q186 := eq_true q186
               go_wp2
               repeat (go_quiet (fail); try go_wp2)
               go_roundg k3
               case measure => have:=HJ1.out;have:=HK2.out;have:=HK3.out;omega
               case rel => exact ⟨(wrap64 (x4_3 + 1)),(by first|rfl|(simp;done)|(simp [*];done)),H',⟨by have:=HJ1.out;have:=HK2.out;have:=HK3.out;omega⟩,⟨by (with_reducible repeat (first|refine y_b ?_ _|refine y_c ?_|refine y_d ?_ _));exact BK182.out⟩,⟨zB⟩⟩
             ·rw [if_neg c17] at H;exact absurd H (by simp)
            ·rw [if_neg c16] at H;exact absurd H (by simp)
           ·rw [if_neg c15] at H;have c15b0 : decide (x4_3 < x3_2) = false:=decide_eq_false c15;clear c15;have H' := z_a H;clear H
            go_wp2
            repeat (go_quiet (fail); try go_wp2)
            go_roundg k3
            case measure => have:=HJ1.out;have:=HK2.out;have:=HK3.out;omega
            case rel => exact ⟨(wrap64 (x3_2 + 1)),(by first|rfl|(simp;done)|(simp [*];done)),H',⟨by have:=HJ1.out;have:=HK2.out;have:=HK3.out;omega⟩,⟨by (with_reducible repeat (first|refine y_b ?_ _|refine y_c ?_|refine y_d ?_ _));exact BK182.out⟩,⟨zB⟩⟩
        ·replace c12 := Bool.eq_false_iff.mpr c12;subst c12;have H1 : (some false) = some r:=by rw [if_neg (show ¬ (false = true) by decide)] at H;exact H
         clear H;have H := H1;clear H1;obtain rfl := Option.some.inj H;have hcz27_0 : wr.cell? ⟨gb182,0,none⟩ = some (.slice A0_0 l0_0.length c0_0):=(z_b BK182.out 0).trans rfl;have hcz27_1 : wr.cell? ⟨gb182,1,none⟩ = some (.int .i64 a0_1):=(z_b BK182.out 1).trans rfl;have hfz27_0 := z_4 BK182.out 0;have hfz27_1 := z_4 BK182.out 1;have p184 : 0 ≤ (x3_2 : Int):=z_9 (by first|(with_reducible assumption)|assumption);have q184 : x3_2 < (l0_0.length : Int):=z_9 (by first|(with_reducible assumption)|assumption);obtain ⟨ad184,e184,hx184_0,hx184_1,hx184_2,hx184_3,hx184_4⟩:=at_T41 HR0_0.out x3_2 p184 q184;cases e184;replace hx184_0:=(z_c HB.out hx184_0).trans hx184_0;replace hx184_1:=(z_c HB.out hx184_1).trans hx184_1;replace hx184_2:=(z_c HB.out hx184_2).trans hx184_2;replace hx184_3:=(z_c HB.out hx184_3).trans hx184_3;replace hx184_4:=(z_c HB.out hx184_4).trans hx184_4;replace p184 := eq_true p184;replace q184 := eq_true q184
         go_wp2_with (first|(go_at_call 42;(with_reducible refine (spec_l10Ok.calls ((rd_T41 l0_0 x3_2).f0) ((rd_T41 l0_0 x3_2).f1) ((rd_T41 l0_0 x3_2).f2) ((rd_T41 l0_0 x3_2).f3) ((rd_T41 l0_0 x3_2).f4) false _ A11.out).mono ?_);rintro e w28 ⟨rfl,hb⟩;have n0_:=z_a (z_d (g:=gb182) zK hb);have n1_:=z_a (z_f zB hb);clear BK182 HB;have BK182:=n0_;have HB:=n1_;clear n0_ n1_;(try clear hb);(try clear hb2);(try clear hk);(try clear hi)))
         repeat (go_quiet (first|(go_at_call 42;(with_reducible refine (spec_l10Ok.calls ((rd_T41 l0_0 x3_2).f0) ((rd_T41 l0_0 x3_2).f1) ((rd_T41 l0_0 x3_2).f2) ((rd_T41 l0_0 x3_2).f3) ((rd_T41 l0_0 x3_2).f4) false _ A11.out).mono ?_);rintro e w28 ⟨rfl,hb⟩;have n0_:=z_a (z_d (g:=gb182) zK hb);have n1_:=z_a (z_f zB hb);clear BK182 HB;have BK182:=n0_;have HB:=n1_;clear n0_ n1_;(try clear hb);(try clear hb2);(try clear hk);(try clear hi)));try go_wp2_with (first|(go_at_call 42;(with_reducible refine (spec_l10Ok.calls ((rd_T41 l0_0 x3_2).f0) ((rd_T41 l0_0 x3_2).f1) ((rd_T41 l0_0 x3_2).f2) ((rd_T41 l0_0 x3_2).f3) ((rd_T41 l0_0 x3_2).f4) false _ A11.out).mono ?_);rintro e w28 ⟨rfl,hb⟩;have n0_:=z_a (z_d (g:=gb182) zK hb);have n1_:=z_a (z_f zB hb);clear BK182 HB;have BK182:=n0_;have HB:=n1_;clear n0_ n1_;(try clear hb);(try clear hb2);(try clear hk);(try clear hi))))
         go_ret
         exact ⟨by first|rfl|(simp [errW_none,errW_some] <;> rfl)|(simp [*,errW_none,errW_some] <;> rfl),zB⟩
       ·rw [if_neg c10] at H;exact absurd H (by simp)
      ·rw [if_neg c9] at H;have c9b0 : decide (x3_2 < (l0_0.length : Int)) = false:=decide_eq_false c9;clear c9;have H' := z_a H;clear H;have hcz29_0 : wr.cell? ⟨gb182,0,none⟩ = some (.slice A0_0 l0_0.length c0_0):=(z_b BK182.out 0).trans rfl;have hcz29_1 : wr.cell? ⟨gb182,1,none⟩ = some (.int .i64 a0_1):=(z_b BK182.out 1).trans rfl;have hfz29_0 := z_4 BK182.out 0;have hfz29_1 := z_4 BK182.out 1
       go_wp2
       repeat (go_quiet (fail); try go_wp2)
       go_loopg [5] k2 (fun kq v5 w' => ∃ (x5_3 : Int),v5 = .int .i64 x5_3 ∧ Aside0 (spec_PoolOk.l2 kq x5_3 l0_0 a0_1 = some r) ∧ Aside0 (kq ≤ k2) ∧ Aside0 (w'.heap[gb182]? = some (.cells #[(.slice A0_0 l0_0.length c0_0),.int .i64 a0_1] 29 (0,0))) ∧ Aside0 (Below w.heap.size w w'))
       case atStart => exact ⟨(0),(by first|rfl|(simp;done)|(simp [*];done)),H',⟨Nat.le_refl _⟩,⟨by (with_reducible repeat (first|refine y_b ?_ _|refine y_c ?_|refine y_d ?_ _));exact BK182.out⟩,⟨zB⟩⟩
       case round =>
        clear H'
        try clear c1
        try clear p1
        try clear q1
        try clear hx1
        try clear c2
        try clear p2
        try clear c4
        try clear c4b0
        try clear c4b1
        try clear p6
        try clear c8
        try clear c9
        try clear c9b0
        try clear c10
        try clear c10b0
        try clear c12
        try clear c15
        try clear c15b0
        try clear c16
        try clear c16b0
        try clear c17
        try clear c17b0
        try clear c18
        try clear c18b0
        try clear p18
        try clear q18
        try clear hx18
        try clear c19
        try clear c19b0
        try clear p19
        try clear q19
        try clear hx19
        try clear c20
        try clear c20b0
        try clear c21
        try clear c21b0
        try clear c21b1
        try clear c22
        try clear c22b0
        try clear c22b1
        try clear hcz13_0
        try clear hcz13_1
        try clear hcz23_0
        try clear hcz23_1
        try clear hcz24_0
        try clear hcz24_1
        try clear hcz25_0
        try clear hcz25_1
        try clear hcz26_0
        try clear hcz26_1
        try clear hcz27_0
        try clear hcz27_1
        try clear hcz29_0
        try clear hcz29_1
        try clear hcz6_0
        try clear hcz6_1
        try clear hcz7_0
        try clear hcz7_1
        try clear hfz13_0
        try clear hfz13_1
        try clear hfz23_0
        try clear hfz23_1
        try clear hfz24_0
        try clear hfz24_1
        try clear hfz25_0
        try clear hfz25_1
        try clear hfz26_0
        try clear hfz26_1
        try clear hfz27_0
        try clear hfz27_1
        try clear hfz29_0
        try clear hfz29_1
        try clear hfz6_0
        try clear hfz6_1
        try clear hfz7_0
        try clear hfz7_1
        try clear hx184_0
        try clear hx184_1
        try clear hx184_2
        try clear hx184_3
        try clear hx184_4
        try clear hx186_0
        try clear hx186_1
        try clear hx186_2
        try clear hx186_3
        try clear hx186_4
        try clear hx187_0
        try clear hx187_1
        try clear hx187_2
        try clear hx187_3
        try clear hx187_4
        try clear hx188_0
        try clear hx188_1
        try clear hx188_2
        try clear hx188_3
        try clear hx188_4
        try clear hx189_0
        try clear hx189_1
        try clear hx189_2
        try clear hx189_3
        try clear hx189_4
        try clear hx190_0
        try clear hx190_1
        try clear hx190_2
        try clear hx190_3
        try clear hx190_4
        try clear p1
        try clear p184
        try clear p186
        try clear p187
        try clear p188
        try clear p189
        try clear p190
        try clear p2
        try clear q1
        try clear q184
        try clear q186
        try clear q187
        try clear q188
        try clear q189
        try clear q190
        obtain ⟨x5_3, rfl, HA, HK3, BK182, HB⟩ := hrel;cases gk with
        | zero => exact absurd HA.out (by simp [spec_PoolOk.l2])
        | succ k3 =>
         have H := HA.out;clear HA;simp only [spec_PoolOk.l2] at H
         by_cases c30 : x5_3 < 2
         ·rw [if_pos c30] at H;have c30b0 : decide (x5_3 < 2) = true := z_e c30;clear c30;replace H := z_8 H;obtain ⟨t191, A310, H⟩ := H;replace H : (if t191 > 5 then (some false) else (spec_PoolOk.l2 k3 (wrap64 (x5_3 + 1)) l0_0 a0_1)) = some r:=H;have A31 := z_a A310;clear A310
          by_cases c32 : t191 > 5
          ·rw [if_pos c32] at H;have c32b0 : decide (5 < t191) = true := z_e c32;clear c32;obtain rfl := Option.some.inj H;have hcz33_0 : wr.cell? ⟨gb182,0,none⟩ = some (.slice A0_0 l0_0.length c0_0):=(z_b BK182.out 0).trans rfl;have hcz33_1 : wr.cell? ⟨gb182,1,none⟩ = some (.int .i64 a0_1):=(z_b BK182.out 1).trans rfl;have hfz33_0 := z_4 BK182.out 0;have hfz33_1 := z_4 BK182.out 1
           go_wp2_with (first|(go_at_call 43;(with_reducible refine (spec_l10Of.calls k3 _ _ l0_0 a0_1 x5_3 t191 _ ?side1 ?side2 A31.out).mono ?_);(case side1 => repeat (first|exact (Kd.C_below HR0_0.out HB.out)|(with_reducible refine y_o ?_ _)|(with_reducible refine y_p ?_ _)|(with_reducible refine y_q ?_)));(case side2 => exact HC0_0.out);rintro e w34 ⟨rfl,hb⟩;have n0_:=z_a (z_d (g:=gb182) zK hb);have n1_:=z_a (z_f zB hb);clear BK182 HB;have BK182:=n0_;have HB:=n1_;clear n0_ n1_;(try clear hb);(try clear hb2);(try clear hk);(try clear hi)))
           repeat (go_quiet (first|(go_at_call 43;(with_reducible refine (spec_l10Of.calls k3 _ _ l0_0 a0_1 x5_3 t191 _ ?side1 ?side2 A31.out).mono ?_);(case side1 => repeat (first|exact (Kd.C_below HR0_0.out HB.out)|(with_reducible refine y_o ?_ _)|(with_reducible refine y_p ?_ _)|(with_reducible refine y_q ?_)));(case side2 => exact HC0_0.out);rintro e w34 ⟨rfl,hb⟩;have n0_:=z_a (z_d (g:=gb182) zK hb);have n1_:=z_a (z_f zB hb);clear BK182 HB;have BK182:=n0_;have HB:=n1_;clear n0_ n1_;(try clear hb);(try clear hb2);(try clear hk);(try clear hi)));try go_wp2_with (first|(go_at_call 43;(with_reducible refine (spec_l10Of.calls k3 _ _ l0_0 a0_1 x5_3 t191 _ ?side1 ?side2 A31.out).mono ?_);(case side1 => repeat (first|exact (Kd.C_below HR0_0.out HB.out)|(with_reducible refine y_o ?_ _)|(with_reducible refine y_p ?_ _)|(with_reducible refine y_q ?_)));(case side2 => exact HC0_0.out);rintro e w34 ⟨rfl,hb⟩;have n0_:=z_a (z_d (g:=gb182) zK hb);have n1_:=z_a (z_f zB hb);clear BK182 HB;have BK182:=n0_;have HB:=n1_;clear n0_ n1_;(try clear hb);(try clear hb2);(try clear hk);(try clear hi))))
           go_ret
           exact ⟨by first|rfl|(simp [errW_none,errW_some] <;> rfl)|(simp [*,errW_none,errW_some] <;> rfl),zB⟩
          ·rw [if_neg c32] at H;have c32b0 : decide (5 < t191) = false:=decide_eq_false c32;clear c32;have H' := z_a H;clear H;have hcz35_0 : wr.cell? ⟨gb182,0,none⟩ = some (.slice A0_0 l0_0.length c0_0):=(z_b BK182.out 0).trans rfl;have hcz35_1 : wr.cell? ⟨gb182,1,none⟩ = some (.int .i64 a0_1):=(z_b BK182.out 1).trans rfl;have hfz35_0 := z_4 BK182.out 0;have hfz35_1 := z_4 BK182.out 1
           go_wp2_with (first|(go_at_call 43;(with_reducible refine (spec_l10Of.calls k3 _ _ l0_0 a0_1 x5_3 t191 _ ?side1 ?side2 A31.out).mono ?_);(case side1 => repeat (first|exact (Kd.C_below HR0_0.out HB.out)|(with_reducible refine y_o ?_ _)|(with_reducible refine y_p ?_ _)|(with_reducible refine y_q ?_)));(case side2 => exact HC0_0.out);rintro e w36 ⟨rfl,hb⟩;have n0_:=z_a (z_d (g:=gb182) zK hb);have n1_:=z_a (z_f zB hb);clear BK182 HB;have BK182:=n0_;have HB:=n1_;clear n0_ n1_;(try clear hb);(try clear hb2);(try clear hk);(try clear hi)))
           repeat (go_quiet (first|(go_at_call 43;(with_reducible refine (spec_l10Of.calls k3 _ _ l0_0 a0_1 x5_3 t191 _ ?side1 ?side2 A31.out).mono ?_);(case side1 => repeat (first|exact (Kd.C_below HR0_0.out HB.out)|(with_reducible refine y_o ?_ _)|(with_reducible refine y_p ?_ _)|(with_reducible refine y_q ?_)));(case side2 => exact HC0_0.out);rintro e w36 ⟨rfl,hb⟩;have n0_:=z_a (z_d (g:=gb182) zK hb);have n1_:=z_a (z_f zB hb);clear BK182 HB;have BK182:=n0_;have HB:=n1_;clear n0_ n1_;(try clear hb);(try clear hb2);(try clear hk);(try clear hi)));try go_wp2_with (first|(go_at_call 43;(with_reducible refine (spec_l10Of.calls k3 _ _ l0_0 a0_1 x5_3 t191 _ ?side1 ?side2 A31.out).mono ?_);(case side1 => repeat (first|exact (Kd.C_below HR0_0.out HB.out)|(with_reducible refine y_o ?_ _)|(with_reducible refine y_p ?_ _)|(with_reducible refine y_q ?_)));(case side2 => exact HC0_0.out);rintro e w36 ⟨rfl,hb⟩;have n0_:=z_a (z_d (g:=gb182) zK hb);have n1_:=z_a (z_f zB hb);clear BK182 HB;have BK182:=n0_;have HB:=n1_;clear n0_ n1_;(try clear hb);(try clear hb2);(try clear hk);(try clear hi))))
           go_roundg k3
           case measure => have:=HJ1.out;have:=HK2.out;have:=HK3.out;omega
           case rel => exact ⟨(wrap64 (x5_3 + 1)),(by first|rfl|(simp;done)|(simp [*];done)),H',⟨by have:=HJ1.out;have:=HK2.out;have:=HK3.out;omega⟩,⟨by (with_reducible repeat (first|refine y_b ?_ _|refine y_c ?_|refine y_d ?_ _));exact BK182.out⟩,⟨zB⟩⟩
         ·rw [if_neg c30] at H;have c30b0 : decide (x5_3 < 2) = false:=decide_eq_false c30;clear c30;obtain rfl := Option.some.inj H
          go_wp2
          repeat (go_quiet (fail); try go_wp2)
          go_ret
          exact ⟨by first|rfl|(simp [errW_none,errW_some] <;> rfl)|(simp [*,errW_none,errW_some] <;> rfl),zB⟩

end Go.Proofs.Ytlfnjkcgefcidaa.PFnPoolFull
