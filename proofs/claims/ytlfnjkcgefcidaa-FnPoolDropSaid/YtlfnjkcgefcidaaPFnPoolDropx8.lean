-- Written by a program of this session over the print's form. Lean checks it.
import Derived.Test.YtlfnjkcgefcidaaPFnPoolDropx0
import Derived.Test.YtlfnjkcgefcidaaPFnPoolDropx1
namespace Go.Proofs.Ytlfnjkcgefcidaa.PFnPoolDrop
open Go.RowKit Go.Proofs.YtlfnjkcgefcidaaW.PrintWords Go.Proofs.YtlfnjkcgefcidaaW.PrintLast Go.Proofs.YtlfnjkcgefcidaaW.PrintMore
attribute [local go_sem] max2_int min2_int max_two min_two max_three min_three max_four min_four   -- for this text's walks alone
set_option linter.unusedVariables false
set_option linter.unusedSimpArgs false

attribute [local go_sem high] eqA41
/-! ### laws_whPool: function 25 -/
mutual
def laws_whPool.j0 : Nat → Bool → List (S41) → Int → List (S41) → Int → Option (Bool)
 | 0, _, _, _, _, _ => none
 | k + 1, x19, x137000, x137001, x138000, x138001 => if x19 = true then (some false) else (laws_whPool.l0 k 0 x137000 x137001 x138000 x138001)
def laws_whPool.l0 : Nat → Int → List (S41) → Int → List (S41) → Int → Option (Bool)
 | 0, _, _, _, _, _ => none
 | k + 1, x5, x137000, x137001, x138000, x138001 => if x5 < (x137000.length : Int) then (if 0 ≤ x5 then (if x5 < (x138000.length : Int) then (if (!(((rd_T41 x137000 x5).f0) == ((rd_T41 x138000 x5).f0)) || (!(((rd_T41 x137000 x5).f1) == ((rd_T41 x138000 x5).f1)) || (!(((rd_T41 x137000 x5).f2) == ((rd_T41 x138000 x5).f2)) || (!(((rd_T41 x137000 x5).f3) == ((rd_T41 x138000 x5).f3)) || (!(((rd_T41 x137000 x5).f4) == ((rd_T41 x138000 x5).f4))))))) = true then (some false) else (laws_whPool.l0 k (wrap64 (x5 + 1)) x137000 x137001 x138000 x138001)) else (none)) else (none)) else (some true)
end
def laws_whPool.f (k : Nat) (l0_0 : List (S41)) (a0_1 : Int) (l1_0 : List (S41)) (a1_1 : Int) : Option (Bool) := if a0_1 = a1_1 then (laws_whPool.j0 k ((l0_0.length : Int) != (l1_0.length : Int)) l0_0 a0_1 l1_0 a1_1) else (laws_whPool.j0 k true l0_0 a0_1 l1_0 a1_1)
theorem laws_whPool.mono_l : ∀ k, (∀ y0 y1 y2 y3 y4, LeO (laws_whPool.j0 k y0 y1 y2 y3 y4) (laws_whPool.j0 (k + 1) y0 y1 y2 y3 y4)) ∧ (∀ y0 y1 y2 y3 y4, LeO (laws_whPool.l0 k y0 y1 y2 y3 y4) (laws_whPool.l0 (k + 1) y0 y1 y2 y3 y4))
 | 0 => ⟨fun _ _ _ _ _ r h => by simp [laws_whPool.j0] at h, fun _ _ _ _ _ r h => by simp [laws_whPool.l0] at h⟩
 | k + 1 => by
  obtain ⟨ih0, ih1⟩ := laws_whPool.mono_l k
  refine ⟨?_, ?_⟩
  ·intro y0 y1 y2 y3 y4
   unfold laws_whPool.j0
   repeat' first
   | (with_reducible exact ih0 _ _ _ _ _)
   | (with_reducible exact ih1 _ _ _ _ _)
   | (with_reducible exact LeO.refl _)
   | (with_reducible exact LeO.none _)
   | (with_reducible refine LeO.ite ?_ ?_)
   | (with_reducible refine LeO.bind ?_ (fun _ => ?_))
   | exact ih0 _ _ _ _ _
   | exact ih1 _ _ _ _ _
   | exact LeO.none _
   | refine LeO.ite ?_ ?_
   | refine LeO.bind ?_ (fun _ => ?_)
  ·intro y0 y1 y2 y3 y4
   unfold laws_whPool.l0
   repeat' first
   | (with_reducible exact ih0 _ _ _ _ _)
   | (with_reducible exact ih1 _ _ _ _ _)
   | (with_reducible exact LeO.refl _)
   | (with_reducible exact LeO.none _)
   | (with_reducible refine LeO.ite ?_ ?_)
   | (with_reducible refine LeO.bind ?_ (fun _ => ?_))
   | exact ih0 _ _ _ _ _
   | exact ih1 _ _ _ _ _
   | exact LeO.none _
   | refine LeO.ite ?_ ?_
   | refine LeO.bind ?_ (fun _ => ?_)
theorem laws_whPool.mono : ∀ a0 a1 a2 a3 k, LeO (laws_whPool.f k a0 a1 a2 a3) (laws_whPool.f (k + 1) a0 a1 a2 a3) := by
 intro a0 a1 a2 a3 k;obtain ⟨ih0, ih1⟩ := laws_whPool.mono_l k;unfold laws_whPool.f
 repeat' first
   | (with_reducible exact ih0 _ _ _ _ _)
   | (with_reducible exact ih1 _ _ _ _ _)
   | (with_reducible exact LeO.refl _)
   | (with_reducible exact LeO.none _)
   | (with_reducible refine LeO.ite ?_ ?_)
   | (with_reducible refine LeO.bind ?_ (fun _ => ?_))
   | exact ih0 _ _ _ _ _
   | exact ih1 _ _ _ _ _
   | exact LeO.none _
   | refine LeO.ite ?_ ?_
   | refine LeO.bind ?_ (fun _ => ?_)
set_option maxHeartbeats 8000000 in
set_option maxRecDepth 100000 in
theorem laws_whPool.calls (k : Nat) (A0_0 : Option Addr) (c0_0 : Nat) (l0_0 : List (S41)) (a0_1 : Int) (A1_0 : Option Addr) (c1_0 : Nat) (l1_0 : List (S41)) (a1_1 : Int) (r : Bool) (w : World) (hr0_0 : Kd.C k41 w A0_0 l0_0.length l0_0) (hc0_0 : l0_0.length ≤ c0_0) (hr1_0 : Kd.C k41 w A1_0 l1_0.length l1_0) (hc1_0 : l1_0.length ≤ c1_0) (h : laws_whPool.f k l0_0 a0_1 l1_0 a1_1 = some r) :
  Calls Try.prog 25 #[.agg #[.slice A0_0 l0_0.length c0_0, .int .i64 a0_1], .agg #[.slice A1_0 l1_0.length c1_0, .int .i64 a1_1]] w fun e w' => e = .returned (.bool r) ∧ Below w.heap.size w w' := by
 have hu29 := Try.underlying29;have hu41 := Try.underlying41;have HR0_0 := z_a hr0_0;have HC0_0 := z_a hc0_0;clear hr0_0 hc0_0;have HR1_0 := z_a hr1_0;have HC1_0 := z_a hc1_0;clear hr1_0 hc1_0;have HB := z_a (Below.refl w.heap.size w);have H : (if a0_1 = a1_1 then (laws_whPool.j0 k ((l0_0.length : Int) != (l1_0.length : Int)) l0_0 a0_1 l1_0 a1_1) else (laws_whPool.j0 k true l0_0 a0_1 l1_0 a1_1)) = some r:=h;clear h;have HC3 := z_a H;clear H
 go_enter Try.func25, Try.ntmps25
 go_upto_region 1 with (first|((with_reducible refine gate_dst (N:=2) rfl ?_);(try (refine gate_guard (by rfl) ?_;dsimp only));refine box_event ?hg (N:=2) ?hd (cs:=#[.slice A0_0 l0_0.length c0_0,.int .i64 a0_1]) (t:=29) ?hr ?_;(case hd => rfl);(case hg => rfl);(case hr => first|(go_simp;done)|(go_simp;rfl));intro gb136 hg w4 hbox hb;have n0_:=z_a (z_f zB hb);have n1_:=z_a (hbox);have n2_:=z_a ((by rw [hg];exact (z_g zB) : w.heap.size ≤ gb136));have n3_:=z_a ((by rw [hg];exact (z_g zB) : w.heap.size ≤ gb136));clear HB;have HB:=n0_;have BK136:=n1_;have GW136:=n2_;have GE136:=n3_;clear n0_ n1_ n2_ n3_;clear hb hbox hg)|((with_reducible refine gate_dst (N:=3) rfl ?_);(try (refine gate_guard (by rfl) ?_;dsimp only));refine box_event ?hg (N:=3) ?hd (cs:=#[.slice A1_0 l1_0.length c1_0,.int .i64 a1_1]) (t:=29) ?hr ?_;(case hd => rfl);(case hg => rfl);(case hr => first|(go_simp;done)|(go_simp;rfl));intro gb137 hg w5 hbox hb;have n0_:=z_a (z_d (g:=gb136) zK hb);have n1_:=z_a (z_f zB hb);have n2_:=z_a (hbox);have n3_:=z_a ((by rw [hg];exact (z_g zB) : w.heap.size ≤ gb137));have n4_:=z_a ((by rw [hg];exact (z_g zB) : w.heap.size ≤ gb137));have n5_:=z_a ((by rw [hg];exact Nat.ne_of_lt (blk_lt (g:=gb136) (o:=.cells #[.slice A0_0 l0_0.length c0_0,.int .i64 a0_1] 29 (0,0)) zK) : gb136 ≠ gb137));have n6_:=z_a ((by rw [hg];exact Nat.ne_of_gt (blk_lt (g:=gb136) (o:=.cells #[.slice A0_0 l0_0.length c0_0,.int .i64 a0_1] 29 (0,0)) zK) : gb137 ≠ gb136));clear BK136 HB;have BK136:=n0_;have HB:=n1_;have BK137:=n2_;have GW137:=n3_;have GE137:=n4_;have NB136_137:=n5_;have NB137_136:=n6_;clear n0_ n1_ n2_ n3_ n4_ n5_ n6_;clear hb hbox hg))
 repeat (go_quiet (first|((with_reducible refine gate_dst (N:=2) rfl ?_);(try (refine gate_guard (by rfl) ?_;dsimp only));refine box_event ?hg (N:=2) ?hd (cs:=#[.slice A0_0 l0_0.length c0_0,.int .i64 a0_1]) (t:=29) ?hr ?_;(case hd => rfl);(case hg => rfl);(case hr => first|(go_simp;done)|(go_simp;rfl));intro gb136 hg w4 hbox hb;have n0_:=z_a (z_f zB hb);have n1_:=z_a (hbox);have n2_:=z_a ((by rw [hg];exact (z_g zB) : w.heap.size ≤ gb136));have n3_:=z_a ((by rw [hg];exact (z_g zB) : w.heap.size ≤ gb136));clear HB;have HB:=n0_;have BK136:=n1_;have GW136:=n2_;have GE136:=n3_;clear n0_ n1_ n2_ n3_;clear hb hbox hg)|((with_reducible refine gate_dst (N:=3) rfl ?_);(try (refine gate_guard (by rfl) ?_;dsimp only));refine box_event ?hg (N:=3) ?hd (cs:=#[.slice A1_0 l1_0.length c1_0,.int .i64 a1_1]) (t:=29) ?hr ?_;(case hd => rfl);(case hg => rfl);(case hr => first|(go_simp;done)|(go_simp;rfl));intro gb137 hg w5 hbox hb;have n0_:=z_a (z_d (g:=gb136) zK hb);have n1_:=z_a (z_f zB hb);have n2_:=z_a (hbox);have n3_:=z_a ((by rw [hg];exact (z_g zB) : w.heap.size ≤ gb137));have n4_:=z_a ((by rw [hg];exact (z_g zB) : w.heap.size ≤ gb137));have n5_:=z_a ((by rw [hg];exact Nat.ne_of_lt (blk_lt (g:=gb136) (o:=.cells #[.slice A0_0 l0_0.length c0_0,.int .i64 a0_1] 29 (0,0)) zK) : gb136 ≠ gb137));have n6_:=z_a ((by rw [hg];exact Nat.ne_of_gt (blk_lt (g:=gb136) (o:=.cells #[.slice A0_0 l0_0.length c0_0,.int .i64 a0_1] 29 (0,0)) zK) : gb137 ≠ gb136));clear BK136 HB;have BK136:=n0_;have HB:=n1_;have BK137:=n2_;have GW137:=n3_;have GE137:=n4_;have NB136_137:=n5_;have NB137_136:=n6_;clear n0_ n1_ n2_ n3_ n4_ n5_ n6_;clear hb hbox hg));go_upto_region 1 with (first|((with_reducible refine gate_dst (N:=2) rfl ?_);(try (refine gate_guard (by rfl) ?_;dsimp only));refine box_event ?hg (N:=2) ?hd (cs:=#[.slice A0_0 l0_0.length c0_0,.int .i64 a0_1]) (t:=29) ?hr ?_;(case hd => rfl);(case hg => rfl);(case hr => first|(go_simp;done)|(go_simp;rfl));intro gb136 hg w4 hbox hb;have n0_:=z_a (z_f zB hb);have n1_:=z_a (hbox);have n2_:=z_a ((by rw [hg];exact (z_g zB) : w.heap.size ≤ gb136));have n3_:=z_a ((by rw [hg];exact (z_g zB) : w.heap.size ≤ gb136));clear HB;have HB:=n0_;have BK136:=n1_;have GW136:=n2_;have GE136:=n3_;clear n0_ n1_ n2_ n3_;clear hb hbox hg)|((with_reducible refine gate_dst (N:=3) rfl ?_);(try (refine gate_guard (by rfl) ?_;dsimp only));refine box_event ?hg (N:=3) ?hd (cs:=#[.slice A1_0 l1_0.length c1_0,.int .i64 a1_1]) (t:=29) ?hr ?_;(case hd => rfl);(case hg => rfl);(case hr => first|(go_simp;done)|(go_simp;rfl));intro gb137 hg w5 hbox hb;have n0_:=z_a (z_d (g:=gb136) zK hb);have n1_:=z_a (z_f zB hb);have n2_:=z_a (hbox);have n3_:=z_a ((by rw [hg];exact (z_g zB) : w.heap.size ≤ gb137));have n4_:=z_a ((by rw [hg];exact (z_g zB) : w.heap.size ≤ gb137));have n5_:=z_a ((by rw [hg];exact Nat.ne_of_lt (blk_lt (g:=gb136) (o:=.cells #[.slice A0_0 l0_0.length c0_0,.int .i64 a0_1] 29 (0,0)) zK) : gb136 ≠ gb137));have n6_:=z_a ((by rw [hg];exact Nat.ne_of_gt (blk_lt (g:=gb136) (o:=.cells #[.slice A0_0 l0_0.length c0_0,.int .i64 a0_1] 29 (0,0)) zK) : gb137 ≠ gb136));clear BK136 HB;have BK136:=n0_;have HB:=n1_;have BK137:=n2_;have GW137:=n3_;have GE137:=n4_;have NB136_137:=n5_;have NB137_136:=n6_;clear n0_ n1_ n2_ n3_ n4_ n5_ n6_;clear hb hbox hg)))
 (try simp only [Act.put,z_1,z_2,z_3])
 go_cut [19] (fun v19 wc => ∃ (kq : Nat) (x19_2 : Bool),v19 = .bool x19_2 ∧ Aside0 (laws_whPool.j0 kq x19_2 l0_0 a0_1 l1_0 a1_1 = some r) ∧ Aside0 (kq ≤ k) ∧ Aside0 (wc.heap[gb136]? = some (.cells #[(.slice A0_0 l0_0.length c0_0),.int .i64 a0_1] 29 (0,0))) ∧ Aside0 (wc.heap[gb137]? = some (.cells #[(.slice A1_0 l1_0.length c1_0),.int .i64 a1_1] 29 (0,0))) ∧ Aside0 (Below w.heap.size w wc))
 case first =>
  have H := HC3.out;clear HC3
  by_cases c6 : a0_1 = a1_1
  ·rw [if_pos c6] at H;have c6b0 : (a0_1 == a1_1) = true := beq_iff_eq.mpr c6;have c6b1 : (a0_1 != a1_1) = false:=bne_eq_false_iff_eq.mpr c6;clear c6
   (first|rw [c6b0]|(simp only [i64_w,i32_w];rw [c6b0])|skip)
   have H' := z_a H;clear H;have hnb7 := NB136_137.out;have hnc7 := NB137_136.out;have hcz8_0 : w5.cell? ⟨gb136,0,none⟩ = some (.slice A0_0 l0_0.length c0_0):=(z_b BK136.out 0).trans rfl;have hcz8_1 : w5.cell? ⟨gb136,1,none⟩ = some (.int .i64 a0_1):=(z_b BK136.out 1).trans rfl;have hfz8_0 := z_4 BK136.out 0;have hfz8_1 := z_4 BK136.out 1;have hcz9_0 : w5.cell? ⟨gb137,0,none⟩ = some (.slice A1_0 l1_0.length c1_0):=(z_b BK137.out 0).trans rfl;have hcz9_1 : w5.cell? ⟨gb137,1,none⟩ = some (.int .i64 a1_1):=(z_b BK137.out 1).trans rfl;have hfz9_0 := z_4 BK137.out 0;have hfz9_1 := z_4 BK137.out 1
   go_wp2
   repeat (go_quiet (fail); try go_wp2)
   go_meet
   case rel => exact ⟨_,(((l0_0.length : Int) != (l1_0.length : Int))),(by first|rfl|(simp;done)|(simp [*];done)),H',⟨by first|omega|exact Nat.le_refl _⟩,⟨by (with_reducible repeat (first|refine y_b ?_ _|refine y_c ?_|refine y_d ?_ _));exact BK136.out⟩,⟨by (with_reducible repeat (first|refine y_b ?_ _|refine y_c ?_|refine y_d ?_ _));exact BK137.out⟩,⟨zB⟩⟩
  rw [if_neg c6] at H;have c6b0 : (a0_1 == a1_1) = false:=beq_eq_false_iff_ne.mpr c6;have c6b1 : (a0_1 != a1_1) = true := bne_iff_ne.mpr c6
  (first|rw [c6b0]|(simp only [i64_w,i32_w];rw [c6b0])|skip)
  have H' := z_a H;clear H;have hnb10 := NB136_137.out;have hnc10 := NB137_136.out;have hcz11_0 : w5.cell? ⟨gb136,0,none⟩ = some (.slice A0_0 l0_0.length c0_0):=(z_b BK136.out 0).trans rfl;have hcz11_1 : w5.cell? ⟨gb136,1,none⟩ = some (.int .i64 a0_1):=(z_b BK136.out 1).trans rfl;have hfz11_0 := z_4 BK136.out 0;have hfz11_1 := z_4 BK136.out 1;have hcz12_0 : w5.cell? ⟨gb137,0,none⟩ = some (.slice A1_0 l1_0.length c1_0):=(z_b BK137.out 0).trans rfl;have hcz12_1 : w5.cell? ⟨gb137,1,none⟩ = some (.int .i64 a1_1):=(z_b BK137.out 1).trans rfl;have hfz12_0 := z_4 BK137.out 0;have hfz12_1 := z_4 BK137.out 1
  go_wp2
  repeat (go_quiet (fail); try go_wp2)
  go_meet
  case rel => exact ⟨_,(true),(by first|rfl|(simp;done)|(simp [*];done)),H',⟨by first|omega|exact Nat.le_refl _⟩,⟨by (with_reducible repeat (first|refine y_b ?_ _|refine y_c ?_|refine y_d ?_ _));exact BK136.out⟩,⟨by (with_reducible repeat (first|refine y_b ?_ _|refine y_c ?_|refine y_d ?_ _));exact BK137.out⟩,⟨zB⟩⟩
 case rest =>
  clear HC3
  try clear c1
  try clear c2
  try clear p2
  try clear c6
  try clear c6b0
  try clear c6b1
  try clear c7
  try clear c10
  try clear hcz11_0
  try clear hcz11_1
  try clear hcz12_0
  try clear hcz12_1
  try clear hcz8_0
  try clear hcz8_1
  try clear hcz9_0
  try clear hcz9_1
  try clear hfz11_0
  try clear hfz11_1
  try clear hfz12_0
  try clear hfz12_1
  try clear hfz8_0
  try clear hfz8_1
  try clear hfz9_0
  try clear hfz9_1
  obtain ⟨kq, x19_2, rfl, HA, HJ2, BK136, BK137, HB⟩ := hcut;cases kq with
  | zero => exact absurd HA.out (by simp [laws_whPool.j0])
  | succ kj2 =>
   have H := HA.out;clear HA;simp only [laws_whPool.j0] at H
   by_cases c13 : x19_2 = true
   ·subst c13;have H1 : (some false) = some r:=by rw [if_pos rfl] at H;exact H
    clear H;have H := H1;clear H1;obtain rfl := Option.some.inj H
    go_wp2
    repeat (go_quiet (fail); try go_wp2)
    go_ret
    exact ⟨by first|rfl|(simp [errW_none,errW_some] <;> rfl)|(simp [*,errW_none,errW_some] <;> rfl),zB⟩
   ·replace c13 := Bool.eq_false_iff.mpr c13;subst c13;have H1 : (laws_whPool.l0 kj2 0 l0_0 a0_1 l1_0 a1_1) = some r:=by rw [if_neg (show ¬ (false = true) by decide)] at H;exact H
    clear H;have H := H1;clear H1;have H' := z_a H;clear H
    go_wp2
    repeat (go_quiet (fail); try go_wp2)
    go_loopg [5] kj2 (fun kq v5 w' => ∃ (x5_2 : Int),v5 = .int .i64 x5_2 ∧ Aside0 (laws_whPool.l0 kq x5_2 l0_0 a0_1 l1_0 a1_1 = some r) ∧ Aside0 (kq ≤ kj2) ∧ Aside0 (w'.heap[gb136]? = some (.cells #[(.slice A0_0 l0_0.length c0_0),.int .i64 a0_1] 29 (0,0))) ∧ Aside0 (w'.heap[gb137]? = some (.cells #[(.slice A1_0 l1_0.length c1_0),.int .i64 a1_1] 29 (0,0))) ∧ Aside0 (Below w.heap.size w w'))
    case atStart => exact ⟨(0),(by first|rfl|(simp;done)|(simp [*];done)),H',⟨Nat.le_refl _⟩,⟨by (with_reducible repeat (first|refine y_b ?_ _|refine y_c ?_|refine y_d ?_ _));exact BK136.out⟩,⟨by (with_reducible repeat (first|refine y_b ?_ _|refine y_c ?_|refine y_d ?_ _));exact BK137.out⟩,⟨zB⟩⟩
    case round =>
     clear H'
     try clear c1
     try clear c2
     try clear p2
     try clear c6
     try clear c6b0
     try clear c6b1
     try clear c7
     try clear c10
     try clear c13
     try clear hcz11_0
     try clear hcz11_1
     try clear hcz12_0
     try clear hcz12_1
     try clear hcz8_0
     try clear hcz8_1
     try clear hcz9_0
     try clear hcz9_1
     try clear hfz11_0
     try clear hfz11_1
     try clear hfz12_0
     try clear hfz12_1
     try clear hfz8_0
     try clear hfz8_1
     try clear hfz9_0
     try clear hfz9_1
     try clear p2
     obtain ⟨x5_2, rfl, HA, HK2, BK136, BK137, HB⟩ := hrel;cases gk with
     | zero => exact absurd HA.out (by simp [laws_whPool.l0])
     | succ k2 =>
      have H := HA.out;clear HA;simp only [laws_whPool.l0] at H
      by_cases c14 : x5_2 < (l0_0.length : Int)
      ·rw [if_pos c14] at H;have c14b0 : decide (x5_2 < (l0_0.length : Int)) = true:=z_e c14;clear c14
       by_cases c15 : 0 ≤ x5_2
       ·rw [if_pos c15] at H;have c15b0 : decide (0 ≤ x5_2) = true := z_e c15;clear c15
        by_cases c16 : x5_2 < (l1_0.length : Int)
        ·rw [if_pos c16] at H;have c16b0 : decide (x5_2 < (l1_0.length : Int)) = true:=z_e c16;clear c16
         by_cases c17 : (!(((rd_T41 l0_0 x5_2).f0) == ((rd_T41 l1_0 x5_2).f0)) || (!(((rd_T41 l0_0 x5_2).f1) == ((rd_T41 l1_0 x5_2).f1)) || (!(((rd_T41 l0_0 x5_2).f2) == ((rd_T41 l1_0 x5_2).f2)) || (!(((rd_T41 l0_0 x5_2).f3) == ((rd_T41 l1_0 x5_2).f3)) || (!(((rd_T41 l0_0 x5_2).f4) == ((rd_T41 l1_0 x5_2).f4))))))) = true
         ·rw [if_pos c17] at H;have c17b0 : (!(((rd_T41 l0_0 x5_2).f0) == ((rd_T41 l1_0 x5_2).f0)) || (!(((rd_T41 l0_0 x5_2).f1) == ((rd_T41 l1_0 x5_2).f1)) || (!(((rd_T41 l0_0 x5_2).f2) == ((rd_T41 l1_0 x5_2).f2)) || (!(((rd_T41 l0_0 x5_2).f3) == ((rd_T41 l1_0 x5_2).f3)) || (!(((rd_T41 l0_0 x5_2).f4) == ((rd_T41 l1_0 x5_2).f4))))))) = true:=c17;clear c17;obtain rfl := Option.some.inj H;have hnb18 := NB136_137.out;have hnc18 := NB137_136.out;have hcz19_0 : wr.cell? ⟨gb136,0,none⟩ = some (.slice A0_0 l0_0.length c0_0):=(z_b BK136.out 0).trans rfl;have hcz19_1 : wr.cell? ⟨gb136,1,none⟩ = some (.int .i64 a0_1):=(z_b BK136.out 1).trans rfl;have hfz19_0 := z_4 BK136.out 0;have hfz19_1 := z_4 BK136.out 1;have p138 : 0 ≤ (x5_2 : Int):=z_9 (by first|(with_reducible assumption)|assumption);have q138 : x5_2 < (l0_0.length : Int):=z_9 (by first|(with_reducible assumption)|assumption);obtain ⟨ad138,e138,hx138_0,hx138_1,hx138_2,hx138_3,hx138_4⟩:=at_T41 HR0_0.out x5_2 p138 q138;cases e138;replace hx138_0:=(z_c HB.out hx138_0).trans hx138_0;replace hx138_1:=(z_c HB.out hx138_1).trans hx138_1;replace hx138_2:=(z_c HB.out hx138_2).trans hx138_2;replace hx138_3:=(z_c HB.out hx138_3).trans hx138_3;replace hx138_4:=(z_c HB.out hx138_4).trans hx138_4;replace p138 := eq_true p138;replace q138 := eq_true q138;have hcz20_0 : wr.cell? ⟨gb137,0,none⟩ = some (.slice A1_0 l1_0.length c1_0):=(z_b BK137.out 0).trans rfl
          have hcz20_1 : wr.cell? ⟨gb137,1,none⟩ = some (.int .i64 a1_1):=(z_b BK137.out 1).trans rfl;have hfz20_0 := z_4 BK137.out 0;have hfz20_1 := z_4 BK137.out 1;have p139 : 0 ≤ (x5_2 : Int):=z_9 (by first|(with_reducible assumption)|assumption);have q139 : x5_2 < (l1_0.length : Int):=z_9 (by first|(with_reducible assumption)|assumption);obtain ⟨ad139,e139,hx139_0,hx139_1,hx139_2,hx139_3,hx139_4⟩:=at_T41 HR1_0.out x5_2 p139 q139;cases e139;replace hx139_0:=(z_c HB.out hx139_0).trans hx139_0;replace hx139_1:=(z_c HB.out hx139_1).trans hx139_1;replace hx139_2:=(z_c HB.out hx139_2).trans hx139_2;replace hx139_3:=(z_c HB.out hx139_3).trans hx139_3;replace hx139_4:=(z_c HB.out hx139_4).trans hx139_4;replace p139 := eq_true p139;replace q139 := eq_true q139
          go_wp2
          repeat (go_quiet (fail); try go_wp2)
          go_ret
          exact ⟨by first|rfl|(simp [errW_none,errW_some] <;> rfl)|(simp [*,errW_none,errW_some] <;> rfl),zB⟩
         ·rw [if_neg c17] at H;have c17b0 : (!(((rd_T41 l0_0 x5_2).f0) == ((rd_T41 l1_0 x5_2).f0)) || (!(((rd_T41 l0_0 x5_2).f1) == ((rd_T41 l1_0 x5_2).f1)) || (!(((rd_T41 l0_0 x5_2).f2) == ((rd_T41 l1_0 x5_2).f2)) || (!(((rd_T41 l0_0 x5_2).f3) == ((rd_T41 l1_0 x5_2).f3)) || (!(((rd_T41 l0_0 x5_2).f4) == ((rd_T41 l1_0 x5_2).f4))))))) = false:=by simpa using c17
          clear c17;have H' := z_a H;clear H;have hnb21 := NB136_137.out;have hnc21 := NB137_136.out;have hcz22_0 : wr.cell? ⟨gb136,0,none⟩ = some (.slice A0_0 l0_0.length c0_0):=(z_b BK136.out 0).trans rfl;have hcz22_1 : wr.cell? ⟨gb136,1,none⟩ = some (.int .i64 a0_1):=(z_b BK136.out 1).trans rfl;have hfz22_0 := z_4 BK136.out 0;have hfz22_1 := z_4 BK136.out 1;have p138 : 0 ≤ (x5_2 : Int):=z_9 (by first|(with_reducible assumption)|assumption);have q138 : x5_2 < (l0_0.length : Int):=z_9 (by first|(with_reducible assumption)|assumption);obtain ⟨ad138,e138,hx138_0,hx138_1,hx138_2,hx138_3,hx138_4⟩:=at_T41 HR0_0.out x5_2 p138 q138;cases e138;replace hx138_0:=(z_c HB.out hx138_0).trans hx138_0;replace hx138_1:=(z_c HB.out hx138_1).trans hx138_1;replace hx138_2:=(z_c HB.out hx138_2).trans hx138_2;replace hx138_3:=(z_c HB.out hx138_3).trans hx138_3;replace hx138_4:=(z_c HB.out hx138_4).trans hx138_4;replace p138 := eq_true p138;replace q138 := eq_true q138;have hcz23_0 : wr.cell? ⟨gb137,0,none⟩ = some (.slice A1_0 l1_0.length c1_0):=(z_b BK137.out 0).trans rfl;have hcz23_1 : wr.cell? ⟨gb137,1,none⟩ = some (.int .i64 a1_1):=(z_b BK137.out 1).trans rfl;have hfz23_0 := z_4 BK137.out 0;have hfz23_1 := z_4 BK137.out 1;have p139 : 0 ≤ (x5_2 : Int):=z_9 (by first|(with_reducible assumption)|assumption);have q139 : x5_2 < (l1_0.length : Int):=z_9 (by first|(with_reducible assumption)|assumption)
          obtain ⟨ad139,e139,hx139_0,hx139_1,hx139_2,hx139_3,hx139_4⟩:=at_T41 HR1_0.out x5_2 p139 q139;cases e139;replace hx139_0:=(z_c HB.out hx139_0).trans hx139_0;replace hx139_1:=(z_c HB.out hx139_1).trans hx139_1;replace hx139_2:=(z_c HB.out hx139_2).trans hx139_2;replace hx139_3:=(z_c HB.out hx139_3).trans hx139_3;replace hx139_4:=(z_c HB.out hx139_4).trans hx139_4;replace p139 := eq_true p139;replace q139 := eq_true q139
          go_wp2
          repeat (go_quiet (fail); try go_wp2)
          go_roundg k2
          case measure => have := HJ2.out; have := HK2.out; omega
          case rel => exact ⟨(wrap64 (x5_2 + 1)),(by first|rfl|(simp;done)|(simp [*];done)),H',⟨by have:=HJ2.out;have:=HK2.out;omega⟩,⟨by (with_reducible repeat (first|refine y_b ?_ _|refine y_c ?_|refine y_d ?_ _));exact BK136.out⟩,⟨by (with_reducible repeat (first|refine y_b ?_ _|refine y_c ?_|refine y_d ?_ _));exact BK137.out⟩,⟨zB⟩⟩
        ·rw [if_neg c16] at H;exact absurd H (by simp)
       ·rw [if_neg c15] at H;exact absurd H (by simp)
      ·rw [if_neg c14] at H;have c14b0 : decide (x5_2 < (l0_0.length : Int)) = false:=decide_eq_false c14;clear c14;obtain rfl := Option.some.inj H;have hnb24 := NB136_137.out;have hnc24 := NB137_136.out;have hcz25_0 : wr.cell? ⟨gb136,0,none⟩ = some (.slice A0_0 l0_0.length c0_0):=(z_b BK136.out 0).trans rfl;have hcz25_1 : wr.cell? ⟨gb136,1,none⟩ = some (.int .i64 a0_1):=(z_b BK136.out 1).trans rfl;have hfz25_0 := z_4 BK136.out 0;have hfz25_1 := z_4 BK136.out 1
       go_wp2
       repeat (go_quiet (fail); try go_wp2)
       go_ret
       exact ⟨by first|rfl|(simp [errW_none,errW_some] <;> rfl)|(simp [*,errW_none,errW_some] <;> rfl),zB⟩

end Go.Proofs.Ytlfnjkcgefcidaa.PFnPoolDrop
