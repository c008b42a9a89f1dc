-- Written by a program of this session over the print's form. Lean checks it.
import Derived.Test.YtlfnjkcgefcidaaPFnPoolLetx0
import Derived.Test.YtlfnjkcgefcidaaPFnPoolLetx1
namespace Go.Proofs.Ytlfnjkcgefcidaa.PFnPoolLet
open Go.RowKit Go.Proofs.YtlfnjkcgefcidaaW.PrintWords Go.Proofs.YtlfnjkcgefcidaaW.PrintLast Go.Proofs.YtlfnjkcgefcidaaW.PrintMore
attribute [local go_sem] max2_int min2_int max_two min_two max_three min_three max_four min_four   -- for this text's walks alone
set_option linter.unusedVariables false
set_option linter.unusedSimpArgs false

attribute [local go_sem high] eqA41
/-! ### laws_whPool: function 25 -/
mutual
def laws_whPool.j0 : Nat → Bool → List (S41) → Int → List (S41) → Int → Option (Bool)
 | 0, _, _, _, _, _ => none
 | k + 1, x19, x299000, x299001, x300000, x300001 => if x19 = true then (some false) else (laws_whPool.l0 k 0 x299000 x299001 x300000 x300001)
def laws_whPool.l0 : Nat → Int → List (S41) → Int → List (S41) → Int → Option (Bool)
 | 0, _, _, _, _, _ => none
 | k + 1, x5, x299000, x299001, x300000, x300001 => if x5 < (x299000.length : Int) then (if 0 ≤ x5 then (if x5 < (x300000.length : Int) then (if (!(((rd_T41 x299000 x5).f0) == ((rd_T41 x300000 x5).f0)) || (!(((rd_T41 x299000 x5).f1) == ((rd_T41 x300000 x5).f1)) || (!(((rd_T41 x299000 x5).f2) == ((rd_T41 x300000 x5).f2)) || (!(((rd_T41 x299000 x5).f3) == ((rd_T41 x300000 x5).f3)) || (!(((rd_T41 x299000 x5).f4) == ((rd_T41 x300000 x5).f4))))))) = true then (some false) else (laws_whPool.l0 k (wrap64 (x5 + 1)) x299000 x299001 x300000 x300001)) else (none)) else (none)) else (some true)
end
def laws_whPool.f (k : Nat) (l0_0 : List (S41)) (a0_1 : Int) (l1_0 : List (S41)) (a1_1 : Int) : Option (Bool) := if a0_1 = a1_1 then (laws_whPool.j0 k ((l0_0.length : Int) != (l1_0.length : Int)) l0_0 a0_1 l1_0 a1_1) else (laws_whPool.j0 k true l0_0 a0_1 l1_0 a1_1)
theorem laws_whPool.mono_l : ∀ k, (∀ y0 y1 y2 y3 y4, LeO (laws_whPool.j0 k y0 y1 y2 y3 y4) (laws_whPool.j0 (k + 1) y0 y1 y2 y3 y4)) ∧ (∀ y0 y1 y2 y3 y4, LeO (laws_whPool.l0 k y0 y1 y2 y3 y4) (laws_whPool.l0 (k + 1) y0 y1 y2 y3 y4))
 | 0 => ⟨fun _ _ _ _ _ r h => by simp [laws_whPool.j0] at h, fun _ _ _ _ _ r h => by simp [laws_whPool.l0] at h⟩
 | k + 1 => by
  obtain ⟨ih0, ih1⟩ := laws_whPool.mono_l k
  refine ⟨?_, ?_⟩
  ·intro y0 y1 y2 y3 y4
   unfold laws_whPool.j0
   repeat' first
   | (with_reducible exact ih0 _ _ _ _ _)
   | (with_reducible exact ih1 _ _ _ _ _)
   | (with_reducible exact LeO.refl _)
   | (with_reducible exact LeO.none _)
   | (with_reducible refine LeO.ite ?_ ?_)
   | (with_reducible refine LeO.bind ?_ (fun _ => ?_))
   | exact ih0 _ _ _ _ _
   | exact ih1 _ _ _ _ _
   | exact LeO.none _
   | refine LeO.ite ?_ ?_
   | refine LeO.bind ?_ (fun _ => ?_)
  ·intro y0 y1 y2 y3 y4
   unfold laws_whPool.l0
   repeat' first
   | (with_reducible exact ih0 _ _ _ _ _)
   | (with_reducible exact ih1 _ _ _ _ _)
   | (with_reducible exact LeO.refl _)
   | (with_reducible exact LeO.none _)
   | (with_reducible refine LeO.ite ?_ ?_)
   | (with_reducible refine LeO.bind ?_ (fun _ => ?_))
   | exact ih0 _ _ _ _ _
   | exact ih1 _ _ _ _ _
   | exact LeO.none _
   | refine LeO.ite ?_ ?_
   | refine LeO.bind ?_ (fun _ => ?_)
theorem laws_whPool.mono : ∀ a0 a1 a2 a3 k, LeO (laws_whPool.f k a0 a1 a2 a3) (laws_whPool.f (k + 1) a0 a1 a2 a3) := by
 intro a0 a1 a2 a3 k
 obtain ⟨ih0, ih1⟩ := laws_whPool.mono_l k
 unfold laws_whPool.f
 repeat' first
   | (with_reducible exact ih0 _ _ _ _ _)
   | (with_reducible exact ih1 _ _ _ _ _)
   | (with_reducible exact LeO.refl _)
   | (with_reducible exact LeO.none _)
   | (with_reducible refine LeO.ite ?_ ?_)
   | (with_reducible refine LeO.bind ?_ (fun _ => ?_))
   | exact ih0 _ _ _ _ _
   | exact ih1 _ _ _ _ _
   | exact LeO.none _
   | refine LeO.ite ?_ ?_
   | refine LeO.bind ?_ (fun _ => ?_)
set_option maxHeartbeats 8000000 in
set_option maxRecDepth 100000 in
theorem laws_whPool.calls (k : Nat) (A0_0 : Option Addr) (c0_0 : Nat) (l0_0 : List (S41)) (a0_1 : Int) (A1_0 : Option Addr) (c1_0 : Nat) (l1_0 : List (S41)) (a1_1 : Int) (r : Bool) (w : World) (hr0_0 : Kd.C k41 w A0_0 l0_0.length l0_0) (hc0_0 : l0_0.length ≤ c0_0) (hr1_0 : Kd.C k41 w A1_0 l1_0.length l1_0) (hc1_0 : l1_0.length ≤ c1_0) (h : laws_whPool.f k l0_0 a0_1 l1_0 a1_1 = some r) :
  Calls Try.prog 25 #[.agg #[.slice A0_0 l0_0.length c0_0, .int .i64 a0_1], .agg #[.slice A1_0 l1_0.length c1_0, .int .i64 a1_1]] w fun e w' => e = .returned (.bool r) ∧ Below w.heap.size w w' := by
 have hu29 := Try.underlying29
 have hu41 := Try.underlying41
 have HR0_0 := Aside0.mk hr0_0
 have HC0_0 := Aside0.mk hc0_0
 clear hr0_0 hc0_0
 have HR1_0 := Aside0.mk hr1_0
 have HC1_0 := Aside0.mk hc1_0
 clear hr1_0 hc1_0
 have HB := Aside0.mk (Below.refl w.heap.size w)
 have H : (if a0_1 = a1_1 then (laws_whPool.j0 k ((l0_0.length : Int) != (l1_0.length : Int)) l0_0 a0_1 l1_0 a1_1) else (laws_whPool.j0 k true l0_0 a0_1 l1_0 a1_1)) = some r:=h
 clear h
 have HC3 := Aside0.mk H
 clear H
 go_enter Try.func25, Try.ntmps25
 go_upto_region 1 with (first|((with_reducible refine gate_dst (N:=2) rfl ?_);(try (refine gate_guard (by rfl) ?_;dsimp only));refine box_event ?hg (N:=2) ?hd (cs:=#[.slice A0_0 l0_0.length c0_0,.int .i64 a0_1]) (t:=29) ?hr ?_;(case hd => rfl);(case hg => rfl);(case hr => first|(go_simp;done)|(go_simp;rfl));intro gb298 hg w4 hbox hb;have n0_:=Aside0.mk (below_step (by repeat (first|(with_reducible first|exact HB.out|apply y_h|apply y_i|apply y_j)|exact HB.out)) hb);have n1_:=Aside0.mk (hbox);have n2_:=Aside0.mk ((by rw [hg];exact (below_size (by repeat (first|(with_reducible first|exact HB.out|apply y_h|apply y_i|apply y_j)|exact HB.out))) : w.heap.size ≤ gb298));have n3_:=Aside0.mk ((by rw [hg];exact (below_size (by repeat (first|(with_reducible first|exact HB.out|apply y_h|apply y_i|apply y_j)|exact HB.out))) : w.heap.size ≤ gb298));clear HB;have HB:=n0_;have BK298:=n1_;have GW298:=n2_;have GE298:=n3_;clear n0_ n1_ n2_ n3_;clear hb hbox hg)|((with_reducible refine gate_dst (N:=3) rfl ?_);(try (refine gate_guard (by rfl) ?_;dsimp only));refine box_event ?hg (N:=3) ?hd (cs:=#[.slice A1_0 l1_0.length c1_0,.int .i64 a1_1]) (t:=29) ?hr ?_;(case hd => rfl);(case hg => rfl);(case hr => first|(go_simp;done)|(go_simp;rfl));intro gb299 hg w5 hbox hb;have n0_:=Aside0.mk (blk_below (g:=gb298) (o:=.cells #[.slice A0_0 l0_0.length c0_0,.int .i64 a0_1] 29 (0,0)) (by (with_reducible repeat (first|refine y_b ?_ _|refine y_c ?_|refine y_d ?_ _));exact BK298.out) hb);have n1_:=Aside0.mk (below_step (by repeat (first|(with_reducible first|exact HB.out|apply y_h|apply y_i|apply y_j|refine y_s ?_ GE298.out)|exact HB.out)) hb);have n2_:=Aside0.mk (hbox);have n3_:=Aside0.mk ((by rw [hg];exact (below_size (by repeat (first|(with_reducible first|exact HB.out|apply y_h|apply y_i|apply y_j|refine y_s ?_ GE298.out)|exact HB.out))) : w.heap.size ≤ gb299));have n4_:=Aside0.mk ((by rw [hg];exact (below_size (by repeat (first|(with_reducible first|exact HB.out|apply y_h|apply y_i|apply y_j|refine y_s ?_ GE298.out)|exact HB.out))) : w.heap.size ≤ gb299));have n5_:=Aside0.mk ((by rw [hg];exact Nat.ne_of_lt (blk_lt (g:=gb298) (o:=.cells #[.slice A0_0 l0_0.length c0_0,.int .i64 a0_1] 29 (0,0)) (by (with_reducible repeat (first|refine y_b ?_ _|refine y_c ?_|refine y_d ?_ _));exact BK298.out)) : gb298 ≠ gb299));have n6_:=Aside0.mk ((by rw [hg];exact Nat.ne_of_gt (blk_lt (g:=gb298) (o:=.cells #[.slice A0_0 l0_0.length c0_0,.int .i64 a0_1] 29 (0,0)) (by (with_reducible repeat (first|refine y_b ?_ _|refine y_c ?_|refine y_d ?_ _));exact BK298.out)) : gb299 ≠ gb298));clear BK298 HB;have BK298:=n0_;have HB:=n1_;have BK299:=n2_;have GW299:=n3_;have GE299:=n4_;have NB298_299:=n5_;have NB299_298:=n6_;clear n0_ n1_ n2_ n3_ n4_ n5_ n6_;clear hb hbox hg))
 repeat (go_quiet (first|((with_reducible refine gate_dst (N:=2) rfl ?_);(try (refine gate_guard (by rfl) ?_;dsimp only));refine box_event ?hg (N:=2) ?hd (cs:=#[.slice A0_0 l0_0.length c0_0,.int .i64 a0_1]) (t:=29) ?hr ?_;(case hd => rfl);(case hg => rfl);(case hr => first|(go_simp;done)|(go_simp;rfl));intro gb298 hg w4 hbox hb;have n0_:=Aside0.mk (below_step (by repeat (first|(with_reducible first|exact HB.out|apply y_h|apply y_i|apply y_j)|exact HB.out)) hb);have n1_:=Aside0.mk (hbox);have n2_:=Aside0.mk ((by rw [hg];exact (below_size (by repeat (first|(with_reducible first|exact HB.out|apply y_h|apply y_i|apply y_j)|exact HB.out))) : w.heap.size ≤ gb298));have n3_:=Aside0.mk ((by rw [hg];exact (below_size (by repeat (first|(with_reducible first|exact HB.out|apply y_h|apply y_i|apply y_j)|exact HB.out))) : w.heap.size ≤ gb298));clear HB;have HB:=n0_;have BK298:=n1_;have GW298:=n2_;have GE298:=n3_;clear n0_ n1_ n2_ n3_;clear hb hbox hg)|((with_reducible refine gate_dst (N:=3) rfl ?_);(try (refine gate_guard (by rfl) ?_;dsimp only));refine box_event ?hg (N:=3) ?hd (cs:=#[.slice A1_0 l1_0.length c1_0,.int .i64 a1_1]) (t:=29) ?hr ?_;(case hd => rfl);(case hg => rfl);(case hr => first|(go_simp;done)|(go_simp;rfl));intro gb299 hg w5 hbox hb;have n0_:=Aside0.mk (blk_below (g:=gb298) (o:=.cells #[.slice A0_0 l0_0.length c0_0,.int .i64 a0_1] 29 (0,0)) (by (with_reducible repeat (first|refine y_b ?_ _|refine y_c ?_|refine y_d ?_ _));exact BK298.out) hb);have n1_:=Aside0.mk (below_step (by repeat (first|(with_reducible first|exact HB.out|apply y_h|apply y_i|apply y_j|refine y_s ?_ GE298.out)|exact HB.out)) hb);have n2_:=Aside0.mk (hbox);have n3_:=Aside0.mk ((by rw [hg];exact (below_size (by repeat (first|(with_reducible first|exact HB.out|apply y_h|apply y_i|apply y_j|refine y_s ?_ GE298.out)|exact HB.out))) : w.heap.size ≤ gb299));have n4_:=Aside0.mk ((by rw [hg];exact (below_size (by repeat (first|(with_reducible first|exact HB.out|apply y_h|apply y_i|apply y_j|refine y_s ?_ GE298.out)|exact HB.out))) : w.heap.size ≤ gb299));have n5_:=Aside0.mk ((by rw [hg];exact Nat.ne_of_lt (blk_lt (g:=gb298) (o:=.cells #[.slice A0_0 l0_0.length c0_0,.int .i64 a0_1] 29 (0,0)) (by (with_reducible repeat (first|refine y_b ?_ _|refine y_c ?_|refine y_d ?_ _));exact BK298.out)) : gb298 ≠ gb299));have n6_:=Aside0.mk ((by rw [hg];exact Nat.ne_of_gt (blk_lt (g:=gb298) (o:=.cells #[.slice A0_0 l0_0.length c0_0,.int .i64 a0_1] 29 (0,0)) (by (with_reducible repeat (first|refine y_b ?_ _|refine y_c ?_|refine y_d ?_ _));exact BK298.out)) : gb299 ≠ gb298));clear BK298 HB;have BK298:=n0_;have HB:=n1_;have BK299:=n2_;have GW299:=n3_;have GE299:=n4_;have NB298_299:=n5_;have NB299_298:=n6_;clear n0_ n1_ n2_ n3_ n4_ n5_ n6_;clear hb hbox hg));go_upto_region 1 with (first|((with_reducible refine gate_dst (N:=2) rfl ?_);(try (refine gate_guard (by rfl) ?_;dsimp only));refine box_event ?hg (N:=2) ?hd (cs:=#[.slice A0_0 l0_0.length c0_0,.int .i64 a0_1]) (t:=29) ?hr ?_;(case hd => rfl);(case hg => rfl);(case hr => first|(go_simp;done)|(go_simp;rfl));intro gb298 hg w4 hbox hb;have n0_:=Aside0.mk (below_step (by repeat (first|(with_reducible first|exact HB.out|apply y_h|apply y_i|apply y_j)|exact HB.out)) hb);have n1_:=Aside0.mk (hbox);have n2_:=Aside0.mk ((by rw [hg];exact (below_size (by repeat (first|(with_reducible first|exact HB.out|apply y_h|apply y_i|apply y_j)|exact HB.out))) : w.heap.size ≤ gb298));have n3_:=Aside0.mk ((by rw [hg];exact (below_size (by repeat (first|(with_reducible first|exact HB.out|apply y_h|apply y_i|apply y_j)|exact HB.out))) : w.heap.size ≤ gb298));clear HB;have HB:=n0_;have BK298:=n1_;have GW298:=n2_;have GE298:=n3_;clear n0_ n1_ n2_ n3_;clear hb hbox hg)|((with_reducible refine gate_dst (N:=3) rfl ?_);(try (refine gate_guard (by rfl) ?_;dsimp only));refine box_event ?hg (N:=3) ?hd (cs:=#[.slice A1_0 l1_0.length c1_0,.int .i64 a1_1]) (t:=29) ?hr ?_;(case hd => rfl);(case hg => rfl);(case hr => first|(go_simp;done)|(go_simp;rfl));intro gb299 hg w5 hbox hb;have n0_:=Aside0.mk (blk_below (g:=gb298) (o:=.cells #[.slice A0_0 l0_0.length c0_0,.int .i64 a0_1] 29 (0,0)) (by (with_reducible repeat (first|refine y_b ?_ _|refine y_c ?_|refine y_d ?_ _));exact BK298.out) hb);have n1_:=Aside0.mk (below_step (by repeat (first|(with_reducible first|exact HB.out|apply y_h|apply y_i|apply y_j|refine y_s ?_ GE298.out)|exact HB.out)) hb);have n2_:=Aside0.mk (hbox);have n3_:=Aside0.mk ((by rw [hg];exact (below_size (by repeat (first|(with_reducible first|exact HB.out|apply y_h|apply y_i|apply y_j|refine y_s ?_ GE298.out)|exact HB.out))) : w.heap.size ≤ gb299));have n4_:=Aside0.mk ((by rw [hg];exact (below_size (by repeat (first|(with_reducible first|exact HB.out|apply y_h|apply y_i|apply y_j|refine y_s ?_ GE298.out)|exact HB.out))) : w.heap.size ≤ gb299));have n5_:=Aside0.mk ((by rw [hg];exact Nat.ne_of_lt (blk_lt (g:=gb298) (o:=.cells #[.slice A0_0 l0_0.length c0_0,.int .i64 a0_1] 29 (0,0)) (by (with_reducible repeat (first|refine y_b ?_ _|refine y_c ?_|refine y_d ?_ _));exact BK298.out)) : gb298 ≠ gb299));have n6_:=Aside0.mk ((by rw [hg];exact Nat.ne_of_gt (blk_lt (g:=gb298) (o:=.cells #[.slice A0_0 l0_0.length c0_0,.int .i64 a0_1] 29 (0,0)) (by (with_reducible repeat (first|refine y_b ?_ _|refine y_c ?_|refine y_d ?_ _));exact BK298.out)) : gb299 ≠ gb298));clear BK298 HB;have BK298:=n0_;have HB:=n1_;have BK299:=n2_;have GW299:=n3_;have GE299:=n4_;have NB298_299:=n5_;have NB299_298:=n6_;clear n0_ n1_ n2_ n3_ n4_ n5_ n6_;clear hb hbox hg)))
 (try simp only [Act.put,List.setIfInBounds_toArray,List.set_cons_zero,List.set_cons_succ])
 go_cut [19] (fun v19 wc => ∃ (kq : Nat) (x19_2 : Bool),v19 = .bool x19_2 ∧ Aside0 (laws_whPool.j0 kq x19_2 l0_0 a0_1 l1_0 a1_1 = some r) ∧ Aside0 (kq ≤ k) ∧ Aside0 (wc.heap[gb298]? = some (.cells #[(.slice A0_0 l0_0.length c0_0),.int .i64 a0_1] 29 (0,0))) ∧ Aside0 (wc.heap[gb299]? = some (.cells #[(.slice A1_0 l1_0.length c1_0),.int .i64 a1_1] 29 (0,0))) ∧ Aside0 (Below w.heap.size w wc))
 case first =>
  have H := HC3.out
  clear HC3
  by_cases c6 : a0_1 = a1_1
  ·rw [if_pos c6] at H
   have c6b0 : (a0_1 == a1_1) = true := beq_iff_eq.mpr c6
   have c6b1 : (a0_1 != a1_1) = false:=bne_eq_false_iff_eq.mpr c6
   clear c6
   (first|rw [c6b0]|(simp only [i64_w,i32_w];rw [c6b0])|skip)
   have H' := Aside0.mk H
   clear H
   have hnb7 := NB298_299.out
   have hnc7 := NB299_298.out
   have hcz8_0 : w5.cell? ⟨gb298,0,none⟩ = some (.slice A0_0 l0_0.length c0_0):=(blk_cell BK298.out 0).trans rfl
   have hcz8_1 : w5.cell? ⟨gb298,1,none⟩ = some (.int .i64 a0_1):=(blk_cell BK298.out 1).trans rfl
   have hfz8_0 := blk_frozen BK298.out 0
   have hfz8_1 := blk_frozen BK298.out 1
   have hcz9_0 : w5.cell? ⟨gb299,0,none⟩ = some (.slice A1_0 l1_0.length c1_0):=(blk_cell BK299.out 0).trans rfl
   have hcz9_1 : w5.cell? ⟨gb299,1,none⟩ = some (.int .i64 a1_1):=(blk_cell BK299.out 1).trans rfl
   have hfz9_0 := blk_frozen BK299.out 0
   have hfz9_1 := blk_frozen BK299.out 1
   go_wp2
   repeat (go_quiet (fail); try go_wp2)
   go_meet
   case rel => exact ⟨_,(((l0_0.length : Int) != (l1_0.length : Int))),(by first|rfl|(simp;done)|(simp [*];done)),H',⟨by first|omega|exact Nat.le_refl _⟩,⟨by (with_reducible repeat (first|refine y_b ?_ _|refine y_c ?_|refine y_d ?_ _));exact BK298.out⟩,⟨by (with_reducible repeat (first|refine y_b ?_ _|refine y_c ?_|refine y_d ?_ _));exact BK299.out⟩,⟨by repeat (first|(with_reducible first|exact HB.out|apply y_h|apply y_i|apply y_j|refine y_s ?_ GE298.out|refine y_s ?_ GE299.out)|exact HB.out)⟩⟩
  ·rw [if_neg c6] at H
   have c6b0 : (a0_1 == a1_1) = false:=beq_eq_false_iff_ne.mpr c6
   have c6b1 : (a0_1 != a1_1) = true := bne_iff_ne.mpr c6
   (first|rw [c6b0]|(simp only [i64_w,i32_w];rw [c6b0])|skip)
   have H' := Aside0.mk H
   clear H
   have hnb10 := NB298_299.out
   have hnc10 := NB299_298.out
   have hcz11_0 : w5.cell? ⟨gb298,0,none⟩ = some (.slice A0_0 l0_0.length c0_0):=(blk_cell BK298.out 0).trans rfl
   have hcz11_1 : w5.cell? ⟨gb298,1,none⟩ = some (.int .i64 a0_1):=(blk_cell BK298.out 1).trans rfl
   have hfz11_0 := blk_frozen BK298.out 0
   have hfz11_1 := blk_frozen BK298.out 1
   have hcz12_0 : w5.cell? ⟨gb299,0,none⟩ = some (.slice A1_0 l1_0.length c1_0):=(blk_cell BK299.out 0).trans rfl
   have hcz12_1 : w5.cell? ⟨gb299,1,none⟩ = some (.int .i64 a1_1):=(blk_cell BK299.out 1).trans rfl
   have hfz12_0 := blk_frozen BK299.out 0
   have hfz12_1 := blk_frozen BK299.out 1
   go_wp2
   repeat (go_quiet (fail); try go_wp2)
   go_meet
   case rel => exact ⟨_,(true),(by first|rfl|(simp;done)|(simp [*];done)),H',⟨by first|omega|exact Nat.le_refl _⟩,⟨by (with_reducible repeat (first|refine y_b ?_ _|refine y_c ?_|refine y_d ?_ _));exact BK298.out⟩,⟨by (with_reducible repeat (first|refine y_b ?_ _|refine y_c ?_|refine y_d ?_ _));exact BK299.out⟩,⟨by repeat (first|(with_reducible first|exact HB.out|apply y_h|apply y_i|apply y_j|refine y_s ?_ GE298.out|refine y_s ?_ GE299.out)|exact HB.out)⟩⟩
 case rest =>
  clear HC3
  try clear c1
  try clear c2
  try clear p2
  try clear c6
  try clear c6b0
  try clear c6b1
  try clear c7
  try clear c10
  try clear hcz11_0
  try clear hcz11_1
  try clear hcz12_0
  try clear hcz12_1
  try clear hcz8_0
  try clear hcz8_1
  try clear hcz9_0
  try clear hcz9_1
  try clear hfz11_0
  try clear hfz11_1
  try clear hfz12_0
  try clear hfz12_1
  try clear hfz8_0
  try clear hfz8_1
  try clear hfz9_0
  try clear hfz9_1
  obtain ⟨kq, x19_2, rfl, HA, HJ2, BK298, BK299, HB⟩ := hcut
  cases kq with
  | zero => exact absurd HA.out (by simp [laws_whPool.j0])
  | succ kj2 =>
   have H := HA.out
   clear HA
   simp only [laws_whPool.j0] at H
   by_cases c13 : x19_2 = true
   ·subst c13
    have H1 : (some false) = some r:=by rw [if_pos rfl] at H;exact H
    clear H
    have H := H1
    clear H1
    obtain rfl := Option.some.inj H
    go_wp2
    repeat (go_quiet (fail); try go_wp2)
    go_ret
    exact ⟨by first|rfl|(simp [errW_none,errW_some] <;> rfl)|(simp [*,errW_none,errW_some] <;> rfl),by repeat (first|(with_reducible first|exact HB.out|apply y_h|apply y_i|apply y_j|refine y_s ?_ GE298.out|refine y_s ?_ GE299.out)|exact HB.out)⟩
   ·replace c13 := Bool.eq_false_iff.mpr c13
    subst c13
    have H1 : (laws_whPool.l0 kj2 0 l0_0 a0_1 l1_0 a1_1) = some r:=by rw [if_neg (show ¬ (false = true) by decide)] at H;exact H
    clear H
    have H := H1
    clear H1
    have H' := Aside0.mk H
    clear H
    go_wp2
    repeat (go_quiet (fail); try go_wp2)
    go_loopg [5] kj2 (fun kq v5 w' => ∃ (x5_2 : Int),v5 = .int .i64 x5_2 ∧ Aside0 (laws_whPool.l0 kq x5_2 l0_0 a0_1 l1_0 a1_1 = some r) ∧ Aside0 (kq ≤ kj2) ∧ Aside0 (w'.heap[gb298]? = some (.cells #[(.slice A0_0 l0_0.length c0_0),.int .i64 a0_1] 29 (0,0))) ∧ Aside0 (w'.heap[gb299]? = some (.cells #[(.slice A1_0 l1_0.length c1_0),.int .i64 a1_1] 29 (0,0))) ∧ Aside0 (Below w.heap.size w w'))
    case atStart => exact ⟨(0),(by first|rfl|(simp;done)|(simp [*];done)),H',⟨Nat.le_refl _⟩,⟨by (with_reducible repeat (first|refine y_b ?_ _|refine y_c ?_|refine y_d ?_ _));exact BK298.out⟩,⟨by (with_reducible repeat (first|refine y_b ?_ _|refine y_c ?_|refine y_d ?_ _));exact BK299.out⟩,⟨by repeat (first|(with_reducible first|exact HB.out|apply y_h|apply y_i|apply y_j|refine y_s ?_ GE298.out|refine y_s ?_ GE299.out)|exact HB.out)⟩⟩
    case round =>
     clear H'
     try clear c1
     try clear c2
     try clear p2
     try clear c6
     try clear c6b0
     try clear c6b1
     try clear c7
     try clear c10
     try clear c13
     try clear hcz11_0
     try clear hcz11_1
     try clear hcz12_0
     try clear hcz12_1
     try clear hcz8_0
     try clear hcz8_1
     try clear hcz9_0
     try clear hcz9_1
     try clear hfz11_0
     try clear hfz11_1
     try clear hfz12_0
     try clear hfz12_1
     try clear hfz8_0
     try clear hfz8_1
     try clear hfz9_0
     try clear hfz9_1
     try clear p2
     obtain ⟨x5_2, rfl, HA, HK2, BK298, BK299, HB⟩ := hrel
     cases gk with
     | zero => exact absurd HA.out (by simp [laws_whPool.l0])
     | succ k2 =>
      have H := HA.out
      clear HA
      simp only [laws_whPool.l0] at H
      by_cases c14 : x5_2 < (l0_0.length : Int)
      ·rw [if_pos c14] at H
       have c14b0 : decide (x5_2 < (l0_0.length : Int)) = true:=decide_eq_true c14
       clear c14
       by_cases c15 : 0 ≤ x5_2
       ·rw [if_pos c15] at H
        have c15b0 : decide (0 ≤ x5_2) = true := decide_eq_true c15
        clear c15
        by_cases c16 : x5_2 < (l1_0.length : Int)
        ·rw [if_pos c16] at H
         have c16b0 : decide (x5_2 < (l1_0.length : Int)) = true:=decide_eq_true c16
         clear c16
         by_cases c17 : (!(((rd_T41 l0_0 x5_2).f0) == ((rd_T41 l1_0 x5_2).f0)) || (!(((rd_T41 l0_0 x5_2).f1) == ((rd_T41 l1_0 x5_2).f1)) || (!(((rd_T41 l0_0 x5_2).f2) == ((rd_T41 l1_0 x5_2).f2)) || (!(((rd_T41 l0_0 x5_2).f3) == ((rd_T41 l1_0 x5_2).f3)) || (!(((rd_T41 l0_0 x5_2).f4) == ((rd_T41 l1_0 x5_2).f4))))))) = true
         ·rw [if_pos c17] at H
          have c17b0 : (!(((rd_T41 l0_0 x5_2).f0) == ((rd_T41 l1_0 x5_2).f0)) || (!(((rd_T41 l0_0 x5_2).f1) == ((rd_T41 l1_0 x5_2).f1)) || (!(((rd_T41 l0_0 x5_2).f2) == ((rd_T41 l1_0 x5_2).f2)) || (!(((rd_T41 l0_0 x5_2).f3) == ((rd_T41 l1_0 x5_2).f3)) || (!(((rd_T41 l0_0 x5_2).f4) == ((rd_T41 l1_0 x5_2).f4))))))) = true:=c17
          clear c17
          obtain rfl := Option.some.inj H
          have hnb18 := NB298_299.out
          have hnc18 := NB299_298.out
          have hcz19_0 : wr.cell? ⟨gb298,0,none⟩ = some (.slice A0_0 l0_0.length c0_0):=(blk_cell BK298.out 0).trans rfl
          have hcz19_1 : wr.cell? ⟨gb298,1,none⟩ = some (.int .i64 a0_1):=(blk_cell BK298.out 1).trans rfl
          have hfz19_0 := blk_frozen BK298.out 0
          have hfz19_1 := blk_frozen BK298.out 1
          have p300 : 0 ≤ (x5_2 : Int):=of_decide_eq_true (by first|(with_reducible assumption)|assumption)
          have q300 : x5_2 < (l0_0.length : Int):=of_decide_eq_true (by first|(with_reducible assumption)|assumption)
          obtain ⟨ad300,e300,hx300_0,hx300_1,hx300_2,hx300_3,hx300_4⟩:=at_T41 HR0_0.out x5_2 p300 q300
          cases e300
          replace hx300_0:=(HB.out.cell (World.block_lt_of_cell? w _ hx300_0)).trans hx300_0
          replace hx300_1:=(HB.out.cell (World.block_lt_of_cell? w _ hx300_1)).trans hx300_1
          replace hx300_2:=(HB.out.cell (World.block_lt_of_cell? w _ hx300_2)).trans hx300_2
          replace hx300_3:=(HB.out.cell (World.block_lt_of_cell? w _ hx300_3)).trans hx300_3
          replace hx300_4:=(HB.out.cell (World.block_lt_of_cell? w _ hx300_4)).trans hx300_4
          replace p300 := eq_true p300
          replace q300 := eq_true q300
          have hcz20_0 : wr.cell? ⟨gb299,0,none⟩ = some (.slice A1_0 l1_0.length c1_0):=(blk_cell BK299.out 0).trans rfl
          have hcz20_1 : wr.cell? ⟨gb299,1,none⟩ = some (.int .i64 a1_1):=(blk_cell BK299.out 1).trans rfl
          have hfz20_0 := blk_frozen BK299.out 0
          have hfz20_1 := blk_frozen BK299.out 1
          have p301 : 0 ≤ (x5_2 : Int):=of_decide_eq_true (by first|(with_reducible assumption)|assumption)
          have q301 : x5_2 < (l1_0.length : Int):=of_decide_eq_true (by first|(with_reducible assumption)|assumption)
          obtain ⟨ad301,e301,hx301_0,hx301_1,hx301_2,hx301_3,hx301_4⟩:=at_T41 HR1_0.out x5_2 p301 q301
          cases e301
          replace hx301_0:=(HB.out.cell (World.block_lt_of_cell? w _ hx301_0)).trans hx301_0
          replace hx301_1:=(HB.out.cell (World.block_lt_of_cell? w _ hx301_1)).trans hx301_1
          replace hx301_2:=(HB.out.cell (World.block_lt_of_cell? w _ hx301_2)).trans hx301_2
          replace hx301_3:=(HB.out.cell (World.block_lt_of_cell? w _ hx301_3)).trans hx301_3
          replace hx301_4:=(HB.out.cell (World.block_lt_of_cell? w _ hx301_4)).trans hx301_4
          replace p301 := eq_true p301
          replace q301 := eq_true q301
          go_wp2
          repeat (go_quiet (fail); try go_wp2)
          go_ret
          exact ⟨by first|rfl|(simp [errW_none,errW_some] <;> rfl)|(simp [*,errW_none,errW_some] <;> rfl),by repeat (first|(with_reducible first|exact HB.out|apply y_h|apply y_i|apply y_j|refine y_s ?_ GE298.out|refine y_s ?_ GE299.out)|exact HB.out)⟩
         ·rw [if_neg c17] at H
          have c17b0 : (!(((rd_T41 l0_0 x5_2).f0) == ((rd_T41 l1_0 x5_2).f0)) || (!(((rd_T41 l0_0 x5_2).f1) == ((rd_T41 l1_0 x5_2).f1)) || (!(((rd_T41 l0_0 x5_2).f2) == ((rd_T41 l1_0 x5_2).f2)) || (!(((rd_T41 l0_0 x5_2).f3) == ((rd_T41 l1_0 x5_2).f3)) || (!(((rd_T41 l0_0 x5_2).f4) == ((rd_T41 l1_0 x5_2).f4))))))) = false:=by simpa using c17
          clear c17
          have H' := Aside0.mk H
          clear H
          have hnb21 := NB298_299.out
          have hnc21 := NB299_298.out
          have hcz22_0 : wr.cell? ⟨gb298,0,none⟩ = some (.slice A0_0 l0_0.length c0_0):=(blk_cell BK298.out 0).trans rfl
          have hcz22_1 : wr.cell? ⟨gb298,1,none⟩ = some (.int .i64 a0_1):=(blk_cell BK298.out 1).trans rfl
          have hfz22_0 := blk_frozen BK298.out 0
          have hfz22_1 := blk_frozen BK298.out 1
          have p300 : 0 ≤ (x5_2 : Int):=of_decide_eq_true (by first|(with_reducible assumption)|assumption)
          have q300 : x5_2 < (l0_0.length : Int):=of_decide_eq_true (by first|(with_reducible assumption)|assumption)
          obtain ⟨ad300,e300,hx300_0,hx300_1,hx300_2,hx300_3,hx300_4⟩:=at_T41 HR0_0.out x5_2 p300 q300
          cases e300
          replace hx300_0:=(HB.out.cell (World.block_lt_of_cell? w _ hx300_0)).trans hx300_0
          replace hx300_1:=(HB.out.cell (World.block_lt_of_cell? w _ hx300_1)).trans hx300_1
          replace hx300_2:=(HB.out.cell (World.block_lt_of_cell? w _ hx300_2)).trans hx300_2
          replace hx300_3:=(HB.out.cell (World.block_lt_of_cell? w _ hx300_3)).trans hx300_3
          replace hx300_4:=(HB.out.cell (World.block_lt_of_cell? w _ hx300_4)).trans hx300_4
          replace p300 := eq_true p300
          replace q300 := eq_true q300
          have hcz23_0 : wr.cell? ⟨gb299,0,none⟩ = some (.slice A1_0 l1_0.length c1_0):=(blk_cell BK299.out 0).trans rfl
          have hcz23_1 : wr.cell? ⟨gb299,1,none⟩ = some (.int .i64 a1_1):=(blk_cell BK299.out 1).trans rfl
          have hfz23_0 := blk_frozen BK299.out 0
          have hfz23_1 := blk_frozen BK299.out 1
          have p301 : 0 ≤ (x5_2 : Int):=of_decide_eq_true (by first|(with_reducible assumption)|assumption)
          have q301 : x5_2 < (l1_0.length : Int):=of_decide_eq_true (by first|(with_reducible assumption)|assumption)
          obtain ⟨ad301,e301,hx301_0,hx301_1,hx301_2,hx301_3,hx301_4⟩:=at_T41 HR1_0.out x5_2 p301 q301
          cases e301
          replace hx301_0:=(HB.out.cell (World.block_lt_of_cell? w _ hx301_0)).trans hx301_0
          replace hx301_1:=(HB.out.cell (World.block_lt_of_cell? w _ hx301_1)).trans hx301_1
          replace hx301_2:=(HB.out.cell (World.block_lt_of_cell? w _ hx301_2)).trans hx301_2
          replace hx301_3:=(HB.out.cell (World.block_lt_of_cell? w _ hx301_3)).trans hx301_3
          replace hx301_4:=(HB.out.cell (World.block_lt_of_cell? w _ hx301_4)).trans hx301_4
          replace p301 := eq_true p301
          replace q301 := eq_true q301
          go_wp2
          repeat (go_quiet (fail); try go_wp2)
          go_roundg k2
          case measure => have := HJ2.out; have := HK2.out; omega
          case rel => exact ⟨(wrap64 (x5_2 + 1)),(by first|rfl|(simp;done)|(simp [*];done)),H',⟨by have:=HJ2.out;have:=HK2.out;omega⟩,⟨by (with_reducible repeat (first|refine y_b ?_ _|refine y_c ?_|refine y_d ?_ _));exact BK298.out⟩,⟨by (with_reducible repeat (first|refine y_b ?_ _|refine y_c ?_|refine y_d ?_ _));exact BK299.out⟩,⟨by repeat (first|(with_reducible first|exact HB.out|apply y_h|apply y_i|apply y_j|refine y_s ?_ GE298.out|refine y_s ?_ GE299.out)|exact HB.out)⟩⟩
        ·rw [if_neg c16] at H
         exact absurd H (by simp)
       ·rw [if_neg c15] at H
        exact absurd H (by simp)
      ·rw [if_neg c14] at H
       have c14b0 : decide (x5_2 < (l0_0.length : Int)) = false:=decide_eq_false c14
       clear c14
       obtain rfl := Option.some.inj H
       have hnb24 := NB298_299.out
       have hnc24 := NB299_298.out
       have hcz25_0 : wr.cell? ⟨gb298,0,none⟩ = some (.slice A0_0 l0_0.length c0_0):=(blk_cell BK298.out 0).trans rfl
       have hcz25_1 : wr.cell? ⟨gb298,1,none⟩ = some (.int .i64 a0_1):=(blk_cell BK298.out 1).trans rfl
       have hfz25_0 := blk_frozen BK298.out 0
       have hfz25_1 := blk_frozen BK298.out 1
       go_wp2
       repeat (go_quiet (fail); try go_wp2)
       go_ret
       exact ⟨by first|rfl|(simp [errW_none,errW_some] <;> rfl)|(simp [*,errW_none,errW_some] <;> rfl),by repeat (first|(with_reducible first|exact HB.out|apply y_h|apply y_i|apply y_j|refine y_s ?_ GE298.out|refine y_s ?_ GE299.out)|exact HB.out)⟩

end Go.Proofs.Ytlfnjkcgefcidaa.PFnPoolLet
