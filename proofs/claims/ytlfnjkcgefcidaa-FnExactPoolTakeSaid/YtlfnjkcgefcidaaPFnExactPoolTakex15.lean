-- Written by a program of this session over the print's form. Lean checks it.
import Derived.Test.YtlfnjkcgefcidaaPFnExactPoolTakex0
namespace Go.Proofs.Ytlfnjkcgefcidaa.PFnExactPoolTake
open Go.RowKit Go.Proofs.YtlfnjkcgefcidaaW.PrintWords Go.Proofs.YtlfnjkcgefcidaaW.PrintLast Go.Proofs.YtlfnjkcgefcidaaW.PrintMore
attribute [local go_sem] max2_int min2_int max_two min_two max_three min_three max_four min_four   -- for this text's walks alone
set_option linter.unusedVariables false
set_option linter.unusedSimpArgs false

/-! ### spec_l10Copy: function 54 -/
def spec_l10Copy.f (l0_0 : List (S41)) (a0_1 : Int) : Option ((List (S41)) × Int) := (some (([] : List (S41)) : List (S41))).bind fun y221 => (if y221.length + l0_0.length < 3518437208883 then (some ((y221 ++ l0_0), a0_1)) else (none))
set_option maxHeartbeats 8000000 in
set_option maxRecDepth 100000 in
theorem spec_l10Copy.calls (A0_0 : Option Addr) (c0_0 : Nat) (l0_0 : List (S41)) (a0_1 : Int) (r1 : List (S41)) (r2 : Int) (w : World) (hr0_0 : Kd.C k41 w A0_0 l0_0.length l0_0) (hc0_0 : l0_0.length ≤ c0_0) (h : spec_l10Copy.f l0_0 a0_1 = some (r1, r2)) :
  Calls Try.prog 54 #[.agg #[.slice A0_0 l0_0.length c0_0, .int .i64 a0_1]] w fun e w' => ∃ v0_ : Value, e = .returned (.agg #[v0_, .int .i64 r2]) ∧ Kd.R k41 41 w' w.heap.size (fun _ => True) v0_ r1 ∧ Below w.heap.size w w' := by
 have hu29 := Try.underlying29
 have HR0_0 := Aside0.mk hr0_0
 have HC0_0 := Aside0.mk hc0_0
 clear hr0_0 hc0_0
 have HB := Aside0.mk (Below.refl w.heap.size w)
 have H : ((some (([] : List (S41)) : List (S41))).bind fun y221 => (if y221.length + l0_0.length < 3518437208883 then (some ((y221++l0_0),a0_1)) else (none))) = some (r1,r2):=h
 clear h
 obtain ⟨y221,hy221⟩ : ∃ y_ : List (S41),y_ = (([] : List (S41))):=⟨_,rfl⟩
 replace H : (if y221.length + l0_0.length < 3518437208883 then (some ((y221++l0_0),a0_1)) else (none)) = some (r1,r2):=by first|(rw [hy221];with_reducible exact H)|(have H2_:=(Option.bind_some _ _).symm.trans H;rw [hy221];with_reducible exact H2_)|(have H2_:=(Option.bind_some _ _).symm.trans H;with_reducible exact H2_)|with_reducible exact H|(rw [hy221];exact H)|exact H
 have Ny221 := Aside0.mk hy221
 clear hy221
 by_cases c2 : y221.length + l0_0.length < 3518437208883
 ·rw [if_pos c2] at H
  have LMc2 := Aside0.mk c2
  clear c2
  obtain ⟨y224,hy224⟩ : ∃ y_ : List (S41),y_ = (y221++l0_0):=⟨_,rfl⟩
  replace H : (some (y224,a0_1)) = some (r1,r2):=by first|(rw [hy224];with_reducible exact H)|(have H2_:=(Option.bind_some _ _).symm.trans H;rw [hy224];with_reducible exact H2_)|(have H2_:=(Option.bind_some _ _).symm.trans H;with_reducible exact H2_)|with_reducible exact H|(rw [hy224];exact H)|exact H
  have Ny224 := Aside0.mk hy224
  clear hy224
  simp only [Option.some.injEq, Prod.mk.injEq] at H
  obtain ⟨rfl, rfl⟩ := H
  go_enter Try.func54, Try.ntmps54
  go_wp2_with (first|((with_reducible refine gate_dst (N:=1) rfl ?_);refine box_event ?hg (N:=1) ?hd (cs:=#[.slice A0_0 l0_0.length c0_0,.int .i64 a0_1]) (t:=29) ?hr ?_;(case hd => rfl);(case hg => rfl);(case hr => first|(go_simp;done)|(go_simp;rfl));intro gb219 hg w3 hbox hb;have n0_:=Aside0.mk (below_step (by repeat (first|(with_reducible first|exact HB.out|apply y_h|apply y_i|apply y_j)|exact HB.out)) hb);have n1_:=Aside0.mk (hbox);have n2_:=Aside0.mk ((by rw [hg];exact (below_size (by repeat (first|(with_reducible first|exact HB.out|apply y_h|apply y_i|apply y_j)|exact HB.out))) : w.heap.size ≤ gb219));have n3_:=Aside0.mk ((by rw [hg];exact (below_size (by repeat (first|(with_reducible first|exact HB.out|apply y_h|apply y_i|apply y_j)|exact HB.out))) : w.heap.size ≤ gb219));clear HB;have HB:=n0_;have BK219:=n1_;have GW219:=n2_;have GE219:=n3_;clear n0_ n1_ n2_ n3_;clear hb hbox hg)|((with_reducible refine gate_dst (N:=2) rfl ?_);refine box_event ?hg (N:=2) ?hd (cs:=#[.slice none 0 0,.int .i64 0]) (t:=29) ?hr ?_;(case hd => rfl);(case hg => rfl);(case hr => first|(go_simp;done)|(go_simp;rfl));intro gb220 hg w4 hbox hb;have n0_:=Aside0.mk (blk_below (g:=gb219) (o:=.cells #[.slice A0_0 l0_0.length c0_0,.int .i64 a0_1] 29 (0,0)) (by (with_reducible repeat (first|refine y_b ?_ _|refine y_c ?_|refine y_d ?_ _));exact BK219.out) hb);have n1_:=Aside0.mk (below_step (by repeat (first|(with_reducible first|exact HB.out|apply y_h|apply y_i|apply y_j|refine y_n ?_ GE219.out)|exact HB.out)) hb);have n2_:=Aside0.mk (hbox);have n3_:=Aside0.mk ((by rw [hg];exact (below_size (by repeat (first|(with_reducible first|exact HB.out|apply y_h|apply y_i|apply y_j|refine y_n ?_ GE219.out)|exact HB.out))) : w.heap.size ≤ gb220));have n4_:=Aside0.mk ((by rw [hg];exact (below_size (by repeat (first|(with_reducible first|exact HB.out|apply y_h|apply y_i|apply y_j|refine y_n ?_ GE219.out)|exact HB.out))) : w.heap.size ≤ gb220));have n5_:=Aside0.mk ((by rw [hg];exact Nat.ne_of_lt (blk_lt (g:=gb219) (o:=.cells #[.slice A0_0 l0_0.length c0_0,.int .i64 a0_1] 29 (0,0)) (by (with_reducible repeat (first|refine y_b ?_ _|refine y_c ?_|refine y_d ?_ _));exact BK219.out)) : gb219 ≠ gb220));have n6_:=Aside0.mk ((by rw [hg];exact Nat.ne_of_gt (blk_lt (g:=gb219) (o:=.cells #[.slice A0_0 l0_0.length c0_0,.int .i64 a0_1] 29 (0,0)) (by (with_reducible repeat (first|refine y_b ?_ _|refine y_c ?_|refine y_d ?_ _));exact BK219.out)) : gb220 ≠ gb219));clear BK219 HB;have BK219:=n0_;have HB:=n1_;have BK220:=n2_;have GW220:=n3_;have GE220:=n4_;have NB219_220:=n5_;have NB220_219:=n6_;clear n0_ n1_ n2_ n3_ n4_ n5_ n6_;clear hb hbox hg)|((with_reducible refine gate_dst (N:=3) rfl ?_);refine Kd.R_lit k41 _ 41 ?hg (N:=3) ?hd (xs:=([] : List (S41))) (inner:=[]) (ok:=fun _ => True) (okp:=fun _ => True) ?hr ?hp (fun _ hk => hk) trivial (Below.refl _ _) (Nat.le_refl _) (by simp) ?_;(case hd => rfl);(case hg => rfl);(case hr => first|(go_simp;done)|(go_simp;rfl));(case hp => exact (Reps.none _ _));intro v222 w5 ho6 hb hg_ hnew_;clear hg_ hnew_;(first|rw [← Ny221.out] at ho6|(simp only [Int.reduceToNat] at ho6;rw [← Ny221.out] at ho6));have n0_:=Aside0.mk (Kd.R_lower ho6 (below_size (by repeat (first|(with_reducible first|exact HB.out|apply y_h|apply y_i|apply y_j|refine y_n ?_ GE219.out|refine y_n ?_ GE220.out)|exact HB.out))));have n1_:=Aside0.mk (blk_below (g:=gb219) (o:=.cells #[.slice A0_0 l0_0.length c0_0,.int .i64 a0_1] 29 (0,0)) (by (with_reducible repeat (first|refine y_b ?_ _|refine y_c ?_|refine y_d ?_ _));exact BK219.out) hb);have n2_:=Aside0.mk (blk_below (g:=gb220) (o:=.cells #[.slice none 0 0,.int .i64 0] 29 (0,0)) (by (with_reducible repeat (first|refine y_b ?_ _|refine y_c ?_|refine y_d ?_ _));exact BK220.out) hb);have n3_:=Aside0.mk (below_step (by repeat (first|(with_reducible first|exact HB.out|apply y_h|apply y_i|apply y_j|refine y_n ?_ GE219.out|refine y_n ?_ GE220.out)|exact HB.out)) hb);clear BK219 BK220 HB;have HO223:=n0_;have BK219:=n1_;have BK220:=n2_;have HB:=n3_;clear n0_ n1_ n2_ n3_;clear hb ho6;have hnb7:=NB219_220.out;have hnc7:=NB220_219.out;have hcz8_0 : w5.cell? ⟨gb219,0,none⟩ = some (.slice A0_0 l0_0.length c0_0):=(blk_cell BK219.out 0).trans rfl;have hcz8_1 : w5.cell? ⟨gb219,1,none⟩ = some (.int .i64 a0_1):=(blk_cell BK219.out 1).trans rfl;have hfz8_0:=blk_frozen BK219.out 0;have hfz8_1:=blk_frozen BK219.out 1)|((with_reducible refine gate_builtin (b:=.append) (xs:=#[.tmp 3,.tmp 5]) rfl ?_);at_builtin;refine Kd.R_append_rows k41 (w0:=w) w.heap.size rfl (.tmp 3) (.tmp 5) 27 41 (.agg #[(.int .i64 0),(.int .i64 0),(.int .i64 0),(.int .i64 0),(.bool false)]) 40 rfl Try.underlying27 info41 rfl (by decide) (by omega) v222 y221 l0_0 _ _ _ (fun _ => True) (fun _ => False) rfl rfl ?aO ?aR (fun _ _ h => h) (fun _ h => h.elim) ?aF ?aB ?aS ?aL ?_;(case aR => repeat (first|exact (Kd.C_below HR0_0.out HB.out)|(with_reducible refine y_k ?_ _)|(with_reducible refine y_l ?_ _)|(with_reducible refine y_m ?_)));(case aB => exact (by repeat (first|(with_reducible first|exact HB.out|apply y_h|apply y_i|apply y_j|refine y_n ?_ GE219.out|refine y_n ?_ GE220.out)|exact HB.out)));(case aF => exact (fun _ _ => trivial));(case aO => exact (by (with_reducible repeat (first|apply y_e|apply y_f|apply y_g));exact HO223.out));(case aS => exact (below_size (by repeat (first|(with_reducible first|exact HB.out|apply y_h|apply y_i|apply y_j|refine y_n ?_ GE219.out|refine y_n ?_ GE220.out)|exact HB.out))));(case aL => have:=LMc2.out;omega);intro v225 w9 ho hb hg hat;rw [← Ny224.out] at ho;have n0_:=Aside0.mk (blk_grown (g:=gb219) (o:=.cells #[.slice A0_0 l0_0.length c0_0,.int .i64 a0_1] 29 (0,0)) (by (with_reducible repeat (first|refine y_b ?_ _|refine y_c ?_|refine y_d ?_ _));exact BK219.out) hg (Kd.R_ne HO223.out BK219.out (by decide)));have n1_:=Aside0.mk (blk_grown (g:=gb220) (o:=.cells #[.slice none 0 0,.int .i64 0] 29 (0,0)) (by (with_reducible repeat (first|refine y_b ?_ _|refine y_c ?_|refine y_d ?_ _));exact BK220.out) hg (Kd.R_ne HO223.out BK220.out (by decide)));have n2_:=Aside0.mk (hb);have n3_:=Aside0.mk (ho);clear BK219 BK220 HB HO223;have BK219:=n0_;have BK220:=n1_;have HB:=n2_;have HO226:=n3_;clear n0_ n1_ n2_ n3_;clear ho hb hg hat;obtain ⟨Ao10,co10,eo10⟩:=Kd.R_slice HO226.out;subst eo10;have hcz11_0 : w9.cell? ⟨gb219,0,none⟩ = some (.slice A0_0 l0_0.length c0_0):=(blk_cell BK219.out 0).trans rfl;have hcz11_1 : w9.cell? ⟨gb219,1,none⟩ = some (.int .i64 a0_1):=(blk_cell BK219.out 1).trans rfl;have hfz11_0:=blk_frozen BK219.out 0;have hfz11_1:=blk_frozen BK219.out 1;have hcz12_0 : w9.cell? ⟨gb220,0,none⟩ = some (.slice none 0 0):=(blk_cell BK220.out 0).trans rfl;have hcz12_1 : w9.cell? ⟨gb220,1,none⟩ = some (.int .i64 0):=(blk_cell BK220.out 1).trans rfl;have hfz12_0:=blk_frozen BK220.out 0;have hfz12_1:=blk_frozen BK220.out 1))
  refine bodyPost_ret (results_cell_row rfl _ _ gb220 29 #[.slice Ao10 y224.length co10,.int .i64 a0_1] (0,0) _ rfl (by (with_reducible repeat (first|refine y_b ?_ _|refine y_c ?_|refine y_d ?_ _));refine blk_put (cs:=#[.slice Ao10 y224.length co10,.int .i64 0]) ?_ 1 _ rfl;(with_reducible repeat (first|refine y_b ?_ _|refine y_c ?_|refine y_d ?_ _));refine blk_put (cs:=#[.slice none 0 0,.int .i64 0]) ?_ 0 _ rfl;(with_reducible repeat (first|refine y_b ?_ _|refine y_c ?_|refine y_d ?_ _));refine blk_far ?_ NB220_219.out _;(with_reducible repeat (first|refine y_b ?_ _|refine y_c ?_|refine y_d ?_ _));exact BK220.out) Try.underlying29 rfl (by kernel_rfl)) rfl ?_
  exact ⟨_,by first|rfl|(simp [errW_none,errW_some] <;> rfl)|(simp [*,errW_none,errW_some] <;> rfl),by (with_reducible repeat (first|apply y_e|apply y_f|apply y_g));exact y_o (Kd.R_far (p:=⟨gb220,1,none⟩) (Kd.R_far (p:=⟨gb220,0,none⟩) (Kd.R_far (p:=⟨gb219,0,none⟩) (Kd.R_types (Kd.R_types HO226.out BK219.out (by decide)) BK220.out (by decide)) (fun _ hk => hk.1.2) (.slice Ao10 y224.length co10)) (fun _ hk => hk.2) (.slice Ao10 y224.length co10)) (fun _ hk => hk.2) (.int .i64 a0_1)) (fun _ hk => trivial),by repeat (first|(with_reducible first|exact HB.out|apply y_h|apply y_i|apply y_j|refine y_n ?_ GE219.out|refine y_n ?_ GE220.out)|exact HB.out)⟩
 ·rw [if_neg c2] at H
  exact absurd H (by simp)

/-! ### spec_l10Find: function 76 -/
def spec_l10Find.l0 : Nat → Int → Int → Int → List (S41) → Int → Option (Int)
 | 0, _, _, _, _, _ => none
 | k + 1, x1, x2, x7, x228000, x228001 => if x7 < (x228000.length : Int) then (if 0 ≤ x7 then (if ((rd_T41 x228000 x7).f1) = x1 then (if ((rd_T41 x228000 x7).f2) = x2 then (some x7) else (spec_l10Find.l0 k x1 x2 (wrap64 (x7 + 1)) x228000 x228001)) else (spec_l10Find.l0 k x1 x2 (wrap64 (x7 + 1)) x228000 x228001)) else (none)) else (some (-1))
def spec_l10Find.f (k : Nat) (l0_0 : List (S41)) (a0_1 : Int) (a1 : Int) (a2 : Int) : Option (Int) := spec_l10Find.l0 k a1 a2 0 l0_0 a0_1
theorem spec_l10Find.mono_l : ∀ k, (∀ y0 y1 y2 y3 y4, LeO (spec_l10Find.l0 k y0 y1 y2 y3 y4) (spec_l10Find.l0 (k + 1) y0 y1 y2 y3 y4))
 | 0 => fun _ _ _ _ _ r h => by simp [spec_l10Find.l0] at h
 | k + 1 => by
  have ih0 := spec_l10Find.mono_l k
  ·intro y0 y1 y2 y3 y4
   unfold spec_l10Find.l0
   repeat' first
   | (with_reducible exact ih0 _ _ _ _ _)
   | (with_reducible exact LeO.refl _)
   | (with_reducible exact LeO.none _)
   | (with_reducible refine LeO.ite ?_ ?_)
   | (with_reducible refine LeO.bind ?_ (fun _ => ?_))
   | exact ih0 _ _ _ _ _
   | exact LeO.none _
   | refine LeO.ite ?_ ?_
   | refine LeO.bind ?_ (fun _ => ?_)
theorem spec_l10Find.mono : ∀ a0 a1 a2 a3 k, LeO (spec_l10Find.f k a0 a1 a2 a3) (spec_l10Find.f (k + 1) a0 a1 a2 a3) := by
 intro a0 a1 a2 a3 k
 have ih0 := spec_l10Find.mono_l k
 unfold spec_l10Find.f
 repeat' first
   | (with_reducible exact ih0 _ _ _ _ _)
   | (with_reducible exact LeO.refl _)
   | (with_reducible exact LeO.none _)
   | (with_reducible refine LeO.ite ?_ ?_)
   | (with_reducible refine LeO.bind ?_ (fun _ => ?_))
   | exact ih0 _ _ _ _ _
   | exact LeO.none _
   | refine LeO.ite ?_ ?_
   | refine LeO.bind ?_ (fun _ => ?_)
set_option maxHeartbeats 8000000 in
set_option maxRecDepth 100000 in
theorem spec_l10Find.calls (k : Nat) (A0_0 : Option Addr) (c0_0 : Nat) (l0_0 : List (S41)) (a0_1 : Int) (a1 : Int) (a2 : Int) (r : Int) (w : World) (hr0_0 : Kd.C k41 w A0_0 l0_0.length l0_0) (hc0_0 : l0_0.length ≤ c0_0) (h : spec_l10Find.f k l0_0 a0_1 a1 a2 = some r) :
  Calls Try.prog 76 #[.agg #[.slice A0_0 l0_0.length c0_0, .int .i64 a0_1], .int .i64 a1, .int .i64 a2] w fun e w' => e = .returned (.int .i64 r) ∧ Below w.heap.size w w' := by
 have hu29 := Try.underlying29
 have HR0_0 := Aside0.mk hr0_0
 have HC0_0 := Aside0.mk hc0_0
 clear hr0_0 hc0_0
 have HB := Aside0.mk (Below.refl w.heap.size w)
 have H : (spec_l10Find.l0 k a1 a2 0 l0_0 a0_1) = some r := h
 clear h
 have H' := Aside0.mk H
 clear H
 go_enter Try.func76, Try.ntmps76
 go_wp2_with (first|((with_reducible refine gate_dst (N:=3) rfl ?_);refine box_event ?hg (N:=3) ?hd (cs:=#[.slice A0_0 l0_0.length c0_0,.int .i64 a0_1]) (t:=29) ?hr ?_;(case hd => rfl);(case hg => rfl);(case hr => first|(go_simp;done)|(go_simp;rfl));intro gb227 hg w4 hbox hb;have n0_:=Aside0.mk (below_step (by repeat (first|(with_reducible first|exact HB.out|apply y_h|apply y_i|apply y_j)|exact HB.out)) hb);have n1_:=Aside0.mk (hbox);have n2_:=Aside0.mk ((by rw [hg];exact (below_size (by repeat (first|(with_reducible first|exact HB.out|apply y_h|apply y_i|apply y_j)|exact HB.out))) : w.heap.size ≤ gb227));have n3_:=Aside0.mk ((by rw [hg];exact (below_size (by repeat (first|(with_reducible first|exact HB.out|apply y_h|apply y_i|apply y_j)|exact HB.out))) : w.heap.size ≤ gb227));clear HB;have HB:=n0_;have BK227:=n1_;have GW227:=n2_;have GE227:=n3_;clear n0_ n1_ n2_ n3_;clear hb hbox hg))
 go_loopg [7] k (fun kq v7 w' => ∃ (x7_1 : Int),v7 = .int .i64 x7_1 ∧ Aside0 (spec_l10Find.l0 kq a1 a2 x7_1 l0_0 a0_1 = some r) ∧ Aside0 (kq ≤ k) ∧ Aside0 (w'.heap[gb227]? = some (.cells #[(.slice A0_0 l0_0.length c0_0),.int .i64 a0_1] 29 (0,0))) ∧ Aside0 (Below w.heap.size w w'))
 case atStart => exact ⟨(0),(by first|rfl|(simp;done)|(simp [*];done)),H',⟨Nat.le_refl _⟩,⟨by (with_reducible repeat (first|refine y_b ?_ _|refine y_c ?_|refine y_d ?_ _));exact BK227.out⟩,⟨by repeat (first|(with_reducible first|exact HB.out|apply y_h|apply y_i|apply y_j|refine y_n ?_ GE227.out)|exact HB.out)⟩⟩
 case round =>
  clear H'
  try clear p2
  obtain ⟨x7_1, rfl, HA, HK1, BK227, HB⟩ := hrel
  cases gk with
  | zero => exact absurd HA.out (by simp [spec_l10Find.l0])
  | succ k1 =>
   have H := HA.out
   clear HA
   simp only [spec_l10Find.l0] at H
   by_cases c5 : x7_1 < (l0_0.length : Int)
   ·rw [if_pos c5] at H
    have c5b0 : decide (x7_1 < (l0_0.length : Int)) = true:=decide_eq_true c5
    clear c5
    by_cases c6 : 0 ≤ x7_1
    ·rw [if_pos c6] at H
     have c6b0 : decide (0 ≤ x7_1) = true := decide_eq_true c6
     clear c6
     by_cases c7 : ((rd_T41 l0_0 x7_1).f1) = a1
     ·rw [if_pos c7] at H
      have c7b0 : (((rd_T41 l0_0 x7_1).f1) == a1) = true:=beq_iff_eq.mpr c7
      have c7b1 : (((rd_T41 l0_0 x7_1).f1) != a1) = false:=bne_eq_false_iff_eq.mpr c7
      clear c7
      by_cases c8 : ((rd_T41 l0_0 x7_1).f2) = a2
      ·rw [if_pos c8] at H
       have c8b0 : (((rd_T41 l0_0 x7_1).f2) == a2) = true:=beq_iff_eq.mpr c8
       have c8b1 : (((rd_T41 l0_0 x7_1).f2) != a2) = false:=bne_eq_false_iff_eq.mpr c8
       clear c8
       obtain rfl := Option.some.inj H
       have hcz9_0 : wr.cell? ⟨gb227,0,none⟩ = some (.slice A0_0 l0_0.length c0_0):=(blk_cell BK227.out 0).trans rfl
       have hcz9_1 : wr.cell? ⟨gb227,1,none⟩ = some (.int .i64 a0_1):=(blk_cell BK227.out 1).trans rfl
       have hfz9_0 := blk_frozen BK227.out 0
       have hfz9_1 := blk_frozen BK227.out 1
       have p228 : 0 ≤ (x7_1 : Int):=of_decide_eq_true (by first|(with_reducible assumption)|assumption)
       have q228 : x7_1 < (l0_0.length : Int):=of_decide_eq_true (by first|(with_reducible assumption)|assumption)
       obtain ⟨ad228,e228,hx228_0,hx228_1,hx228_2,hx228_3,hx228_4⟩:=at_T41 HR0_0.out x7_1 p228 q228
       cases e228
       replace hx228_0:=(HB.out.cell (World.block_lt_of_cell? w _ hx228_0)).trans hx228_0
       replace hx228_1:=(HB.out.cell (World.block_lt_of_cell? w _ hx228_1)).trans hx228_1
       replace hx228_2:=(HB.out.cell (World.block_lt_of_cell? w _ hx228_2)).trans hx228_2
       replace hx228_3:=(HB.out.cell (World.block_lt_of_cell? w _ hx228_3)).trans hx228_3
       replace hx228_4:=(HB.out.cell (World.block_lt_of_cell? w _ hx228_4)).trans hx228_4
       replace p228 := eq_true p228
       replace q228 := eq_true q228
       have p229 : 0 ≤ (x7_1 : Int):=of_decide_eq_true (by first|(with_reducible assumption)|assumption)
       have q229 : x7_1 < (l0_0.length : Int):=of_decide_eq_true (by first|(with_reducible assumption)|assumption)
       obtain ⟨ad229,e229,hx229_0,hx229_1,hx229_2,hx229_3,hx229_4⟩:=at_T41 HR0_0.out x7_1 p229 q229
       obtain rfl : ad228 = ad229 := (by injection e229)
       replace hx229_0:=(HB.out.cell (World.block_lt_of_cell? w _ hx229_0)).trans hx229_0
       replace hx229_1:=(HB.out.cell (World.block_lt_of_cell? w _ hx229_1)).trans hx229_1
       replace hx229_2:=(HB.out.cell (World.block_lt_of_cell? w _ hx229_2)).trans hx229_2
       replace hx229_3:=(HB.out.cell (World.block_lt_of_cell? w _ hx229_3)).trans hx229_3
       replace hx229_4:=(HB.out.cell (World.block_lt_of_cell? w _ hx229_4)).trans hx229_4
       replace p229 := eq_true p229
       replace q229 := eq_true q229
       go_wp2
       go_ret
       exact ⟨by first|rfl|(simp [errW_none,errW_some] <;> rfl)|(simp [*,errW_none,errW_some] <;> rfl),by repeat (first|(with_reducible first|exact HB.out|apply y_h|apply y_i|apply y_j|refine y_n ?_ GE227.out)|exact HB.out)⟩
      ·rw [if_neg c8] at H
       have c8b0 : (((rd_T41 l0_0 x7_1).f2) == a2) = false:=beq_eq_false_iff_ne.mpr c8
       have c8b1 : (((rd_T41 l0_0 x7_1).f2) != a2) = true:=bne_iff_ne.mpr c8
       have H' := Aside0.mk H
       clear H
       have hcz10_0 : wr.cell? ⟨gb227,0,none⟩ = some (.slice A0_0 l0_0.length c0_0):=(blk_cell BK227.out 0).trans rfl
       have hcz10_1 : wr.cell? ⟨gb227,1,none⟩ = some (.int .i64 a0_1):=(blk_cell BK227.out 1).trans rfl
       have hfz10_0 := blk_frozen BK227.out 0
       have hfz10_1 := blk_frozen BK227.out 1
       have p228 : 0 ≤ (x7_1 : Int):=of_decide_eq_true (by first|(with_reducible assumption)|assumption)
       have q228 : x7_1 < (l0_0.length : Int):=of_decide_eq_true (by first|(with_reducible assumption)|assumption)
       obtain ⟨ad228,e228,hx228_0,hx228_1,hx228_2,hx228_3,hx228_4⟩:=at_T41 HR0_0.out x7_1 p228 q228
       cases e228
       replace hx228_0:=(HB.out.cell (World.block_lt_of_cell? w _ hx228_0)).trans hx228_0
       replace hx228_1:=(HB.out.cell (World.block_lt_of_cell? w _ hx228_1)).trans hx228_1
       replace hx228_2:=(HB.out.cell (World.block_lt_of_cell? w _ hx228_2)).trans hx228_2
       replace hx228_3:=(HB.out.cell (World.block_lt_of_cell? w _ hx228_3)).trans hx228_3
       replace hx228_4:=(HB.out.cell (World.block_lt_of_cell? w _ hx228_4)).trans hx228_4
       replace p228 := eq_true p228
       replace q228 := eq_true q228
       have p229 : 0 ≤ (x7_1 : Int):=of_decide_eq_true (by first|(with_reducible assumption)|assumption)
       have q229 : x7_1 < (l0_0.length : Int):=of_decide_eq_true (by first|(with_reducible assumption)|assumption)
       obtain ⟨ad229,e229,hx229_0,hx229_1,hx229_2,hx229_3,hx229_4⟩:=at_T41 HR0_0.out x7_1 p229 q229
       obtain rfl : ad228 = ad229 := (by injection e229)
       replace hx229_0:=(HB.out.cell (World.block_lt_of_cell? w _ hx229_0)).trans hx229_0
       replace hx229_1:=(HB.out.cell (World.block_lt_of_cell? w _ hx229_1)).trans hx229_1
       replace hx229_2:=(HB.out.cell (World.block_lt_of_cell? w _ hx229_2)).trans hx229_2
       replace hx229_3:=(HB.out.cell (World.block_lt_of_cell? w _ hx229_3)).trans hx229_3
       replace hx229_4:=(HB.out.cell (World.block_lt_of_cell? w _ hx229_4)).trans hx229_4
       replace p229 := eq_true p229
       replace q229 := eq_true q229
       go_wp2
       go_roundg k1
       case measure => have := HK1.out; omega
       case rel => exact ⟨(wrap64 (x7_1 + 1)),(by first|rfl|(simp;done)|(simp [*];done)),H',⟨by have:=HK1.out;omega⟩,⟨by (with_reducible repeat (first|refine y_b ?_ _|refine y_c ?_|refine y_d ?_ _));exact BK227.out⟩,⟨by repeat (first|(with_reducible first|exact HB.out|apply y_h|apply y_i|apply y_j|refine y_n ?_ GE227.out)|exact HB.out)⟩⟩
     ·rw [if_neg c7] at H
      have c7b0 : (((rd_T41 l0_0 x7_1).f1) == a1) = false:=beq_eq_false_iff_ne.mpr c7
      have c7b1 : (((rd_T41 l0_0 x7_1).f1) != a1) = true:=bne_iff_ne.mpr c7
      have H' := Aside0.mk H
      clear H
      have hcz11_0 : wr.cell? ⟨gb227,0,none⟩ = some (.slice A0_0 l0_0.length c0_0):=(blk_cell BK227.out 0).trans rfl
      have hcz11_1 : wr.cell? ⟨gb227,1,none⟩ = some (.int .i64 a0_1):=(blk_cell BK227.out 1).trans rfl
      have hfz11_0 := blk_frozen BK227.out 0
      have hfz11_1 := blk_frozen BK227.out 1
      have p228 : 0 ≤ (x7_1 : Int):=of_decide_eq_true (by first|(with_reducible assumption)|assumption)
      have q228 : x7_1 < (l0_0.length : Int):=of_decide_eq_true (by first|(with_reducible assumption)|assumption)
      obtain ⟨ad228,e228,hx228_0,hx228_1,hx228_2,hx228_3,hx228_4⟩:=at_T41 HR0_0.out x7_1 p228 q228
      cases e228
      replace hx228_0:=(HB.out.cell (World.block_lt_of_cell? w _ hx228_0)).trans hx228_0
      replace hx228_1:=(HB.out.cell (World.block_lt_of_cell? w _ hx228_1)).trans hx228_1
      replace hx228_2:=(HB.out.cell (World.block_lt_of_cell? w _ hx228_2)).trans hx228_2
      replace hx228_3:=(HB.out.cell (World.block_lt_of_cell? w _ hx228_3)).trans hx228_3
      replace hx228_4:=(HB.out.cell (World.block_lt_of_cell? w _ hx228_4)).trans hx228_4
      replace p228 := eq_true p228
      replace q228 := eq_true q228
      go_wp2
      go_roundg k1
      case measure => have := HK1.out; omega
      case rel => exact ⟨(wrap64 (x7_1 + 1)),(by first|rfl|(simp;done)|(simp [*];done)),H',⟨by have:=HK1.out;omega⟩,⟨by (with_reducible repeat (first|refine y_b ?_ _|refine y_c ?_|refine y_d ?_ _));exact BK227.out⟩,⟨by repeat (first|(with_reducible first|exact HB.out|apply y_h|apply y_i|apply y_j|refine y_n ?_ GE227.out)|exact HB.out)⟩⟩
    ·rw [if_neg c6] at H
     exact absurd H (by simp)
   ·rw [if_neg c5] at H
    have c5b0 : decide (x7_1 < (l0_0.length : Int)) = false:=decide_eq_false c5
    clear c5
    obtain rfl := Option.some.inj H
    have hcz12_0 : wr.cell? ⟨gb227,0,none⟩ = some (.slice A0_0 l0_0.length c0_0):=(blk_cell BK227.out 0).trans rfl
    have hcz12_1 : wr.cell? ⟨gb227,1,none⟩ = some (.int .i64 a0_1):=(blk_cell BK227.out 1).trans rfl
    have hfz12_0 := blk_frozen BK227.out 0
    have hfz12_1 := blk_frozen BK227.out 1
    go_wp2
    go_ret
    exact ⟨by first|rfl|(simp [errW_none,errW_some] <;> rfl)|(simp [*,errW_none,errW_some] <;> rfl),by repeat (first|(with_reducible first|exact HB.out|apply y_h|apply y_i|apply y_j|refine y_n ?_ GE227.out)|exact HB.out)⟩

end Go.Proofs.Ytlfnjkcgefcidaa.PFnExactPoolTake
