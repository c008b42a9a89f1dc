-- Written by a program of this session over the print's form. Lean checks it.
import Derived.Test.YtbpmfdpbgcpjeaaPFnExactCatTakex0
namespace Go.Proofs.Ytbpmfdpbgcpjeaa.PFnExactCatTake
open Go.RowKit Go.Proofs.YtbpmfdpbgcpjeaaW.PrintWords Go.Proofs.YtbpmfdpbgcpjeaaW.PrintLast Go.Proofs.YtbpmfdpbgcpjeaaW.PrintMore
attribute [local go_sem] max2_int min2_int max_two min_two max_three min_three max_four min_four   -- for this text's walks alone
set_option linter.unusedVariables false
set_option linter.unusedSimpArgs false

/-! ### spec_l9At: function 48 -/
def spec_l9At.l0 : Nat → Int → ByteArray → Int → Int → List (S36) → Option (Int)
 | 0, _, _, _, _, _ => none
 | k + 1, x1, x2, x7, x151000, x151001 => if x7 < (x151001.length : Int) then (if 0 ≤ x7 then (if ((rd_T36 x151001 x7).f0) = x1 then (if ((rd_T36 x151001 x7).f1).toList = x2.toList then (some x7) else (spec_l9At.l0 k x1 x2 (wrap64 (x7 + 1)) x151000 x151001)) else (spec_l9At.l0 k x1 x2 (wrap64 (x7 + 1)) x151000 x151001)) else (none)) else (some (-1))
def spec_l9At.f (k : Nat) (a0_0 : Int) (l0_1 : List (S36)) (a1 : Int) (a2 : ByteArray) : Option (Int) := spec_l9At.l0 k a1 a2 0 a0_0 l0_1
theorem spec_l9At.mono_l : ∀ k, (∀ y0 y1 y2 y3 y4, LeO (spec_l9At.l0 k y0 y1 y2 y3 y4) (spec_l9At.l0 (k + 1) y0 y1 y2 y3 y4))
 | 0 => fun _ _ _ _ _ r h => by simp [spec_l9At.l0] at h
 | k + 1 => by
  have ih0 := spec_l9At.mono_l k
  ·intro y0 y1 y2 y3 y4
   unfold spec_l9At.l0
   repeat' first
   | (with_reducible exact ih0 _ _ _ _ _)
   | (with_reducible exact LeO.refl _)
   | (with_reducible exact LeO.none _)
   | (with_reducible refine LeO.ite ?_ ?_)
   | (with_reducible refine LeO.bind ?_ (fun _ => ?_))
   | exact ih0 _ _ _ _ _
   | exact LeO.none _
   | refine LeO.ite ?_ ?_
   | refine LeO.bind ?_ (fun _ => ?_)
theorem spec_l9At.mono : ∀ a0 a1 a2 a3 k, LeO (spec_l9At.f k a0 a1 a2 a3) (spec_l9At.f (k + 1) a0 a1 a2 a3) := by
 intro a0 a1 a2 a3 k
 have ih0 := spec_l9At.mono_l k
 unfold spec_l9At.f
 repeat' first
   | (with_reducible exact ih0 _ _ _ _ _)
   | (with_reducible exact LeO.refl _)
   | (with_reducible exact LeO.none _)
   | (with_reducible refine LeO.ite ?_ ?_)
   | (with_reducible refine LeO.bind ?_ (fun _ => ?_))
   | exact ih0 _ _ _ _ _
   | exact LeO.none _
   | refine LeO.ite ?_ ?_
   | refine LeO.bind ?_ (fun _ => ?_)
set_option maxHeartbeats 8000000 in
set_option maxRecDepth 100000 in
theorem spec_l9At.calls (k : Nat) (a0_0 : Int) (A0_1 : Option Addr) (c0_1 : Nat) (l0_1 : List (S36)) (a1 : Int) (a2 : ByteArray) (r : Int) (w : World) (hr0_1 : Kd.C k36 w A0_1 l0_1.length l0_1) (hc0_1 : l0_1.length ≤ c0_1) (h : spec_l9At.f k a0_0 l0_1 a1 a2 = some r) :
  Calls Try.prog 48 #[.agg #[.int .i64 a0_0, .slice A0_1 l0_1.length c0_1], .int .i64 a1, .string a2] w fun e w' => e = .returned (.int .i64 r) ∧ Below w.heap.size w w' := by
 have hu29 := Try.underlying29
 have HR0_1 := Aside0.mk hr0_1
 have HC0_1 := Aside0.mk hc0_1
 clear hr0_1 hc0_1
 have HB := Aside0.mk (Below.refl w.heap.size w)
 have H : (spec_l9At.l0 k a1 a2 0 a0_0 l0_1) = some r := h
 clear h
 have H' := Aside0.mk H
 clear H
 go_enter Try.func48, Try.ntmps48
 go_wp2_with (first|((with_reducible refine gate_dst (N:=3) rfl ?_);refine box_event ?hg (N:=3) ?hd (cs:=#[.int .i64 a0_0,.slice A0_1 l0_1.length c0_1]) (t:=29) ?hr ?_;(case hd => rfl);(case hg => rfl);(case hr => first|(go_simp;done)|(go_simp;rfl));intro gb150 hg w4 hbox hb;have n0_:=Aside0.mk (below_step (by repeat (first|(with_reducible first|exact HB.out|apply below_alloc|apply pw_below_drewN|apply below_drew1)|exact HB.out)) hb);have n1_:=Aside0.mk (hbox);have n2_:=Aside0.mk ((by rw [hg];exact (below_size (by repeat (first|(with_reducible first|exact HB.out|apply below_alloc|apply pw_below_drewN|apply below_drew1)|exact HB.out))) : w.heap.size ≤ gb150));have n3_:=Aside0.mk ((by rw [hg];exact (below_size (by repeat (first|(with_reducible first|exact HB.out|apply below_alloc|apply pw_below_drewN|apply below_drew1)|exact HB.out))) : w.heap.size ≤ gb150));clear HB;have HB:=n0_;have BK150:=n1_;have GW150:=n2_;have GE150:=n3_;clear n0_ n1_ n2_ n3_;clear hb hbox hg))
 go_loopg [7] k (fun kq v7 w' => ∃ (x7_1 : Int),v7 = .int .i64 x7_1 ∧ Aside0 (spec_l9At.l0 kq a1 a2 x7_1 a0_0 l0_1 = some r) ∧ Aside0 (kq ≤ k) ∧ Aside0 (w'.heap[gb150]? = some (.cells #[.int .i64 a0_0,(.slice A0_1 l0_1.length c0_1)] 29 (0,0))) ∧ Aside0 (Below w.heap.size w w'))
 case atStart => exact ⟨(0),(by first|rfl|(simp;done)|(simp [*];done)),H',⟨Nat.le_refl _⟩,⟨by (with_reducible repeat (first|refine blk_drewN ?_ _|refine blk_drew ?_|refine blk_alloc ?_ _));exact BK150.out⟩,⟨by repeat (first|(with_reducible first|exact HB.out|apply below_alloc|apply pw_below_drewN|apply below_drew1|refine below_set ?_ GE150.out)|exact HB.out)⟩⟩
 case round =>
  clear H'
  try clear p2
  try clear c4
  obtain ⟨x7_1, rfl, HA, HK1, BK150, HB⟩ := hrel
  cases gk with
  | zero => exact absurd HA.out (by simp [spec_l9At.l0])
  | succ k1 =>
   have H := HA.out
   clear HA
   simp only [spec_l9At.l0] at H
   by_cases c5 : x7_1 < (l0_1.length : Int)
   ·rw [if_pos c5] at H
    have c5b0 : decide (x7_1 < (l0_1.length : Int)) = true:=decide_eq_true c5
    clear c5
    by_cases c6 : 0 ≤ x7_1
    ·rw [if_pos c6] at H
     have c6b0 : decide (0 ≤ x7_1) = true := decide_eq_true c6
     clear c6
     by_cases c7 : ((rd_T36 l0_1 x7_1).f0) = a1
     ·rw [if_pos c7] at H
      have c7b0 : (((rd_T36 l0_1 x7_1).f0) == a1) = true:=beq_iff_eq.mpr c7
      have c7b1 : (((rd_T36 l0_1 x7_1).f0) != a1) = false:=bne_eq_false_iff_eq.mpr c7
      clear c7
      by_cases c8 : ((rd_T36 l0_1 x7_1).f1).toList = a2.toList
      ·rw [if_pos c8] at H
       have c8b0 : (((rd_T36 l0_1 x7_1).f1).toList == a2.toList) = true:=beq_iff_eq.mpr c8
       have c8b1 : (((rd_T36 l0_1 x7_1).f1).toList != a2.toList) = false:=bne_eq_false_iff_eq.mpr c8
       clear c8
       obtain rfl := Option.some.inj H
       have hcz9_0 : wr.cell? ⟨gb150,0,none⟩ = some (.int .i64 a0_0):=(blk_cell BK150.out 0).trans rfl
       have hcz9_1 : wr.cell? ⟨gb150,1,none⟩ = some (.slice A0_1 l0_1.length c0_1):=(blk_cell BK150.out 1).trans rfl
       have hfz9_0 := blk_frozen BK150.out 0
       have hfz9_1 := blk_frozen BK150.out 1
       have p151 : 0 ≤ (x7_1 : Int):=of_decide_eq_true (by first|(with_reducible assumption)|assumption)
       have q151 : x7_1 < (l0_1.length : Int):=of_decide_eq_true (by first|(with_reducible assumption)|assumption)
       obtain ⟨ad151,e151,hx151_0,hx151_1,hx151_2,hx151_3⟩:=at_T36 HR0_1.out x7_1 p151 q151
       cases e151
       replace hx151_0:=(HB.out.cell (World.block_lt_of_cell? w _ hx151_0)).trans hx151_0
       replace hx151_1:=(HB.out.cell (World.block_lt_of_cell? w _ hx151_1)).trans hx151_1
       replace hx151_2:=(HB.out.cell (World.block_lt_of_cell? w _ hx151_2)).trans hx151_2
       replace hx151_3:=(HB.out.cell (World.block_lt_of_cell? w _ hx151_3)).trans hx151_3
       replace p151 := eq_true p151
       replace q151 := eq_true q151
       have p152 : 0 ≤ (x7_1 : Int):=of_decide_eq_true (by first|(with_reducible assumption)|assumption)
       have q152 : x7_1 < (l0_1.length : Int):=of_decide_eq_true (by first|(with_reducible assumption)|assumption)
       obtain ⟨ad152,e152,hx152_0,hx152_1,hx152_2,hx152_3⟩:=at_T36 HR0_1.out x7_1 p152 q152
       obtain rfl : ad151 = ad152 := (by injection e152)
       replace hx152_0:=(HB.out.cell (World.block_lt_of_cell? w _ hx152_0)).trans hx152_0
       replace hx152_1:=(HB.out.cell (World.block_lt_of_cell? w _ hx152_1)).trans hx152_1
       replace hx152_2:=(HB.out.cell (World.block_lt_of_cell? w _ hx152_2)).trans hx152_2
       replace hx152_3:=(HB.out.cell (World.block_lt_of_cell? w _ hx152_3)).trans hx152_3
       replace p152 := eq_true p152
       replace q152 := eq_true q152
       go_wp2
       go_ret
       exact ⟨by first|rfl|(simp [errW_none,errW_some] <;> rfl)|(simp [*,errW_none,errW_some] <;> rfl),by repeat (first|(with_reducible first|exact HB.out|apply below_alloc|apply pw_below_drewN|apply below_drew1|refine below_set ?_ GE150.out)|exact HB.out)⟩
      ·rw [if_neg c8] at H
       have c8b0 : (((rd_T36 l0_1 x7_1).f1).toList == a2.toList) = false:=beq_eq_false_iff_ne.mpr c8
       have c8b1 : (((rd_T36 l0_1 x7_1).f1).toList != a2.toList) = true:=bne_iff_ne.mpr c8
       have H' := Aside0.mk H
       clear H
       have hcz10_0 : wr.cell? ⟨gb150,0,none⟩ = some (.int .i64 a0_0):=(blk_cell BK150.out 0).trans rfl
       have hcz10_1 : wr.cell? ⟨gb150,1,none⟩ = some (.slice A0_1 l0_1.length c0_1):=(blk_cell BK150.out 1).trans rfl
       have hfz10_0 := blk_frozen BK150.out 0
       have hfz10_1 := blk_frozen BK150.out 1
       have p151 : 0 ≤ (x7_1 : Int):=of_decide_eq_true (by first|(with_reducible assumption)|assumption)
       have q151 : x7_1 < (l0_1.length : Int):=of_decide_eq_true (by first|(with_reducible assumption)|assumption)
       obtain ⟨ad151,e151,hx151_0,hx151_1,hx151_2,hx151_3⟩:=at_T36 HR0_1.out x7_1 p151 q151
       cases e151
       replace hx151_0:=(HB.out.cell (World.block_lt_of_cell? w _ hx151_0)).trans hx151_0
       replace hx151_1:=(HB.out.cell (World.block_lt_of_cell? w _ hx151_1)).trans hx151_1
       replace hx151_2:=(HB.out.cell (World.block_lt_of_cell? w _ hx151_2)).trans hx151_2
       replace hx151_3:=(HB.out.cell (World.block_lt_of_cell? w _ hx151_3)).trans hx151_3
       replace p151 := eq_true p151
       replace q151 := eq_true q151
       have p152 : 0 ≤ (x7_1 : Int):=of_decide_eq_true (by first|(with_reducible assumption)|assumption)
       have q152 : x7_1 < (l0_1.length : Int):=of_decide_eq_true (by first|(with_reducible assumption)|assumption)
       obtain ⟨ad152,e152,hx152_0,hx152_1,hx152_2,hx152_3⟩:=at_T36 HR0_1.out x7_1 p152 q152
       obtain rfl : ad151 = ad152 := (by injection e152)
       replace hx152_0:=(HB.out.cell (World.block_lt_of_cell? w _ hx152_0)).trans hx152_0
       replace hx152_1:=(HB.out.cell (World.block_lt_of_cell? w _ hx152_1)).trans hx152_1
       replace hx152_2:=(HB.out.cell (World.block_lt_of_cell? w _ hx152_2)).trans hx152_2
       replace hx152_3:=(HB.out.cell (World.block_lt_of_cell? w _ hx152_3)).trans hx152_3
       replace p152 := eq_true p152
       replace q152 := eq_true q152
       go_wp2
       go_roundg k1
       case measure => have := HK1.out; omega
       case rel => exact ⟨(wrap64 (x7_1 + 1)),(by first|rfl|(simp;done)|(simp [*];done)),H',⟨by have:=HK1.out;omega⟩,⟨by (with_reducible repeat (first|refine blk_drewN ?_ _|refine blk_drew ?_|refine blk_alloc ?_ _));exact BK150.out⟩,⟨by repeat (first|(with_reducible first|exact HB.out|apply below_alloc|apply pw_below_drewN|apply below_drew1|refine below_set ?_ GE150.out)|exact HB.out)⟩⟩
     ·rw [if_neg c7] at H
      have c7b0 : (((rd_T36 l0_1 x7_1).f0) == a1) = false:=beq_eq_false_iff_ne.mpr c7
      have c7b1 : (((rd_T36 l0_1 x7_1).f0) != a1) = true:=bne_iff_ne.mpr c7
      have H' := Aside0.mk H
      clear H
      have hcz11_0 : wr.cell? ⟨gb150,0,none⟩ = some (.int .i64 a0_0):=(blk_cell BK150.out 0).trans rfl
      have hcz11_1 : wr.cell? ⟨gb150,1,none⟩ = some (.slice A0_1 l0_1.length c0_1):=(blk_cell BK150.out 1).trans rfl
      have hfz11_0 := blk_frozen BK150.out 0
      have hfz11_1 := blk_frozen BK150.out 1
      have p151 : 0 ≤ (x7_1 : Int):=of_decide_eq_true (by first|(with_reducible assumption)|assumption)
      have q151 : x7_1 < (l0_1.length : Int):=of_decide_eq_true (by first|(with_reducible assumption)|assumption)
      obtain ⟨ad151,e151,hx151_0,hx151_1,hx151_2,hx151_3⟩:=at_T36 HR0_1.out x7_1 p151 q151
      cases e151
      replace hx151_0:=(HB.out.cell (World.block_lt_of_cell? w _ hx151_0)).trans hx151_0
      replace hx151_1:=(HB.out.cell (World.block_lt_of_cell? w _ hx151_1)).trans hx151_1
      replace hx151_2:=(HB.out.cell (World.block_lt_of_cell? w _ hx151_2)).trans hx151_2
      replace hx151_3:=(HB.out.cell (World.block_lt_of_cell? w _ hx151_3)).trans hx151_3
      replace p151 := eq_true p151
      replace q151 := eq_true q151
      go_wp2
      go_roundg k1
      case measure => have := HK1.out; omega
      case rel => exact ⟨(wrap64 (x7_1 + 1)),(by first|rfl|(simp;done)|(simp [*];done)),H',⟨by have:=HK1.out;omega⟩,⟨by (with_reducible repeat (first|refine blk_drewN ?_ _|refine blk_drew ?_|refine blk_alloc ?_ _));exact BK150.out⟩,⟨by repeat (first|(with_reducible first|exact HB.out|apply below_alloc|apply pw_below_drewN|apply below_drew1|refine below_set ?_ GE150.out)|exact HB.out)⟩⟩
    ·rw [if_neg c6] at H
     exact absurd H (by simp)
   ·rw [if_neg c5] at H
    have c5b0 : decide (x7_1 < (l0_1.length : Int)) = false:=decide_eq_false c5
    clear c5
    obtain rfl := Option.some.inj H
    have hcz12_0 : wr.cell? ⟨gb150,0,none⟩ = some (.int .i64 a0_0):=(blk_cell BK150.out 0).trans rfl
    have hcz12_1 : wr.cell? ⟨gb150,1,none⟩ = some (.slice A0_1 l0_1.length c0_1):=(blk_cell BK150.out 1).trans rfl
    have hfz12_0 := blk_frozen BK150.out 0
    have hfz12_1 := blk_frozen BK150.out 1
    go_wp2
    go_ret
    exact ⟨by first|rfl|(simp [errW_none,errW_some] <;> rfl)|(simp [*,errW_none,errW_some] <;> rfl),by repeat (first|(with_reducible first|exact HB.out|apply below_alloc|apply pw_below_drewN|apply below_drew1|refine below_set ?_ GE150.out)|exact HB.out)⟩

/-! ### spec_l9Copy: function 53 -/
def spec_l9Copy.f (a0_0 : Int) (l0_1 : List (S36)) : Option (Int × (List (S36))) := (some (([] : List (S36)) : List (S36))).bind fun y155 => (if y155.length + l0_1.length < 2932031007402 then (some (a0_0, (y155 ++ l0_1))) else (none))
set_option maxHeartbeats 8000000 in
set_option maxRecDepth 100000 in
theorem spec_l9Copy.calls (a0_0 : Int) (A0_1 : Option Addr) (c0_1 : Nat) (l0_1 : List (S36)) (r1 : Int) (r2 : List (S36)) (w : World) (hr0_1 : Kd.C k36 w A0_1 l0_1.length l0_1) (hc0_1 : l0_1.length ≤ c0_1) (h : spec_l9Copy.f a0_0 l0_1 = some (r1, r2)) :
  Calls Try.prog 53 #[.agg #[.int .i64 a0_0, .slice A0_1 l0_1.length c0_1]] w fun e w' => ∃ v1_ : Value, e = .returned (.agg #[.int .i64 r1, v1_]) ∧ Kd.R k36 36 w' w.heap.size (fun _ => True) v1_ r2 ∧ Below w.heap.size w w' := by
 have hu29 := Try.underlying29
 have HR0_1 := Aside0.mk hr0_1
 have HC0_1 := Aside0.mk hc0_1
 clear hr0_1 hc0_1
 have HB := Aside0.mk (Below.refl w.heap.size w)
 have H : ((some (([] : List (S36)) : List (S36))).bind fun y155 => (if y155.length + l0_1.length < 2932031007402 then (some (a0_0,(y155++l0_1))) else (none))) = some (r1,r2):=h
 clear h
 obtain ⟨y155,hy155⟩ : ∃ y_ : List (S36),y_ = (([] : List (S36))):=⟨_,rfl⟩
 replace H : (if y155.length + l0_1.length < 2932031007402 then (some (a0_0,(y155++l0_1))) else (none)) = some (r1,r2):=by first|(rw [hy155];with_reducible exact H)|(have H2_:=(Option.bind_some _ _).symm.trans H;rw [hy155];with_reducible exact H2_)|(have H2_:=(Option.bind_some _ _).symm.trans H;with_reducible exact H2_)|with_reducible exact H|(rw [hy155];exact H)|exact H
 have Ny155 := Aside0.mk hy155
 clear hy155
 by_cases c2 : y155.length + l0_1.length < 2932031007402
 ·rw [if_pos c2] at H
  have LMc2 := Aside0.mk c2
  clear c2
  obtain ⟨y158,hy158⟩ : ∃ y_ : List (S36),y_ = (y155++l0_1):=⟨_,rfl⟩
  replace H : (some (a0_0,y158)) = some (r1,r2):=by first|(rw [hy158];with_reducible exact H)|(have H2_:=(Option.bind_some _ _).symm.trans H;rw [hy158];with_reducible exact H2_)|(have H2_:=(Option.bind_some _ _).symm.trans H;with_reducible exact H2_)|with_reducible exact H|(rw [hy158];exact H)|exact H
  have Ny158 := Aside0.mk hy158
  clear hy158
  simp only [Option.some.injEq, Prod.mk.injEq] at H
  obtain ⟨rfl, rfl⟩ := H
  go_enter Try.func53, Try.ntmps53
  go_wp2_with (first|((with_reducible refine gate_dst (N:=1) rfl ?_);refine box_event ?hg (N:=1) ?hd (cs:=#[.int .i64 a0_0,.slice A0_1 l0_1.length c0_1]) (t:=29) ?hr ?_;(case hd => rfl);(case hg => rfl);(case hr => first|(go_simp;done)|(go_simp;rfl));intro gb153 hg w3 hbox hb;have n0_:=Aside0.mk (below_step (by repeat (first|(with_reducible first|exact HB.out|apply below_alloc|apply pw_below_drewN|apply below_drew1)|exact HB.out)) hb);have n1_:=Aside0.mk (hbox);have n2_:=Aside0.mk ((by rw [hg];exact (below_size (by repeat (first|(with_reducible first|exact HB.out|apply below_alloc|apply pw_below_drewN|apply below_drew1)|exact HB.out))) : w.heap.size ≤ gb153));have n3_:=Aside0.mk ((by rw [hg];exact (below_size (by repeat (first|(with_reducible first|exact HB.out|apply below_alloc|apply pw_below_drewN|apply below_drew1)|exact HB.out))) : w.heap.size ≤ gb153));clear HB;have HB:=n0_;have BK153:=n1_;have GW153:=n2_;have GE153:=n3_;clear n0_ n1_ n2_ n3_;clear hb hbox hg)|((with_reducible refine gate_dst (N:=2) rfl ?_);refine box_event ?hg (N:=2) ?hd (cs:=#[.int .i64 0,.slice none 0 0]) (t:=29) ?hr ?_;(case hd => rfl);(case hg => rfl);(case hr => first|(go_simp;done)|(go_simp;rfl));intro gb154 hg w4 hbox hb;have n0_:=Aside0.mk (blk_below (g:=gb153) (o:=.cells #[.int .i64 a0_0,.slice A0_1 l0_1.length c0_1] 29 (0,0)) (by (with_reducible repeat (first|refine blk_drewN ?_ _|refine blk_drew ?_|refine blk_alloc ?_ _));exact BK153.out) hb);have n1_:=Aside0.mk (below_step (by repeat (first|(with_reducible first|exact HB.out|apply below_alloc|apply pw_below_drewN|apply below_drew1|refine below_set ?_ GE153.out)|exact HB.out)) hb);have n2_:=Aside0.mk (hbox);have n3_:=Aside0.mk ((by rw [hg];exact (below_size (by repeat (first|(with_reducible first|exact HB.out|apply below_alloc|apply pw_below_drewN|apply below_drew1|refine below_set ?_ GE153.out)|exact HB.out))) : w.heap.size ≤ gb154));have n4_:=Aside0.mk ((by rw [hg];exact (below_size (by repeat (first|(with_reducible first|exact HB.out|apply below_alloc|apply pw_below_drewN|apply below_drew1|refine below_set ?_ GE153.out)|exact HB.out))) : w.heap.size ≤ gb154));have n5_:=Aside0.mk ((by rw [hg];exact Nat.ne_of_lt (blk_lt (g:=gb153) (o:=.cells #[.int .i64 a0_0,.slice A0_1 l0_1.length c0_1] 29 (0,0)) (by (with_reducible repeat (first|refine blk_drewN ?_ _|refine blk_drew ?_|refine blk_alloc ?_ _));exact BK153.out)) : gb153 ≠ gb154));have n6_:=Aside0.mk ((by rw [hg];exact Nat.ne_of_gt (blk_lt (g:=gb153) (o:=.cells #[.int .i64 a0_0,.slice A0_1 l0_1.length c0_1] 29 (0,0)) (by (with_reducible repeat (first|refine blk_drewN ?_ _|refine blk_drew ?_|refine blk_alloc ?_ _));exact BK153.out)) : gb154 ≠ gb153));clear BK153 HB;have BK153:=n0_;have HB:=n1_;have BK154:=n2_;have GW154:=n3_;have GE154:=n4_;have NB153_154:=n5_;have NB154_153:=n6_;clear n0_ n1_ n2_ n3_ n4_ n5_ n6_;clear hb hbox hg)|((with_reducible refine gate_dst (N:=3) rfl ?_);refine Kd.R_lit k36 _ 36 ?hg (N:=3) ?hd (xs:=([] : List (S36))) (inner:=[]) (ok:=fun _ => True) (okp:=fun _ => True) ?hr ?hp (fun _ hk => hk) trivial (Below.refl _ _) (Nat.le_refl _) (by simp) ?_;(case hd => rfl);(case hg => rfl);(case hr => first|(go_simp;done)|(go_simp;rfl));(case hp => exact (Reps.none _ _));intro v156 w5 ho6 hb hg_ hnew_;clear hg_ hnew_;(first|rw [← Ny155.out] at ho6|(simp only [Int.reduceToNat] at ho6;rw [← Ny155.out] at ho6));have n0_:=Aside0.mk (Kd.R_lower ho6 (below_size (by repeat (first|(with_reducible first|exact HB.out|apply below_alloc|apply pw_below_drewN|apply below_drew1|refine below_set ?_ GE153.out|refine below_set ?_ GE154.out)|exact HB.out))));have n1_:=Aside0.mk (blk_below (g:=gb153) (o:=.cells #[.int .i64 a0_0,.slice A0_1 l0_1.length c0_1] 29 (0,0)) (by (with_reducible repeat (first|refine blk_drewN ?_ _|refine blk_drew ?_|refine blk_alloc ?_ _));exact BK153.out) hb);have n2_:=Aside0.mk (blk_below (g:=gb154) (o:=.cells #[.int .i64 0,.slice none 0 0] 29 (0,0)) (by (with_reducible repeat (first|refine blk_drewN ?_ _|refine blk_drew ?_|refine blk_alloc ?_ _));exact BK154.out) hb);have n3_:=Aside0.mk (below_step (by repeat (first|(with_reducible first|exact HB.out|apply below_alloc|apply pw_below_drewN|apply below_drew1|refine below_set ?_ GE153.out|refine below_set ?_ GE154.out)|exact HB.out)) hb);clear BK153 BK154 HB;have HO157:=n0_;have BK153:=n1_;have BK154:=n2_;have HB:=n3_;clear n0_ n1_ n2_ n3_;clear hb ho6;have hnb7:=NB153_154.out;have hnc7:=NB154_153.out;have hcz8_0 : w5.cell? ⟨gb153,0,none⟩ = some (.int .i64 a0_0):=(blk_cell BK153.out 0).trans rfl;have hcz8_1 : w5.cell? ⟨gb153,1,none⟩ = some (.slice A0_1 l0_1.length c0_1):=(blk_cell BK153.out 1).trans rfl;have hfz8_0:=blk_frozen BK153.out 0;have hfz8_1:=blk_frozen BK153.out 1)|((with_reducible refine gate_builtin (b:=.append) (xs:=#[.tmp 3,.tmp 5]) rfl ?_);at_builtin;refine Kd.R_append_rows k36 (w0:=w) w.heap.size rfl (.tmp 3) (.tmp 5) 27 36 (.agg #[(.int .i64 0),(.string ⟨#[]⟩),(.int .i64 0),(.string ⟨#[]⟩)]) 48 rfl Try.underlying27 info36 rfl (by decide) (by omega) v156 y155 l0_1 _ _ _ (fun _ => True) (fun _ => False) rfl rfl ?aO ?aR (fun _ _ h => h) (fun _ h => h.elim) ?aF ?aB ?aS ?aL ?_;(case aR => repeat (first|exact (Kd.C_below HR0_1.out HB.out)|(with_reducible refine Kd.C_alloc ?_ _)|(with_reducible refine Kd.C_drewN ?_ _)|(with_reducible refine Kd.C_drew ?_)));(case aB => exact (by repeat (first|(with_reducible first|exact HB.out|apply below_alloc|apply pw_below_drewN|apply below_drew1|refine below_set ?_ GE153.out|refine below_set ?_ GE154.out)|exact HB.out)));(case aF => exact (fun _ _ => trivial));(case aO => exact (by (with_reducible repeat (first|apply Kd.R_alloc|apply Kd.R_drewN|apply Kd.R_drew));exact HO157.out));(case aS => exact (below_size (by repeat (first|(with_reducible first|exact HB.out|apply below_alloc|apply pw_below_drewN|apply below_drew1|refine below_set ?_ GE153.out|refine below_set ?_ GE154.out)|exact HB.out))));(case aL => have:=LMc2.out;omega);intro v159 w9 ho hb hg hat;rw [← Ny158.out] at ho;have n0_:=Aside0.mk (blk_grown (g:=gb153) (o:=.cells #[.int .i64 a0_0,.slice A0_1 l0_1.length c0_1] 29 (0,0)) (by (with_reducible repeat (first|refine blk_drewN ?_ _|refine blk_drew ?_|refine blk_alloc ?_ _));exact BK153.out) hg (Kd.R_ne HO157.out BK153.out (by decide)));have n1_:=Aside0.mk (blk_grown (g:=gb154) (o:=.cells #[.int .i64 0,.slice none 0 0] 29 (0,0)) (by (with_reducible repeat (first|refine blk_drewN ?_ _|refine blk_drew ?_|refine blk_alloc ?_ _));exact BK154.out) hg (Kd.R_ne HO157.out BK154.out (by decide)));have n2_:=Aside0.mk (hb);have n3_:=Aside0.mk (ho);clear BK153 BK154 HB HO157;have BK153:=n0_;have BK154:=n1_;have HB:=n2_;have HO160:=n3_;clear n0_ n1_ n2_ n3_;clear ho hb hg hat;obtain ⟨Ao10,co10,eo10⟩:=Kd.R_slice HO160.out;subst eo10;have hcz11_0 : w9.cell? ⟨gb153,0,none⟩ = some (.int .i64 a0_0):=(blk_cell BK153.out 0).trans rfl;have hcz11_1 : w9.cell? ⟨gb153,1,none⟩ = some (.slice A0_1 l0_1.length c0_1):=(blk_cell BK153.out 1).trans rfl;have hfz11_0:=blk_frozen BK153.out 0;have hfz11_1:=blk_frozen BK153.out 1;have hcz12_0 : w9.cell? ⟨gb154,0,none⟩ = some (.int .i64 0):=(blk_cell BK154.out 0).trans rfl;have hcz12_1 : w9.cell? ⟨gb154,1,none⟩ = some (.slice none 0 0):=(blk_cell BK154.out 1).trans rfl;have hfz12_0:=blk_frozen BK154.out 0;have hfz12_1:=blk_frozen BK154.out 1))
  refine bodyPost_ret (results_cell_row rfl _ _ gb154 29 #[.int .i64 a0_0,.slice Ao10 y158.length co10] (0,0) _ rfl (by (with_reducible repeat (first|refine blk_drewN ?_ _|refine blk_drew ?_|refine blk_alloc ?_ _));refine blk_put (cs:=#[.int .i64 a0_0,.slice none 0 0]) ?_ 1 _ rfl;(with_reducible repeat (first|refine blk_drewN ?_ _|refine blk_drew ?_|refine blk_alloc ?_ _));refine blk_put (cs:=#[.int .i64 0,.slice none 0 0]) ?_ 0 _ rfl;(with_reducible repeat (first|refine blk_drewN ?_ _|refine blk_drew ?_|refine blk_alloc ?_ _));refine blk_far ?_ NB154_153.out _;(with_reducible repeat (first|refine blk_drewN ?_ _|refine blk_drew ?_|refine blk_alloc ?_ _));exact BK154.out) Try.underlying29 rfl (by kernel_rfl)) rfl ?_
  exact ⟨_,by first|rfl|(simp [errW_none,errW_some] <;> rfl)|(simp [*,errW_none,errW_some] <;> rfl),by (with_reducible repeat (first|apply Kd.R_alloc|apply Kd.R_drewN|apply Kd.R_drew));exact Kd.R_mono (Kd.R_far (p:=⟨gb154,1,none⟩) (Kd.R_far (p:=⟨gb154,0,none⟩) (Kd.R_far (p:=⟨gb153,1,none⟩) (Kd.R_types (Kd.R_types HO160.out BK153.out (by decide)) BK154.out (by decide)) (fun _ hk => hk.1.2) (.slice Ao10 y158.length co10)) (fun _ hk => hk.2) (.int .i64 a0_0)) (fun _ hk => hk.2) (.slice Ao10 y158.length co10)) (fun _ hk => trivial),by repeat (first|(with_reducible first|exact HB.out|apply below_alloc|apply pw_below_drewN|apply below_drew1|refine below_set ?_ GE153.out|refine below_set ?_ GE154.out)|exact HB.out)⟩
 ·rw [if_neg c2] at H
  exact absurd H (by simp)

end Go.Proofs.Ytbpmfdpbgcpjeaa.PFnExactCatTake
