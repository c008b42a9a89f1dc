-- Written by a program of this session over the print's form. Lean checks it.
import Derived.Test.YtlfnjkcgefcidaaPFnExactPoolTakex0
namespace Go.Proofs.Ytlfnjkcgefcidaa.PFnExactPoolTake
open Go.RowKit Go.Proofs.YtlfnjkcgefcidaaW.PrintWords Go.Proofs.YtlfnjkcgefcidaaW.PrintLast Go.Proofs.YtlfnjkcgefcidaaW.PrintMore
attribute [local go_sem] max2_int min2_int max_two min_two max_three min_three max_four min_four   -- for this text's walks alone
set_option linter.unusedVariables false
set_option linter.unusedSimpArgs false

/-! ### spec_l10Of: function 43 -/
def spec_l10Of.l0 : Nat → Int → Int → Int → List (S41) → Int → Option (Int)
 | 0, _, _, _, _, _ => none
 | k + 1, x1, x5, x6, x207000, x207001 => if x6 < (x207000.length : Int) then (if 0 ≤ x6 then (if ((rd_T41 x207000 x6).f1) > 0 then (if ((rd_T41 x207000 x6).f0) = x1 then (spec_l10Of.l0 k x1 (wrap64 (x5 + 1)) (wrap64 (x6 + 1)) x207000 x207001) else (spec_l10Of.l0 k x1 x5 (wrap64 (x6 + 1)) x207000 x207001)) else (spec_l10Of.l0 k x1 x5 (wrap64 (x6 + 1)) x207000 x207001)) else (none)) else (some x5)
def spec_l10Of.f (k : Nat) (l0_0 : List (S41)) (a0_1 : Int) (a1 : Int) : Option (Int) := spec_l10Of.l0 k a1 0 0 l0_0 a0_1
theorem spec_l10Of.mono_l : ∀ k, (∀ y0 y1 y2 y3 y4, LeO (spec_l10Of.l0 k y0 y1 y2 y3 y4) (spec_l10Of.l0 (k + 1) y0 y1 y2 y3 y4))
 | 0 => fun _ _ _ _ _ r h => by simp [spec_l10Of.l0] at h
 | k + 1 => by
  have ih0 := spec_l10Of.mono_l k
  ·intro y0 y1 y2 y3 y4
   unfold spec_l10Of.l0
   repeat' first
   | (with_reducible exact ih0 _ _ _ _ _)
   | (with_reducible exact LeO.refl _)
   | (with_reducible exact LeO.none _)
   | (with_reducible refine LeO.ite ?_ ?_)
   | (with_reducible refine LeO.bind ?_ (fun _ => ?_))
   | exact ih0 _ _ _ _ _
   | exact LeO.none _
   | refine LeO.ite ?_ ?_
   | refine LeO.bind ?_ (fun _ => ?_)
theorem spec_l10Of.mono : ∀ a0 a1 a2 k, LeO (spec_l10Of.f k a0 a1 a2) (spec_l10Of.f (k + 1) a0 a1 a2) := by
 intro a0 a1 a2 k
 have ih0 := spec_l10Of.mono_l k
 unfold spec_l10Of.f
 repeat' first
   | (with_reducible exact ih0 _ _ _ _ _)
   | (with_reducible exact LeO.refl _)
   | (with_reducible exact LeO.none _)
   | (with_reducible refine LeO.ite ?_ ?_)
   | (with_reducible refine LeO.bind ?_ (fun _ => ?_))
   | exact ih0 _ _ _ _ _
   | exact LeO.none _
   | refine LeO.ite ?_ ?_
   | refine LeO.bind ?_ (fun _ => ?_)
set_option maxHeartbeats 8000000 in
set_option maxRecDepth 100000 in
theorem spec_l10Of.calls (k : Nat) (A0_0 : Option Addr) (c0_0 : Nat) (l0_0 : List (S41)) (a0_1 : Int) (a1 : Int) (r : Int) (w : World) (hr0_0 : Kd.C k41 w A0_0 l0_0.length l0_0) (hc0_0 : l0_0.length ≤ c0_0) (h : spec_l10Of.f k l0_0 a0_1 a1 = some r) :
  Calls Try.prog 43 #[.agg #[.slice A0_0 l0_0.length c0_0, .int .i64 a0_1], .int .i64 a1] w fun e w' => e = .returned (.int .i64 r) ∧ Below w.heap.size w w' := by
 have hu29 := Try.underlying29
 have HR0_0 := Aside0.mk hr0_0
 have HC0_0 := Aside0.mk hc0_0
 clear hr0_0 hc0_0
 have HB := Aside0.mk (Below.refl w.heap.size w)
 have H : (spec_l10Of.l0 k a1 0 0 l0_0 a0_1) = some r := h
 clear h
 have H' := Aside0.mk H
 clear H
 go_enter Try.func43, Try.ntmps43
 go_wp2_with (first|((with_reducible refine gate_dst (N:=2) rfl ?_);refine box_event ?hg (N:=2) ?hd (cs:=#[.slice A0_0 l0_0.length c0_0,.int .i64 a0_1]) (t:=29) ?hr ?_;(case hd => rfl);(case hg => rfl);(case hr => first|(go_simp;done)|(go_simp;rfl));intro gb206 hg w3 hbox hb;have n0_:=Aside0.mk (below_step (by repeat (first|(with_reducible first|exact HB.out|apply y_h|apply y_i|apply y_j)|exact HB.out)) hb);have n1_:=Aside0.mk (hbox);have n2_:=Aside0.mk ((by rw [hg];exact (below_size (by repeat (first|(with_reducible first|exact HB.out|apply y_h|apply y_i|apply y_j)|exact HB.out))) : w.heap.size ≤ gb206));have n3_:=Aside0.mk ((by rw [hg];exact (below_size (by repeat (first|(with_reducible first|exact HB.out|apply y_h|apply y_i|apply y_j)|exact HB.out))) : w.heap.size ≤ gb206));clear HB;have HB:=n0_;have BK206:=n1_;have GW206:=n2_;have GE206:=n3_;clear n0_ n1_ n2_ n3_;clear hb hbox hg))
 go_loopg [5,6] k (fun kq v5 v6 w' => ∃ (x5_1 : Int) (x6_1 : Int),v5 = .int .i64 x5_1 ∧ v6 = .int .i64 x6_1 ∧ Aside0 (spec_l10Of.l0 kq a1 x5_1 x6_1 l0_0 a0_1 = some r) ∧ Aside0 (kq ≤ k) ∧ Aside0 (w'.heap[gb206]? = some (.cells #[(.slice A0_0 l0_0.length c0_0),.int .i64 a0_1] 29 (0,0))) ∧ Aside0 (Below w.heap.size w w'))
 case atStart => exact ⟨(0),(0),(by first|rfl|(simp;done)|(simp [*];done)),(by first|rfl|(simp;done)|(simp [*];done)),H',⟨Nat.le_refl _⟩,⟨by (with_reducible repeat (first|refine y_b ?_ _|refine y_c ?_|refine y_d ?_ _));exact BK206.out⟩,⟨by repeat (first|(with_reducible first|exact HB.out|apply y_h|apply y_i|apply y_j|refine y_n ?_ GE206.out)|exact HB.out)⟩⟩
 case round =>
  clear H'
  try clear p2
  obtain ⟨x5_1, x6_1, rfl, rfl, HA, HK1, BK206, HB⟩ := hrel
  cases gk with
  | zero => exact absurd HA.out (by simp [spec_l10Of.l0])
  | succ k1 =>
   have H := HA.out
   clear HA
   simp only [spec_l10Of.l0] at H
   by_cases c4 : x6_1 < (l0_0.length : Int)
   ·rw [if_pos c4] at H
    have c4b0 : decide (x6_1 < (l0_0.length : Int)) = true:=decide_eq_true c4
    clear c4
    by_cases c5 : 0 ≤ x6_1
    ·rw [if_pos c5] at H
     have c5b0 : decide (0 ≤ x6_1) = true := decide_eq_true c5
     clear c5
     by_cases c6 : ((rd_T41 l0_0 x6_1).f1) > 0
     ·rw [if_pos c6] at H
      have c6b0 : decide (0 < ((rd_T41 l0_0 x6_1).f1)) = true:=decide_eq_true c6
      clear c6
      by_cases c7 : ((rd_T41 l0_0 x6_1).f0) = a1
      ·rw [if_pos c7] at H
       have c7b0 : (((rd_T41 l0_0 x6_1).f0) == a1) = true:=beq_iff_eq.mpr c7
       have c7b1 : (((rd_T41 l0_0 x6_1).f0) != a1) = false:=bne_eq_false_iff_eq.mpr c7
       clear c7
       have H' := Aside0.mk H
       clear H
       have hcz8_0 : wr.cell? ⟨gb206,0,none⟩ = some (.slice A0_0 l0_0.length c0_0):=(blk_cell BK206.out 0).trans rfl
       have hcz8_1 : wr.cell? ⟨gb206,1,none⟩ = some (.int .i64 a0_1):=(blk_cell BK206.out 1).trans rfl
       have hfz8_0 := blk_frozen BK206.out 0
       have hfz8_1 := blk_frozen BK206.out 1
       have p207 : 0 ≤ (x6_1 : Int):=of_decide_eq_true (by first|(with_reducible assumption)|assumption)
       have q207 : x6_1 < (l0_0.length : Int):=of_decide_eq_true (by first|(with_reducible assumption)|assumption)
       obtain ⟨ad207,e207,hx207_0,hx207_1,hx207_2,hx207_3,hx207_4⟩:=at_T41 HR0_0.out x6_1 p207 q207
       cases e207
       replace hx207_0:=(HB.out.cell (World.block_lt_of_cell? w _ hx207_0)).trans hx207_0
       replace hx207_1:=(HB.out.cell (World.block_lt_of_cell? w _ hx207_1)).trans hx207_1
       replace hx207_2:=(HB.out.cell (World.block_lt_of_cell? w _ hx207_2)).trans hx207_2
       replace hx207_3:=(HB.out.cell (World.block_lt_of_cell? w _ hx207_3)).trans hx207_3
       replace hx207_4:=(HB.out.cell (World.block_lt_of_cell? w _ hx207_4)).trans hx207_4
       replace p207 := eq_true p207
       replace q207 := eq_true q207
       have p208 : 0 ≤ (x6_1 : Int):=of_decide_eq_true (by first|(with_reducible assumption)|assumption)
       have q208 : x6_1 < (l0_0.length : Int):=of_decide_eq_true (by first|(with_reducible assumption)|assumption)
       obtain ⟨ad208,e208,hx208_0,hx208_1,hx208_2,hx208_3,hx208_4⟩:=at_T41 HR0_0.out x6_1 p208 q208
       obtain rfl : ad207 = ad208 := (by injection e208)
       replace hx208_0:=(HB.out.cell (World.block_lt_of_cell? w _ hx208_0)).trans hx208_0
       replace hx208_1:=(HB.out.cell (World.block_lt_of_cell? w _ hx208_1)).trans hx208_1
       replace hx208_2:=(HB.out.cell (World.block_lt_of_cell? w _ hx208_2)).trans hx208_2
       replace hx208_3:=(HB.out.cell (World.block_lt_of_cell? w _ hx208_3)).trans hx208_3
       replace hx208_4:=(HB.out.cell (World.block_lt_of_cell? w _ hx208_4)).trans hx208_4
       replace p208 := eq_true p208
       replace q208 := eq_true q208
       go_wp2
       go_roundg k1
       case measure => have := HK1.out; omega
       case rel => exact ⟨(wrap64 (x5_1 + 1)),(wrap64 (x6_1 + 1)),(by first|rfl|(simp;done)|(simp [*];done)),(by first|rfl|(simp;done)|(simp [*];done)),H',⟨by have:=HK1.out;omega⟩,⟨by (with_reducible repeat (first|refine y_b ?_ _|refine y_c ?_|refine y_d ?_ _));exact BK206.out⟩,⟨by repeat (first|(with_reducible first|exact HB.out|apply y_h|apply y_i|apply y_j|refine y_n ?_ GE206.out)|exact HB.out)⟩⟩
      ·rw [if_neg c7] at H
       have c7b0 : (((rd_T41 l0_0 x6_1).f0) == a1) = false:=beq_eq_false_iff_ne.mpr c7
       have c7b1 : (((rd_T41 l0_0 x6_1).f0) != a1) = true:=bne_iff_ne.mpr c7
       have H' := Aside0.mk H
       clear H
       have hcz9_0 : wr.cell? ⟨gb206,0,none⟩ = some (.slice A0_0 l0_0.length c0_0):=(blk_cell BK206.out 0).trans rfl
       have hcz9_1 : wr.cell? ⟨gb206,1,none⟩ = some (.int .i64 a0_1):=(blk_cell BK206.out 1).trans rfl
       have hfz9_0 := blk_frozen BK206.out 0
       have hfz9_1 := blk_frozen BK206.out 1
       have p207 : 0 ≤ (x6_1 : Int):=of_decide_eq_true (by first|(with_reducible assumption)|assumption)
       have q207 : x6_1 < (l0_0.length : Int):=of_decide_eq_true (by first|(with_reducible assumption)|assumption)
       obtain ⟨ad207,e207,hx207_0,hx207_1,hx207_2,hx207_3,hx207_4⟩:=at_T41 HR0_0.out x6_1 p207 q207
       cases e207
       replace hx207_0:=(HB.out.cell (World.block_lt_of_cell? w _ hx207_0)).trans hx207_0
       replace hx207_1:=(HB.out.cell (World.block_lt_of_cell? w _ hx207_1)).trans hx207_1
       replace hx207_2:=(HB.out.cell (World.block_lt_of_cell? w _ hx207_2)).trans hx207_2
       replace hx207_3:=(HB.out.cell (World.block_lt_of_cell? w _ hx207_3)).trans hx207_3
       replace hx207_4:=(HB.out.cell (World.block_lt_of_cell? w _ hx207_4)).trans hx207_4
       replace p207 := eq_true p207
       replace q207 := eq_true q207
       have p208 : 0 ≤ (x6_1 : Int):=of_decide_eq_true (by first|(with_reducible assumption)|assumption)
       have q208 : x6_1 < (l0_0.length : Int):=of_decide_eq_true (by first|(with_reducible assumption)|assumption)
       obtain ⟨ad208,e208,hx208_0,hx208_1,hx208_2,hx208_3,hx208_4⟩:=at_T41 HR0_0.out x6_1 p208 q208
       obtain rfl : ad207 = ad208 := (by injection e208)
       replace hx208_0:=(HB.out.cell (World.block_lt_of_cell? w _ hx208_0)).trans hx208_0
       replace hx208_1:=(HB.out.cell (World.block_lt_of_cell? w _ hx208_1)).trans hx208_1
       replace hx208_2:=(HB.out.cell (World.block_lt_of_cell? w _ hx208_2)).trans hx208_2
       replace hx208_3:=(HB.out.cell (World.block_lt_of_cell? w _ hx208_3)).trans hx208_3
       replace hx208_4:=(HB.out.cell (World.block_lt_of_cell? w _ hx208_4)).trans hx208_4
       replace p208 := eq_true p208
       replace q208 := eq_true q208
       go_wp2
       go_roundg k1
       case measure => have := HK1.out; omega
       case rel => exact ⟨(x5_1),(wrap64 (x6_1 + 1)),(by first|rfl|(simp;done)|(simp [*];done)),(by first|rfl|(simp;done)|(simp [*];done)),H',⟨by have:=HK1.out;omega⟩,⟨by (with_reducible repeat (first|refine y_b ?_ _|refine y_c ?_|refine y_d ?_ _));exact BK206.out⟩,⟨by repeat (first|(with_reducible first|exact HB.out|apply y_h|apply y_i|apply y_j|refine y_n ?_ GE206.out)|exact HB.out)⟩⟩
     ·rw [if_neg c6] at H
      have c6b0 : decide (0 < ((rd_T41 l0_0 x6_1).f1)) = false:=decide_eq_false c6
      clear c6
      have H' := Aside0.mk H
      clear H
      have hcz10_0 : wr.cell? ⟨gb206,0,none⟩ = some (.slice A0_0 l0_0.length c0_0):=(blk_cell BK206.out 0).trans rfl
      have hcz10_1 : wr.cell? ⟨gb206,1,none⟩ = some (.int .i64 a0_1):=(blk_cell BK206.out 1).trans rfl
      have hfz10_0 := blk_frozen BK206.out 0
      have hfz10_1 := blk_frozen BK206.out 1
      have p207 : 0 ≤ (x6_1 : Int):=of_decide_eq_true (by first|(with_reducible assumption)|assumption)
      have q207 : x6_1 < (l0_0.length : Int):=of_decide_eq_true (by first|(with_reducible assumption)|assumption)
      obtain ⟨ad207,e207,hx207_0,hx207_1,hx207_2,hx207_3,hx207_4⟩:=at_T41 HR0_0.out x6_1 p207 q207
      cases e207
      replace hx207_0:=(HB.out.cell (World.block_lt_of_cell? w _ hx207_0)).trans hx207_0
      replace hx207_1:=(HB.out.cell (World.block_lt_of_cell? w _ hx207_1)).trans hx207_1
      replace hx207_2:=(HB.out.cell (World.block_lt_of_cell? w _ hx207_2)).trans hx207_2
      replace hx207_3:=(HB.out.cell (World.block_lt_of_cell? w _ hx207_3)).trans hx207_3
      replace hx207_4:=(HB.out.cell (World.block_lt_of_cell? w _ hx207_4)).trans hx207_4
      replace p207 := eq_true p207
      replace q207 := eq_true q207
      go_wp2
      go_roundg k1
      case measure => have := HK1.out; omega
      case rel => exact ⟨(x5_1),(wrap64 (x6_1 + 1)),(by first|rfl|(simp;done)|(simp [*];done)),(by first|rfl|(simp;done)|(simp [*];done)),H',⟨by have:=HK1.out;omega⟩,⟨by (with_reducible repeat (first|refine y_b ?_ _|refine y_c ?_|refine y_d ?_ _));exact BK206.out⟩,⟨by repeat (first|(with_reducible first|exact HB.out|apply y_h|apply y_i|apply y_j|refine y_n ?_ GE206.out)|exact HB.out)⟩⟩
    ·rw [if_neg c5] at H
     exact absurd H (by simp)
   ·rw [if_neg c4] at H
    have c4b0 : decide (x6_1 < (l0_0.length : Int)) = false:=decide_eq_false c4
    clear c4
    obtain rfl := Option.some.inj H
    have hcz11_0 : wr.cell? ⟨gb206,0,none⟩ = some (.slice A0_0 l0_0.length c0_0):=(blk_cell BK206.out 0).trans rfl
    have hcz11_1 : wr.cell? ⟨gb206,1,none⟩ = some (.int .i64 a0_1):=(blk_cell BK206.out 1).trans rfl
    have hfz11_0 := blk_frozen BK206.out 0
    have hfz11_1 := blk_frozen BK206.out 1
    go_wp2
    go_ret
    exact ⟨by first|rfl|(simp [errW_none,errW_some] <;> rfl)|(simp [*,errW_none,errW_some] <;> rfl),by repeat (first|(with_reducible first|exact HB.out|apply y_h|apply y_i|apply y_j|refine y_n ?_ GE206.out)|exact HB.out)⟩

end Go.Proofs.Ytlfnjkcgefcidaa.PFnExactPoolTake
