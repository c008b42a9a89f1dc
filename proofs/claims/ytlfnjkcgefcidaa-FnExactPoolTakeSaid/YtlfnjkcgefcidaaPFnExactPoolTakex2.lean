-- Written by a program of this session over the print's form. Lean checks it.
import Derived.Test.YtlfnjkcgefcidaaPFnExactPoolTakex0
namespace Go.Proofs.Ytlfnjkcgefcidaa.PFnExactPoolTake
open Go.RowKit Go.Proofs.YtlfnjkcgefcidaaW.PrintWords Go.Proofs.YtlfnjkcgefcidaaW.PrintLast Go.Proofs.YtlfnjkcgefcidaaW.PrintMore
attribute [local go_sem] max2_int min2_int max_two min_two max_three min_three max_four min_four   -- for this text's walks alone
set_option linter.unusedVariables false
set_option linter.unusedSimpArgs false

/-! ### laws_szFrameS: function 40 -/
def laws_szFrameS.f (l0 : List (S86)) (a1 : Int) : Option (Int) := if (wrap64 (a1 - (l0.length : Int))) < 0 then (some (-1)) else (some (wrap64 (a1 - (l0.length : Int))))
set_option maxHeartbeats 8000000 in
set_option maxRecDepth 100000 in
theorem laws_szFrameS.calls (A0 : Option Addr) (c0 : Nat) (l0 : List (S86)) (a1 : Int) (r : Int) (w : World) (hr0 : Kd.C k86 w A0 l0.length l0) (hc0 : l0.length ≤ c0) (h : laws_szFrameS.f l0 a1 = some r) :
  Calls Try.prog 40 #[.slice A0 l0.length c0, .int .i64 a1] w fun e w' => e = .returned (.int .i64 r) ∧ Drawn0 w w' := by
 have HR0 := Aside0.mk hr0
 have HC0 := Aside0.mk hc0
 clear hr0 hc0
 have H : (if (wrap64 (a1 - (l0.length : Int))) < 0 then (some (-1)) else (some (wrap64 (a1 - (l0.length : Int))))) = some r:=h
 clear h
 by_cases c3 : (wrap64 (a1 - (l0.length : Int))) < 0
 ·rw [if_pos c3] at H
  have c3b0 : decide ((wrap64 (a1 - (l0.length : Int))) < 0) = true:=decide_eq_true c3
  clear c3
  obtain rfl := Option.some.inj H
  go_enter Try.func40, Try.ntmps40
  go_wp2
  go_ret
  exact ⟨by first|rfl|(simp;done)|(simp [*];done),by repeat (first|exact Drawn0.refl _|apply Drawn0.step)⟩
 ·rw [if_neg c3] at H
  have c3b0 : decide ((wrap64 (a1 - (l0.length : Int))) < 0) = false:=decide_eq_false c3
  clear c3
  obtain rfl := Option.some.inj H
  go_enter Try.func40, Try.ntmps40
  go_wp2
  go_ret
  exact ⟨by first|rfl|(simp;done)|(simp [*];done),by repeat (first|exact Drawn0.refl _|apply Drawn0.step)⟩

/-! ### laws_szPool: function 15 -/
def laws_szPool.f (l0_0 : List (S86)) (a0_1 : Int) (a1 : Int) : Option (Int) := (laws_szFrameS.f l0_0 a1).bind fun t102 => (if t102 < 0 then (some (-1)) else (some t102))
set_option maxHeartbeats 8000000 in
set_option maxRecDepth 100000 in
theorem laws_szPool.calls (A0_0 : Option Addr) (c0_0 : Nat) (l0_0 : List (S86)) (a0_1 : Int) (a1 : Int) (r : Int) (w : World) (hr0_0 : Kd.C k86 w A0_0 l0_0.length l0_0) (hc0_0 : l0_0.length ≤ c0_0) (h : laws_szPool.f l0_0 a0_1 a1 = some r) :
  Calls Try.prog 15 #[.agg #[.slice A0_0 l0_0.length c0_0, .int .i64 a0_1], .int .i64 a1] w fun e w' => e = .returned (.int .i64 r) ∧ Below w.heap.size w w' := by
 have hu24 := Try.underlying24
 have HR0_0 := Aside0.mk hr0_0
 have HC0_0 := Aside0.mk hc0_0
 clear hr0_0 hc0_0
 have HB := Aside0.mk (Below.refl w.heap.size w)
 have H : ((laws_szFrameS.f l0_0 a1).bind fun t102 => (if t102 < 0 then (some (-1)) else (some t102))) = some r:=h
 clear h
 replace H := Option.bind_eq_some_iff.mp H
 obtain ⟨t102, A30, H⟩ := H
 replace H : (if t102 < 0 then (some (-1)) else (some t102)) = some r:=H
 have A3 := Aside0.mk A30
 clear A30
 by_cases c4 : t102 < 0
 ·rw [if_pos c4] at H
  have c4b0 : decide (t102 < 0) = true := decide_eq_true c4
  clear c4
  obtain rfl := Option.some.inj H
  go_enter Try.func15, Try.ntmps15
  go_wp2_with (first|((with_reducible refine gate_dst (N:=2) rfl ?_);refine box_event ?hg (N:=2) ?hd (cs:=#[.slice A0_0 l0_0.length c0_0,.int .i64 a0_1]) (t:=24) ?hr ?_;(case hd => rfl);(case hg => rfl);(case hr => first|(go_simp;done)|(go_simp;rfl));intro gb101 hg w5 hbox hb;have n0_:=Aside0.mk (below_step (by repeat (first|(with_reducible first|exact HB.out|apply y_h|apply y_i|apply y_j)|exact HB.out)) hb);have n1_:=Aside0.mk (hbox);have n2_:=Aside0.mk ((by rw [hg];exact (below_size (by repeat (first|(with_reducible first|exact HB.out|apply y_h|apply y_i|apply y_j)|exact HB.out))) : w.heap.size ≤ gb101));have n3_:=Aside0.mk ((by rw [hg];exact (below_size (by repeat (first|(with_reducible first|exact HB.out|apply y_h|apply y_i|apply y_j)|exact HB.out))) : w.heap.size ≤ gb101));clear HB;have HB:=n0_;have BK101:=n1_;have GW101:=n2_;have GE101:=n3_;clear n0_ n1_ n2_ n3_;clear hb hbox hg;have hcz6_0 : w5.cell? ⟨gb101,0,none⟩ = some (.slice A0_0 l0_0.length c0_0):=(blk_cell BK101.out 0).trans rfl;have hcz6_1 : w5.cell? ⟨gb101,1,none⟩ = some (.int .i64 a0_1):=(blk_cell BK101.out 1).trans rfl;have hfz6_0:=blk_frozen BK101.out 0;have hfz6_1:=blk_frozen BK101.out 1)|((with_reducible refine gate_callee (f:=40) rfl ?_);refine goesL_ (some 8) rfl rfl Try.func40 (by kernel_rfl) rfl #[.slice A0_0 l0_0.length c0_0,.int .i64 a1] rfl (by (try simp only [List.map_toArray,List.map_cons,List.map_nil]);first|done|rfl|(simp only [List.length_drop,List.length_take];rfl)) ?_;(with_reducible refine (laws_szFrameS.calls _ _ l0_0 a1 t102 _ ?side1 ?side2 A3.out).mono ?_);(case side1 => repeat (first|exact (Kd.C_below HR0_0.out HB.out)|(with_reducible refine y_k ?_ _)|(with_reducible refine y_l ?_ _)|(with_reducible refine y_m ?_)));(case side2 => exact HC0_0.out);rintro e w' ⟨rfl,⟨nd,rfl⟩⟩;refine ⟨_,rfl,?_⟩))
  go_ret
  exact ⟨by first|rfl|(simp [errW_none,errW_some] <;> rfl)|(simp [*,errW_none,errW_some] <;> rfl),by repeat (first|(with_reducible first|exact HB.out|apply y_h|apply y_i|apply y_j|refine y_n ?_ GE101.out)|exact HB.out)⟩
 ·rw [if_neg c4] at H
  have c4b0 : decide (t102 < 0) = false := decide_eq_false c4
  clear c4
  obtain rfl := Option.some.inj H
  go_enter Try.func15, Try.ntmps15
  go_wp2_with (first|((with_reducible refine gate_dst (N:=2) rfl ?_);refine box_event ?hg (N:=2) ?hd (cs:=#[.slice A0_0 l0_0.length c0_0,.int .i64 a0_1]) (t:=24) ?hr ?_;(case hd => rfl);(case hg => rfl);(case hr => first|(go_simp;done)|(go_simp;rfl));intro gb101 hg w7 hbox hb;have n0_:=Aside0.mk (below_step (by repeat (first|(with_reducible first|exact HB.out|apply y_h|apply y_i|apply y_j)|exact HB.out)) hb);have n1_:=Aside0.mk (hbox);have n2_:=Aside0.mk ((by rw [hg];exact (below_size (by repeat (first|(with_reducible first|exact HB.out|apply y_h|apply y_i|apply y_j)|exact HB.out))) : w.heap.size ≤ gb101));have n3_:=Aside0.mk ((by rw [hg];exact (below_size (by repeat (first|(with_reducible first|exact HB.out|apply y_h|apply y_i|apply y_j)|exact HB.out))) : w.heap.size ≤ gb101));clear HB;have HB:=n0_;have BK101:=n1_;have GW101:=n2_;have GE101:=n3_;clear n0_ n1_ n2_ n3_;clear hb hbox hg;have hcz8_0 : w7.cell? ⟨gb101,0,none⟩ = some (.slice A0_0 l0_0.length c0_0):=(blk_cell BK101.out 0).trans rfl;have hcz8_1 : w7.cell? ⟨gb101,1,none⟩ = some (.int .i64 a0_1):=(blk_cell BK101.out 1).trans rfl;have hfz8_0:=blk_frozen BK101.out 0;have hfz8_1:=blk_frozen BK101.out 1)|((with_reducible refine gate_callee (f:=40) rfl ?_);refine goesL_ (some 8) rfl rfl Try.func40 (by kernel_rfl) rfl #[.slice A0_0 l0_0.length c0_0,.int .i64 a1] rfl (by (try simp only [List.map_toArray,List.map_cons,List.map_nil]);first|done|rfl|(simp only [List.length_drop,List.length_take];rfl)) ?_;(with_reducible refine (laws_szFrameS.calls _ _ l0_0 a1 t102 _ ?side1 ?side2 A3.out).mono ?_);(case side1 => repeat (first|exact (Kd.C_below HR0_0.out HB.out)|(with_reducible refine y_k ?_ _)|(with_reducible refine y_l ?_ _)|(with_reducible refine y_m ?_)));(case side2 => exact HC0_0.out);rintro e w' ⟨rfl,⟨nd,rfl⟩⟩;refine ⟨_,rfl,?_⟩))
  go_ret
  exact ⟨by first|rfl|(simp [errW_none,errW_some] <;> rfl)|(simp [*,errW_none,errW_some] <;> rfl),by repeat (first|(with_reducible first|exact HB.out|apply y_h|apply y_i|apply y_j|refine y_n ?_ GE101.out)|exact HB.out)⟩

/-! ### laws_toFrame: function 73 -/
def laws_toFrame.f (a0_0 : Int) (a0_1 : Int) (a0_2 : Int) (a0_3 : Int) (a0_4 : Bool) : Option (Int × Int × Int × Int × Bool) := some (a0_0, a0_1, a0_2, a0_3, a0_4)
set_option maxHeartbeats 8000000 in
set_option maxRecDepth 100000 in
theorem laws_toFrame.calls (a0_0 : Int) (a0_1 : Int) (a0_2 : Int) (a0_3 : Int) (a0_4 : Bool) (r1 : Int) (r2 : Int) (r3 : Int) (r4 : Int) (r5 : Bool) (w : World) (h : laws_toFrame.f a0_0 a0_1 a0_2 a0_3 a0_4 = some (r1, r2, r3, r4, r5)) :
  Calls Try.prog 73 #[.agg #[.int .i64 a0_0, .int .i64 a0_1, .int .i64 a0_2, .int .i64 a0_3, .bool a0_4]] w fun e w' => e = .returned (.agg #[.int .i64 r1, .int .i64 r2, .int .i64 r3, .int .i64 r4, .bool r5]) ∧ Below w.heap.size w w' := by
 have hu86 := Try.underlying86
 have hu41 := Try.underlying41
 have HB := Aside0.mk (Below.refl w.heap.size w)
 have H : (some (a0_0,a0_1,a0_2,a0_3,a0_4)) = some (r1,r2,r3,r4,r5):=h
 clear h
 simp only [Option.some.injEq, Prod.mk.injEq] at H
 obtain ⟨rfl, rfl, rfl, rfl, rfl⟩ := H
 go_enter Try.func73, Try.ntmps73
 go_wp2_with (first|((with_reducible refine gate_dst (N:=1) rfl ?_);refine box_event ?hg (N:=1) ?hd (cs:=#[.int .i64 a0_0,.int .i64 a0_1,.int .i64 a0_2,.int .i64 a0_3,.bool a0_4]) (t:=86) ?hr ?_;(case hd => rfl);(case hg => rfl);(case hr => first|(go_simp;done)|(go_simp;rfl));intro gb103 hg w2 hbox hb;have n0_:=Aside0.mk (below_step (by repeat (first|(with_reducible first|exact HB.out|apply y_h|apply y_i|apply y_j)|exact HB.out)) hb);have n1_:=Aside0.mk (hbox);have n2_:=Aside0.mk ((by rw [hg];exact (below_size (by repeat (first|(with_reducible first|exact HB.out|apply y_h|apply y_i|apply y_j)|exact HB.out))) : w.heap.size ≤ gb103));have n3_:=Aside0.mk ((by rw [hg];exact (below_size (by repeat (first|(with_reducible first|exact HB.out|apply y_h|apply y_i|apply y_j)|exact HB.out))) : w.heap.size ≤ gb103));clear HB;have HB:=n0_;have BK103:=n1_;have GW103:=n2_;have GE103:=n3_;clear n0_ n1_ n2_ n3_;clear hb hbox hg)|((with_reducible refine gate_dst (N:=2) rfl ?_);refine box_event ?hg (N:=2) ?hd (cs:=#[.int .i64 0,.int .i64 0,.int .i64 0,.int .i64 0,.bool false]) (t:=41) ?hr ?_;(case hd => rfl);(case hg => rfl);(case hr => first|(go_simp;done)|(go_simp;rfl));intro gb104 hg w3 hbox hb;have n0_:=Aside0.mk (blk_below (g:=gb103) (o:=.cells #[.int .i64 a0_0,.int .i64 a0_1,.int .i64 a0_2,.int .i64 a0_3,.bool a0_4] 86 (0,0)) (by (with_reducible repeat (first|refine y_b ?_ _|refine y_c ?_|refine y_d ?_ _));exact BK103.out) hb);have n1_:=Aside0.mk (below_step (by repeat (first|(with_reducible first|exact HB.out|apply y_h|apply y_i|apply y_j|refine y_n ?_ GE103.out)|exact HB.out)) hb);have n2_:=Aside0.mk (hbox);have n3_:=Aside0.mk ((by rw [hg];exact (below_size (by repeat (first|(with_reducible first|exact HB.out|apply y_h|apply y_i|apply y_j|refine y_n ?_ GE103.out)|exact HB.out))) : w.heap.size ≤ gb104));have n4_:=Aside0.mk ((by rw [hg];exact (below_size (by repeat (first|(with_reducible first|exact HB.out|apply y_h|apply y_i|apply y_j|refine y_n ?_ GE103.out)|exact HB.out))) : w.heap.size ≤ gb104));have n5_:=Aside0.mk ((by rw [hg];exact Nat.ne_of_lt (blk_lt (g:=gb103) (o:=.cells #[.int .i64 a0_0,.int .i64 a0_1,.int .i64 a0_2,.int .i64 a0_3,.bool a0_4] 86 (0,0)) (by (with_reducible repeat (first|refine y_b ?_ _|refine y_c ?_|refine y_d ?_ _));exact BK103.out)) : gb103 ≠ gb104));have n6_:=Aside0.mk ((by rw [hg];exact Nat.ne_of_gt (blk_lt (g:=gb103) (o:=.cells #[.int .i64 a0_0,.int .i64 a0_1,.int .i64 a0_2,.int .i64 a0_3,.bool a0_4] 86 (0,0)) (by (with_reducible repeat (first|refine y_b ?_ _|refine y_c ?_|refine y_d ?_ _));exact BK103.out)) : gb104 ≠ gb103));clear BK103 HB;have BK103:=n0_;have HB:=n1_;have BK104:=n2_;have GW104:=n3_;have GE104:=n4_;have NB103_104:=n5_;have NB104_103:=n6_;clear n0_ n1_ n2_ n3_ n4_ n5_ n6_;clear hb hbox hg)|((with_reducible refine gate_dst (N:=3) rfl ?_);refine box_event ?hg (N:=3) ?hd (cs:=#[.int .i64 0,.int .i64 0,.int .i64 0,.int .i64 0,.bool false]) (t:=41) ?hr ?_;(case hd => rfl);(case hg => rfl);(case hr => first|(go_simp;done)|(go_simp;rfl));intro gb105 hg w4 hbox hb;have n0_:=Aside0.mk (blk_below (g:=gb103) (o:=.cells #[.int .i64 a0_0,.int .i64 a0_1,.int .i64 a0_2,.int .i64 a0_3,.bool a0_4] 86 (0,0)) (by (with_reducible repeat (first|refine y_b ?_ _|refine y_c ?_|refine y_d ?_ _));exact BK103.out) hb);have n1_:=Aside0.mk (blk_below (g:=gb104) (o:=.cells #[.int .i64 0,.int .i64 0,.int .i64 0,.int .i64 0,.bool false] 41 (0,0)) (by (with_reducible repeat (first|refine y_b ?_ _|refine y_c ?_|refine y_d ?_ _));exact BK104.out) hb);have n2_:=Aside0.mk (below_step (by repeat (first|(with_reducible first|exact HB.out|apply y_h|apply y_i|apply y_j|refine y_n ?_ GE103.out|refine y_n ?_ GE104.out)|exact HB.out)) hb);have n3_:=Aside0.mk (hbox);have n4_:=Aside0.mk ((by rw [hg];exact (below_size (by repeat (first|(with_reducible first|exact HB.out|apply y_h|apply y_i|apply y_j|refine y_n ?_ GE103.out|refine y_n ?_ GE104.out)|exact HB.out))) : w.heap.size ≤ gb105));have n5_:=Aside0.mk ((by rw [hg];exact (below_size (by repeat (first|(with_reducible first|exact HB.out|apply y_h|apply y_i|apply y_j|refine y_n ?_ GE103.out|refine y_n ?_ GE104.out)|exact HB.out))) : w.heap.size ≤ gb105));have n6_:=Aside0.mk ((by rw [hg];exact Nat.ne_of_lt (blk_lt (g:=gb103) (o:=.cells #[.int .i64 a0_0,.int .i64 a0_1,.int .i64 a0_2,.int .i64 a0_3,.bool a0_4] 86 (0,0)) (by (with_reducible repeat (first|refine y_b ?_ _|refine y_c ?_|refine y_d ?_ _));exact BK103.out)) : gb103 ≠ gb105));have n7_:=Aside0.mk ((by rw [hg];exact Nat.ne_of_gt (blk_lt (g:=gb103) (o:=.cells #[.int .i64 a0_0,.int .i64 a0_1,.int .i64 a0_2,.int .i64 a0_3,.bool a0_4] 86 (0,0)) (by (with_reducible repeat (first|refine y_b ?_ _|refine y_c ?_|refine y_d ?_ _));exact BK103.out)) : gb105 ≠ gb103));have n8_:=Aside0.mk ((by rw [hg];exact Nat.ne_of_lt (blk_lt (g:=gb104) (o:=.cells #[.int .i64 0,.int .i64 0,.int .i64 0,.int .i64 0,.bool false] 41 (0,0)) (by (with_reducible repeat (first|refine y_b ?_ _|refine y_c ?_|refine y_d ?_ _));exact BK104.out)) : gb104 ≠ gb105));have n9_:=Aside0.mk ((by rw [hg];exact Nat.ne_of_gt (blk_lt (g:=gb104) (o:=.cells #[.int .i64 0,.int .i64 0,.int .i64 0,.int .i64 0,.bool false] 41 (0,0)) (by (with_reducible repeat (first|refine y_b ?_ _|refine y_c ?_|refine y_d ?_ _));exact BK104.out)) : gb105 ≠ gb104));clear BK103 BK104 HB;have BK103:=n0_;have BK104:=n1_;have HB:=n2_;have BK105:=n3_;have GW105:=n4_;have GE105:=n5_;have NB103_105:=n6_;have NB105_103:=n7_;have NB104_105:=n8_;have NB105_104:=n9_;clear n0_ n1_ n2_ n3_ n4_ n5_ n6_ n7_ n8_ n9_;clear hb hbox hg;have hnb5:=NB103_104.out;have hnc5:=NB104_103.out;have hnb6:=NB103_105.out;have hnc6:=NB105_103.out;have hcz7_0 : w4.cell? ⟨gb103,0,none⟩ = some (.int .i64 a0_0):=(blk_cell BK103.out 0).trans rfl;have hcz7_1 : w4.cell? ⟨gb103,1,none⟩ = some (.int .i64 a0_1):=(blk_cell BK103.out 1).trans rfl;have hcz7_2 : w4.cell? ⟨gb103,2,none⟩ = some (.int .i64 a0_2):=(blk_cell BK103.out 2).trans rfl;have hcz7_3 : w4.cell? ⟨gb103,3,none⟩ = some (.int .i64 a0_3):=(blk_cell BK103.out 3).trans rfl;have hcz7_4 : w4.cell? ⟨gb103,4,none⟩ = some (.bool a0_4):=(blk_cell BK103.out 4).trans rfl;have hfz7_0:=blk_frozen BK103.out 0;have hfz7_1:=blk_frozen BK103.out 1;have hfz7_2:=blk_frozen BK103.out 2;have hfz7_3:=blk_frozen BK103.out 3;have hfz7_4:=blk_frozen BK103.out 4;have hnb8:=NB105_104.out;have hnc8:=NB104_105.out;have hcz9_0 : w4.cell? ⟨gb105,0,none⟩ = some (.int .i64 0):=(blk_cell BK105.out 0).trans rfl;have hcz9_1 : w4.cell? ⟨gb105,1,none⟩ = some (.int .i64 0):=(blk_cell BK105.out 1).trans rfl;have hcz9_2 : w4.cell? ⟨gb105,2,none⟩ = some (.int .i64 0):=(blk_cell BK105.out 2).trans rfl;have hcz9_3 : w4.cell? ⟨gb105,3,none⟩ = some (.int .i64 0):=(blk_cell BK105.out 3).trans rfl;have hcz9_4 : w4.cell? ⟨gb105,4,none⟩ = some (.bool false):=(blk_cell BK105.out 4).trans rfl;have hfz9_0:=blk_frozen BK105.out 0;have hfz9_1:=blk_frozen BK105.out 1;have hfz9_2:=blk_frozen BK105.out 2;have hfz9_3:=blk_frozen BK105.out 3;have hfz9_4:=blk_frozen BK105.out 4;have hcz10_0 : w4.cell? ⟨gb104,0,none⟩ = some (.int .i64 0):=(blk_cell BK104.out 0).trans rfl;have hcz10_1 : w4.cell? ⟨gb104,1,none⟩ = some (.int .i64 0):=(blk_cell BK104.out 1).trans rfl;have hcz10_2 : w4.cell? ⟨gb104,2,none⟩ = some (.int .i64 0):=(blk_cell BK104.out 2).trans rfl;have hcz10_3 : w4.cell? ⟨gb104,3,none⟩ = some (.int .i64 0):=(blk_cell BK104.out 3).trans rfl;have hcz10_4 : w4.cell? ⟨gb104,4,none⟩ = some (.bool false):=(blk_cell BK104.out 4).trans rfl;have hfz10_0:=blk_frozen BK104.out 0;have hfz10_1:=blk_frozen BK104.out 1;have hfz10_2:=blk_frozen BK104.out 2;have hfz10_3:=blk_frozen BK104.out 3;have hfz10_4:=blk_frozen BK104.out 4))
 refine bodyPost_ret (results_cell_row rfl _ _ gb104 41 #[.int .i64 a0_0,.int .i64 a0_1,.int .i64 a0_2,.int .i64 a0_3,.bool a0_4] (0,0) _ rfl (by (with_reducible repeat (first|refine y_b ?_ _|refine y_c ?_|refine y_d ?_ _));refine blk_put (cs:=#[.int .i64 a0_0,.int .i64 a0_1,.int .i64 a0_2,.int .i64 a0_3,.bool false]) ?_ 4 _ rfl;(with_reducible repeat (first|refine y_b ?_ _|refine y_c ?_|refine y_d ?_ _));refine blk_put (cs:=#[.int .i64 a0_0,.int .i64 a0_1,.int .i64 a0_2,.int .i64 0,.bool false]) ?_ 3 _ rfl;(with_reducible repeat (first|refine y_b ?_ _|refine y_c ?_|refine y_d ?_ _));refine blk_put (cs:=#[.int .i64 a0_0,.int .i64 a0_1,.int .i64 0,.int .i64 0,.bool false]) ?_ 2 _ rfl;(with_reducible repeat (first|refine y_b ?_ _|refine y_c ?_|refine y_d ?_ _));refine blk_put (cs:=#[.int .i64 a0_0,.int .i64 0,.int .i64 0,.int .i64 0,.bool false]) ?_ 1 _ rfl;(with_reducible repeat (first|refine y_b ?_ _|refine y_c ?_|refine y_d ?_ _));refine blk_put (cs:=#[.int .i64 0,.int .i64 0,.int .i64 0,.int .i64 0,.bool false]) ?_ 0 _ rfl;(with_reducible repeat (first|refine y_b ?_ _|refine y_c ?_|refine y_d ?_ _));refine blk_far ?_ NB104_105.out _;(with_reducible repeat (first|refine y_b ?_ _|refine y_c ?_|refine y_d ?_ _));refine blk_far ?_ NB104_105.out _;(with_reducible repeat (first|refine y_b ?_ _|refine y_c ?_|refine y_d ?_ _));refine blk_far ?_ NB104_105.out _;(with_reducible repeat (first|refine y_b ?_ _|refine y_c ?_|refine y_d ?_ _));refine blk_far ?_ NB104_105.out _;(with_reducible repeat (first|refine y_b ?_ _|refine y_c ?_|refine y_d ?_ _));refine blk_far ?_ NB104_105.out _;(with_reducible repeat (first|refine y_b ?_ _|refine y_c ?_|refine y_d ?_ _));exact BK104.out) Try.underlying41 rfl (by kernel_rfl)) rfl ?_
 exact ⟨by first|rfl|(simp [errW_none,errW_some] <;> rfl)|(simp [*,errW_none,errW_some] <;> rfl),by repeat (first|(with_reducible first|exact HB.out|apply y_h|apply y_i|apply y_j|refine y_n ?_ GE103.out|refine y_n ?_ GE104.out|refine y_n ?_ GE105.out)|exact HB.out)⟩

/-! ### laws_toFrameS: function 44 -/
def laws_toFrameS.l0 : Nat → List (S86) → List (S41) → Int → Option ((List (S41)))
 | 0, _, _, _ => none
 | k + 1, x0, x3, x4 => if x4 < (x0.length : Int) then (if 0 ≤ x4 then ((laws_toFrame.f ((rd_T86 x0 x4).f0) ((rd_T86 x0 x4).f1) ((rd_T86 x0 x4).f2) ((rd_T86 x0 x4).f3) ((rd_T86 x0 x4).f4)).bind fun bt110 => (if x4 < (x3.length : Int) then (laws_toFrameS.l0 k x0 (x3.set (x4 : Int).toNat (⟨bt110.1, bt110.2.1, bt110.2.2.1, bt110.2.2.2.1, bt110.2.2.2.2⟩ : S41)) (wrap64 (x4 + 1))) else (none))) else (none)) else (some x3)
def laws_toFrameS.f (k : Nat) (l0 : List (S86)) : Option ((List (S41))) := if 0 ≤ (l0.length : Int) then (if ((l0.length : Int) : Int).toNat ≤ 7036874417766 then (laws_toFrameS.l0 k l0 (List.replicate ((l0.length : Int) : Int).toNat z41) 0) else (none)) else (none)
theorem laws_toFrameS.mono_l : ∀ k, (∀ y0 y1 y2, LeO (laws_toFrameS.l0 k y0 y1 y2) (laws_toFrameS.l0 (k + 1) y0 y1 y2))
 | 0 => fun _ _ _ r h => by simp [laws_toFrameS.l0] at h
 | k + 1 => by
  have ih0 := laws_toFrameS.mono_l k
  ·intro y0 y1 y2
   unfold laws_toFrameS.l0
   repeat' first
   | (with_reducible exact ih0 _ _ _)
   | (with_reducible exact LeO.refl _)
   | (with_reducible exact LeO.none _)
   | (with_reducible refine LeO.ite ?_ ?_)
   | (with_reducible refine LeO.bind ?_ (fun _ => ?_))
   | exact ih0 _ _ _
   | exact LeO.none _
   | refine LeO.ite ?_ ?_
   | refine LeO.bind ?_ (fun _ => ?_)
theorem laws_toFrameS.mono : ∀ a0 k, LeO (laws_toFrameS.f k a0) (laws_toFrameS.f (k + 1) a0) := by
 intro a0 k
 have ih0 := laws_toFrameS.mono_l k
 unfold laws_toFrameS.f
 repeat' first
   | (with_reducible exact ih0 _ _ _)
   | (with_reducible exact LeO.refl _)
   | (with_reducible exact LeO.none _)
   | (with_reducible refine LeO.ite ?_ ?_)
   | (with_reducible refine LeO.bind ?_ (fun _ => ?_))
   | exact ih0 _ _ _
   | exact LeO.none _
   | refine LeO.ite ?_ ?_
   | refine LeO.bind ?_ (fun _ => ?_)
set_option maxHeartbeats 8000000 in
set_option maxRecDepth 100000 in
theorem laws_toFrameS.calls (k : Nat) (A0 : Option Addr) (c0 : Nat) (l0 : List (S86)) (r : List (S41)) (w : World) (hr0 : Kd.C k86 w A0 l0.length l0) (hc0 : l0.length ≤ c0) (h : laws_toFrameS.f k l0 = some r) :
  Calls Try.prog 44 #[.slice A0 l0.length c0] w fun e w' => ∃ v0_ : Value, e = .returned (v0_) ∧ Kd.R k41 41 w' w.heap.size (fun _ => True) v0_ r ∧ Below w.heap.size w w' := by
 have hu86 := Try.underlying86
 have hu41 := Try.underlying41
 have HR0 := Aside0.mk hr0
 have HC0 := Aside0.mk hc0
 clear hr0 hc0
 have HB := Aside0.mk (Below.refl w.heap.size w)
 have H : (if 0 ≤ (l0.length : Int) then (if ((l0.length : Int) : Int).toNat ≤ 7036874417766 then (laws_toFrameS.l0 k l0 (List.replicate ((l0.length : Int) : Int).toNat z41) 0) else (none)) else (none)) = some r:=h
 clear h
 by_cases c2 : 0 ≤ (l0.length : Int)
 ·rw [if_pos c2] at H
  have c2b0 := eq_true c2
  have c2b1 : decide (0 ≤ (l0.length : Int)) = true:=decide_eq_true c2
  clear c2
  by_cases c3 : ((l0.length : Int) : Int).toNat ≤ 7036874417766
  ·rw [if_pos c3] at H
   have c3b0 := eq_true c3
   have c3b1 : decide (((l0.length : Int) : Int).toNat ≤ 7036874417766) = true:=decide_eq_true c3
   clear c3
   obtain ⟨y106,hy106⟩ : ∃ y_ : List (S41),y_ = (List.replicate ((l0.length : Int) : Int).toNat z41):=⟨_,rfl⟩
   replace H : (laws_toFrameS.l0 k l0 y106 0) = some r:=by first|(rw [hy106];with_reducible exact H)|(have H2_:=(Option.bind_some _ _).symm.trans H;rw [hy106];with_reducible exact H2_)|(have H2_:=(Option.bind_some _ _).symm.trans H;with_reducible exact H2_)|with_reducible exact H|(rw [hy106];exact H)|exact H
   have Ny106 := Aside0.mk hy106
   clear hy106
   have H' := Aside0.mk H
   clear H
   go_enter Try.func44, Try.ntmps44
   go_wp2_with (first|((with_reducible refine gate_dst (N:=7) rfl ?_);refine Kd.R_make k41 _ 41 rfl (N:=7) rfl 27 _ _ rfl (l0.length : Int) rfl rfl Try.underlying27 (.agg #[(.int .i64 0),(.int .i64 0),(.int .i64 0),(.int .i64 0),(.bool false)]) 40 info41 rfl (by decide) (by omega) z41 (ok:=fun _ => True) (okp:=fun _ => True) (k41_mkM _ _ _ z41 ) (fun _ hk => hk) trivial (of_decide_eq_true (by first|(with_reducible assumption)|assumption)) (Nat.le_trans (Nat.mul_le_mul_right _ (of_decide_eq_true (by first|(with_reducible assumption)|assumption) : (l0.length : Int).toNat ≤ 7036874417766)) (by omega)) (Below.refl _ _) (Nat.le_refl _) ?_;intro v107 w4 ho5 hb hg_ hnew_;clear hg_ hnew_;(first|rw [← Ny106.out] at ho5|(simp only [Int.reduceToNat] at ho5;rw [← Ny106.out] at ho5));have n0_:=Aside0.mk (Kd.R_lower ho5 (below_size (by repeat (first|(with_reducible first|exact HB.out|apply y_h|apply y_i|apply y_j)|exact HB.out))));have n1_:=Aside0.mk (below_step (by repeat (first|(with_reducible first|exact HB.out|apply y_h|apply y_i|apply y_j)|exact HB.out)) hb);clear HB;have HO108:=n0_;have HB:=n1_;clear n0_ n1_;clear hb ho5))
   go_loopg [4] k (fun kq v4 w' => ∃ (x3_1 : List (S41)) (x4_1 : Int),v4 = .int .i64 x4_1 ∧ Aside0 (laws_toFrameS.l0 kq l0 x3_1 x4_1 = some r) ∧ Aside0 (kq ≤ k) ∧ Aside0 (Kd.R k41 41 w' w.heap.size (fun _ => True) v107 x3_1) ∧ Aside0 (Below w.heap.size w w'))
   case atStart => exact ⟨(y106),(0),(by first|rfl|(simp;done)|(simp [*];done)),H',⟨Nat.le_refl _⟩,⟨by (with_reducible repeat (first|apply y_e|apply y_f|apply y_g));exact HO108.out⟩,⟨by repeat (first|(with_reducible first|exact HB.out|apply y_h|apply y_i|apply y_j)|exact HB.out)⟩⟩
   case round =>
    clear H'
    try clear c2
    try clear c2b0
    try clear c2b1
    try clear p2
    try clear c3
    try clear c3b0
    try clear c3b1
    try clear c4
    obtain ⟨x3_1, x4_1, rfl, HA, HK1, HO_3, HB⟩ := hrel
    cases gk with
    | zero => exact absurd HA.out (by simp [laws_toFrameS.l0])
    | succ k1 =>
     have H := HA.out
     clear HA
     simp only [laws_toFrameS.l0] at H
     by_cases c6 : x4_1 < (l0.length : Int)
     ·rw [if_pos c6] at H
      have c6b0 : decide (x4_1 < (l0.length : Int)) = true:=decide_eq_true c6
      clear c6
      by_cases c7 : 0 ≤ x4_1
      ·rw [if_pos c7] at H
       have c7b0 : decide (0 ≤ x4_1) = true := decide_eq_true c7
       clear c7
       replace H := Option.bind_eq_some_iff.mp H
       obtain ⟨⟨t110, t111, t112, t113, t114⟩, A80, H⟩ := H
       replace H : (if x4_1 < (x3_1.length : Int) then (laws_toFrameS.l0 k1 l0 (x3_1.set (x4_1 : Int).toNat (⟨t110,t111,t112,t113,t114⟩ : S41)) (wrap64 (x4_1 + 1))) else (none)) = some r:=H
       have A8 := Aside0.mk A80
       clear A80
       by_cases c9 : x4_1 < (x3_1.length : Int)
       ·rw [if_pos c9] at H
        have c9b0 : decide (x4_1 < (x3_1.length : Int)) = true:=decide_eq_true c9
        clear c9
        obtain ⟨y115,hy115⟩ : ∃ y_ : List (S41),y_ = (x3_1.set (x4_1 : Int).toNat (⟨t110,t111,t112,t113,t114⟩ : S41)):=⟨_,rfl⟩
        replace H : (laws_toFrameS.l0 k1 l0 y115 (wrap64 (x4_1 + 1))) = some r:=by first|(rw [hy115];with_reducible exact H)|(have H2_:=(Option.bind_some _ _).symm.trans H;rw [hy115];with_reducible exact H2_)|(have H2_:=(Option.bind_some _ _).symm.trans H;with_reducible exact H2_)|with_reducible exact H|(rw [hy115];exact H)|exact H
        have Ny115 := Aside0.mk hy115
        clear hy115
        have H' := Aside0.mk H
        clear H
        have p109 : 0 ≤ (x4_1 : Int):=of_decide_eq_true (by first|(with_reducible assumption)|assumption)
        have q109 : x4_1 < (l0.length : Int):=of_decide_eq_true (by first|(with_reducible assumption)|assumption)
        obtain ⟨ad109,e109,hx109_0,hx109_1,hx109_2,hx109_3,hx109_4⟩:=at_T86 HR0.out x4_1 p109 q109
        cases e109
        replace hx109_0:=(HB.out.cell (World.block_lt_of_cell? w _ hx109_0)).trans hx109_0
        replace hx109_1:=(HB.out.cell (World.block_lt_of_cell? w _ hx109_1)).trans hx109_1
        replace hx109_2:=(HB.out.cell (World.block_lt_of_cell? w _ hx109_2)).trans hx109_2
        replace hx109_3:=(HB.out.cell (World.block_lt_of_cell? w _ hx109_3)).trans hx109_3
        replace hx109_4:=(HB.out.cell (World.block_lt_of_cell? w _ hx109_4)).trans hx109_4
        replace p109 := eq_true p109
        replace q109 := eq_true q109
        go_wp2_with (first|((with_reducible refine gate_callee (f:=73) rfl ?_);refine goesL_ (some 20) rfl rfl Try.func73 (by kernel_rfl) rfl #[.agg #[.int .i64 ((rd_T86 l0 x4_1).f0),.int .i64 ((rd_T86 l0 x4_1).f1),.int .i64 ((rd_T86 l0 x4_1).f2),.int .i64 ((rd_T86 l0 x4_1).f3),.bool ((rd_T86 l0 x4_1).f4)]] rfl (by (try simp only [List.map_toArray,List.map_cons,List.map_nil]);first|done|rfl|(simp only [List.length_drop,List.length_take];rfl)) ?_;(with_reducible refine (laws_toFrame.calls ((rd_T86 l0 x4_1).f0) ((rd_T86 l0 x4_1).f1) ((rd_T86 l0 x4_1).f2) ((rd_T86 l0 x4_1).f3) ((rd_T86 l0 x4_1).f4) t110 t111 t112 t113 t114 _ A8.out).mono ?_);rintro e w11 ⟨rfl,hb⟩;refine ⟨_,rfl,?_⟩;have n0_:=Aside0.mk (Kd.R_below (by (with_reducible repeat (first|apply y_e|apply y_f|apply y_g));exact HO_3.out) hb);have n1_:=Aside0.mk (below_step (by repeat (first|(with_reducible first|exact HB.out|apply y_h|apply y_i|apply y_j)|exact HB.out)) hb);clear HO_3 HB;have HO_3:=n0_;have HB:=n1_;clear n0_ n1_;(try clear hb);(try clear hb2);(try clear hk);(try clear hi);have p10 : 0 ≤ (x4_1 : Int):=of_decide_eq_true (by first|(with_reducible assumption)|assumption);have q10 : (x4_1 : Int) < ((x3_1.length : Int) : Int):=of_decide_eq_true (by first|(with_reducible assumption)|assumption);obtain ⟨go10,co10,eo10,gb10,gl10,cl10,HG10⟩:=Kd.R_form HO_3.out (by omega);(first|cases eo10|(injection eo10 with ea_ en_ ec_;(first|subst ea_|(injection ea_ with ea_;subst ea_));subst ec_;clear en_));have GB10:=Aside0.mk gb10;have GG10:=Aside0.mk HG10;clear gb10 gl10 HG10;obtain ⟨ce10,hcl10,hM10,hcc10,hfr10⟩:=Kd.R_elem HO_3.out z41 (x4_1 : Int) p10 q10;obtain rfl:=k41_openM hM10;have hx10_0 : w11.cell? ⟨go10,(x4_1 : Int).toNat * 5,none⟩ = some (.int .i64 ((rd_T41 x3_1 x4_1).f0)):=hcc10 0 _ rfl;have hx10_1 : w11.cell? ⟨go10,(x4_1 : Int).toNat * 5 + 1,none⟩ = some (.int .i64 ((rd_T41 x3_1 x4_1).f1)):=hcc10 1 _ rfl;have hx10_2 : w11.cell? ⟨go10,(x4_1 : Int).toNat * 5 + 2,none⟩ = some (.int .i64 ((rd_T41 x3_1 x4_1).f2)):=hcc10 2 _ rfl;have hx10_3 : w11.cell? ⟨go10,(x4_1 : Int).toNat * 5 + 3,none⟩ = some (.int .i64 ((rd_T41 x3_1 x4_1).f3)):=hcc10 3 _ rfl;have hx10_4 : w11.cell? ⟨go10,(x4_1 : Int).toNat * 5 + 4,none⟩ = some (.bool ((rd_T41 x3_1 x4_1).f4)):=hcc10 4 _ rfl;have hf10_0 : w11.frozen? ⟨go10,(x4_1 : Int).toNat * 5,none⟩ = false:=hfr10 0;have hf10_1 : w11.frozen? ⟨go10,(x4_1 : Int).toNat * 5 + 1,none⟩ = false:=hfr10 1;have hf10_2 : w11.frozen? ⟨go10,(x4_1 : Int).toNat * 5 + 2,none⟩ = false:=hfr10 2;have hf10_3 : w11.frozen? ⟨go10,(x4_1 : Int).toNat * 5 + 3,none⟩ = false:=hfr10 3;have hf10_4 : w11.frozen? ⟨go10,(x4_1 : Int).toNat * 5 + 4,none⟩ = false:=hfr10 4;clear hcl10 hcc10 hfr10 hM10;replace p10:=eq_true p10;replace q10:=eq_true q10;have HX12:=Aside0.mk (show Kd.R k41 41 w11 w.heap.size (fun _ => True) (.slice (some ⟨go10,0,none⟩) x3_1.length co10) x3_1 from (by (with_reducible repeat (first|apply y_e|apply y_f|apply y_g));exact HO_3.out));obtain ⟨ce12,hcl12,hM12,hcc12,hfr12⟩:=Kd.R_elem HX12.out z41 (x4_1 : Int) (of_decide_eq_true (by first|(with_reducible assumption)|assumption)) (by have h_ : (x4_1 : Int) < ((x3_1.length : Int) : Int):=of_decide_eq_true (by first|(with_reducible assumption)|assumption);first|exact h_|(have e_:=(Kd.R_reads' HO_3.out).1;omega)|simpa using h_);obtain rfl:=k41_openM hM12;have HP12:=Kd.R_seg HX12.out (x4_1 : Int) (of_decide_eq_true (by first|(with_reducible assumption)|assumption)) (by have h_ : (x4_1 : Int) < ((x3_1.length : Int) : Int):=of_decide_eq_true (by first|(with_reducible assumption)|assumption);first|exact h_|(have e_:=(Kd.R_reads' HO_3.out).1;omega)|simpa using h_) (seg:=[.int .i64 t110,.int .i64 t111,.int .i64 t112,.int .i64 t113,.bool t114]) (j:=0) hcl12 hcc12 (show 5 ≤ 5 from by decide) (x':=(⟨t110,t111,t112,t113,t114⟩ : S41)) (k41_mkM _ _ _ (⟨t110,t111,t112,t113,t114⟩ : S41) ) (fun _ hk => hk);have hx12_0:=hcc12 0 _ rfl;(try simp only [show (k41).sz = 5 from rfl,Nat.mul_one,Nat.add_zero] at hx12_0);have hf12_0:=hfr12 0;(try simp only [show (k41).sz = 5 from rfl,Nat.mul_one,Nat.add_zero] at hf12_0);have hx12_1:=hcc12 1 _ rfl;(try simp only [show (k41).sz = 5 from rfl,Nat.mul_one,Nat.add_zero] at hx12_1);have hf12_1:=hfr12 1;(try simp only [show (k41).sz = 5 from rfl,Nat.mul_one,Nat.add_zero] at hf12_1);have hx12_2:=hcc12 2 _ rfl;(try simp only [show (k41).sz = 5 from rfl,Nat.mul_one,Nat.add_zero] at hx12_2);have hf12_2:=hfr12 2;(try simp only [show (k41).sz = 5 from rfl,Nat.mul_one,Nat.add_zero] at hf12_2);have hx12_3:=hcc12 3 _ rfl;(try simp only [show (k41).sz = 5 from rfl,Nat.mul_one,Nat.add_zero] at hx12_3);have hf12_3:=hfr12 3;(try simp only [show (k41).sz = 5 from rfl,Nat.mul_one,Nat.add_zero] at hf12_3);have hx12_4:=hcc12 4 _ rfl;(try simp only [show (k41).sz = 5 from rfl,Nat.mul_one,Nat.add_zero] at hx12_4);have hf12_4:=hfr12 4;(try simp only [show (k41).sz = 5 from rfl,Nat.mul_one,Nat.add_zero] at hf12_4);clear hcl12 hcc12 hfr12 hM12)|((with_reducible refine gate_store (t:=41) (p:=21) rfl ?_);refine store_event (t:=41) (p:=21) (v:=?vo_w13) (w1:=(((((w11.setCell ⟨go10,(x4_1 : Int).toNat * 5,none⟩ (.int .i64 t110)).setCell ⟨go10,(x4_1 : Int).toNat * 5 + 1,none⟩ (.int .i64 t111)).setCell ⟨go10,(x4_1 : Int).toNat * 5 + 2,none⟩ (.int .i64 t112)).setCell ⟨go10,(x4_1 : Int).toNat * 5 + 3,none⟩ (.int .i64 t113)).setCell ⟨go10,(x4_1 : Int).toNat * 5 + 4,none⟩ (.bool t114))) ?hg ?ho ?hn ?hr ?_;(case ho => rfl);(case hg => rfl);(case hn => rfl);(case hr => first|(go_simp;done)|(go_simp;rfl));intro w13 hw;have hg : w11.grownBy w13 (some go10):=(by rw [hw];exact HP12.2);have hp_ : Kd.R k41 41 w13 w.heap.size (fun _ => True) (.slice (some ⟨go10,0,none⟩) x3_1.length co10) y115:=(by rw [hw,Ny115.out];exact HP12.1);clear HP12;have n0_:=Aside0.mk (hp_);have n1_:=Aside0.mk ((by rw [hw];exact y_n (y_n (y_n (y_n (y_n (HB.out) GB10.out) GB10.out) GB10.out) GB10.out) GB10.out : Below w.heap.size w w13));clear HO_3 HB;have HO_3:=n0_;have HB:=n1_;clear n0_ n1_;clear hg hw hp_))
        go_roundg k1
        case measure => have := HK1.out; omega
        case rel => exact ⟨(y115),(wrap64 (x4_1 + 1)),(by first|rfl|(simp;done)|(simp [*];done)),H',⟨by have:=HK1.out;omega⟩,⟨by (with_reducible repeat (first|apply y_e|apply y_f|apply y_g));exact HO_3.out⟩,⟨by repeat (first|(with_reducible first|exact HB.out|apply y_h|apply y_i|apply y_j)|exact HB.out)⟩⟩
       ·rw [if_neg c9] at H
        exact absurd H (by simp)
      ·rw [if_neg c7] at H
       exact absurd H (by simp)
     ·rw [if_neg c6] at H
      have c6b0 : decide (x4_1 < (l0.length : Int)) = false:=decide_eq_false c6
      clear c6
      obtain rfl := Option.some.inj H
      go_wp2
      go_ret
      exact ⟨_,by first|rfl|(simp [errW_none,errW_some] <;> rfl)|(simp [*,errW_none,errW_some] <;> rfl),by (with_reducible repeat (first|apply y_e|apply y_f|apply y_g));exact HO_3.out,by repeat (first|(with_reducible first|exact HB.out|apply y_h|apply y_i|apply y_j)|exact HB.out)⟩
  ·rw [if_neg c3] at H
   exact absurd H (by simp)
 ·rw [if_neg c2] at H
  exact absurd H (by simp)

/-! ### laws_toPool: function 17 -/
def laws_toPool.f (k : Nat) (l0_0 : List (S86)) (a0_1 : Int) : Option ((List (S41)) × Int) := (laws_toFrameS.f k l0_0).bind fun t119 => (some (t119, a0_1))
theorem laws_toPool.mono : ∀ a0 a1 k, LeO (laws_toPool.f k a0 a1) (laws_toPool.f (k + 1) a0 a1) := by
 intro a0 a1 k
 unfold laws_toPool.f
 repeat' first
   | (with_reducible exact laws_toFrameS.mono _ _)
   | (with_reducible exact LeO.refl _)
   | (with_reducible exact LeO.none _)
   | (with_reducible refine LeO.ite ?_ ?_)
   | (with_reducible refine LeO.bind ?_ (fun _ => ?_))
   | exact laws_toFrameS.mono _ _
   | exact LeO.none _
   | refine LeO.ite ?_ ?_
   | refine LeO.bind ?_ (fun _ => ?_)
set_option maxHeartbeats 8000000 in
set_option maxRecDepth 100000 in
theorem laws_toPool.calls (k : Nat) (A0_0 : Option Addr) (c0_0 : Nat) (l0_0 : List (S86)) (a0_1 : Int) (r1 : List (S41)) (r2 : Int) (w : World) (hr0_0 : Kd.C k86 w A0_0 l0_0.length l0_0) (hc0_0 : l0_0.length ≤ c0_0) (h : laws_toPool.f k l0_0 a0_1 = some (r1, r2)) :
  Calls Try.prog 17 #[.agg #[.slice A0_0 l0_0.length c0_0, .int .i64 a0_1]] w fun e w' => ∃ v0_ : Value, e = .returned (.agg #[v0_, .int .i64 r2]) ∧ Kd.R k41 41 w' w.heap.size (fun _ => True) v0_ r1 ∧ Below w.heap.size w w' := by
 have hu24 := Try.underlying24
 have hu29 := Try.underlying29
 have HR0_0 := Aside0.mk hr0_0
 have HC0_0 := Aside0.mk hc0_0
 clear hr0_0 hc0_0
 have HB := Aside0.mk (Below.refl w.heap.size w)
 have H : ((laws_toFrameS.f k l0_0).bind fun t119 => (some (t119,a0_1))) = some (r1,r2):=h
 clear h
 replace H := Option.bind_eq_some_iff.mp H
 obtain ⟨t119, A20, H⟩ := H
 replace H : (some (t119, a0_1)) = some (r1, r2) := H
 have A2 := Aside0.mk A20
 clear A20
 simp only [Option.some.injEq, Prod.mk.injEq] at H
 obtain ⟨rfl, rfl⟩ := H
 go_enter Try.func17, Try.ntmps17
 go_wp2_with (first|((with_reducible refine gate_dst (N:=1) rfl ?_);refine box_event ?hg (N:=1) ?hd (cs:=#[.slice A0_0 l0_0.length c0_0,.int .i64 a0_1]) (t:=24) ?hr ?_;(case hd => rfl);(case hg => rfl);(case hr => first|(go_simp;done)|(go_simp;rfl));intro gb116 hg w3 hbox hb;have n0_:=Aside0.mk (below_step (by repeat (first|(with_reducible first|exact HB.out|apply y_h|apply y_i|apply y_j)|exact HB.out)) hb);have n1_:=Aside0.mk (hbox);have n2_:=Aside0.mk ((by rw [hg];exact (below_size (by repeat (first|(with_reducible first|exact HB.out|apply y_h|apply y_i|apply y_j)|exact HB.out))) : w.heap.size ≤ gb116));have n3_:=Aside0.mk ((by rw [hg];exact (below_size (by repeat (first|(with_reducible first|exact HB.out|apply y_h|apply y_i|apply y_j)|exact HB.out))) : w.heap.size ≤ gb116));clear HB;have HB:=n0_;have BK116:=n1_;have GW116:=n2_;have GE116:=n3_;clear n0_ n1_ n2_ n3_;clear hb hbox hg)|((with_reducible refine gate_dst (N:=2) rfl ?_);refine box_event ?hg (N:=2) ?hd (cs:=#[.slice none 0 0,.int .i64 0]) (t:=29) ?hr ?_;(case hd => rfl);(case hg => rfl);(case hr => first|(go_simp;done)|(go_simp;rfl));intro gb117 hg w4 hbox hb;have n0_:=Aside0.mk (blk_below (g:=gb116) (o:=.cells #[.slice A0_0 l0_0.length c0_0,.int .i64 a0_1] 24 (0,0)) (by (with_reducible repeat (first|refine y_b ?_ _|refine y_c ?_|refine y_d ?_ _));exact BK116.out) hb);have n1_:=Aside0.mk (below_step (by repeat (first|(with_reducible first|exact HB.out|apply y_h|apply y_i|apply y_j|refine y_n ?_ GE116.out)|exact HB.out)) hb);have n2_:=Aside0.mk (hbox);have n3_:=Aside0.mk ((by rw [hg];exact (below_size (by repeat (first|(with_reducible first|exact HB.out|apply y_h|apply y_i|apply y_j|refine y_n ?_ GE116.out)|exact HB.out))) : w.heap.size ≤ gb117));have n4_:=Aside0.mk ((by rw [hg];exact (below_size (by repeat (first|(with_reducible first|exact HB.out|apply y_h|apply y_i|apply y_j|refine y_n ?_ GE116.out)|exact HB.out))) : w.heap.size ≤ gb117));have n5_:=Aside0.mk ((by rw [hg];exact Nat.ne_of_lt (blk_lt (g:=gb116) (o:=.cells #[.slice A0_0 l0_0.length c0_0,.int .i64 a0_1] 24 (0,0)) (by (with_reducible repeat (first|refine y_b ?_ _|refine y_c ?_|refine y_d ?_ _));exact BK116.out)) : gb116 ≠ gb117));have n6_:=Aside0.mk ((by rw [hg];exact Nat.ne_of_gt (blk_lt (g:=gb116) (o:=.cells #[.slice A0_0 l0_0.length c0_0,.int .i64 a0_1] 24 (0,0)) (by (with_reducible repeat (first|refine y_b ?_ _|refine y_c ?_|refine y_d ?_ _));exact BK116.out)) : gb117 ≠ gb116));clear BK116 HB;have BK116:=n0_;have HB:=n1_;have BK117:=n2_;have GW117:=n3_;have GE117:=n4_;have NB116_117:=n5_;have NB117_116:=n6_;clear n0_ n1_ n2_ n3_ n4_ n5_ n6_;clear hb hbox hg)|((with_reducible refine gate_dst (N:=3) rfl ?_);refine box_event ?hg (N:=3) ?hd (cs:=#[.slice none 0 0,.int .i64 0]) (t:=29) ?hr ?_;(case hd => rfl);(case hg => rfl);(case hr => first|(go_simp;done)|(go_simp;rfl));intro gb118 hg w5 hbox hb;have n0_:=Aside0.mk (blk_below (g:=gb116) (o:=.cells #[.slice A0_0 l0_0.length c0_0,.int .i64 a0_1] 24 (0,0)) (by (with_reducible repeat (first|refine y_b ?_ _|refine y_c ?_|refine y_d ?_ _));exact BK116.out) hb);have n1_:=Aside0.mk (blk_below (g:=gb117) (o:=.cells #[.slice none 0 0,.int .i64 0] 29 (0,0)) (by (with_reducible repeat (first|refine y_b ?_ _|refine y_c ?_|refine y_d ?_ _));exact BK117.out) hb);have n2_:=Aside0.mk (below_step (by repeat (first|(with_reducible first|exact HB.out|apply y_h|apply y_i|apply y_j|refine y_n ?_ GE116.out|refine y_n ?_ GE117.out)|exact HB.out)) hb);have n3_:=Aside0.mk (hbox);have n4_:=Aside0.mk ((by rw [hg];exact (below_size (by repeat (first|(with_reducible first|exact HB.out|apply y_h|apply y_i|apply y_j|refine y_n ?_ GE116.out|refine y_n ?_ GE117.out)|exact HB.out))) : w.heap.size ≤ gb118));have n5_:=Aside0.mk ((by rw [hg];exact (below_size (by repeat (first|(with_reducible first|exact HB.out|apply y_h|apply y_i|apply y_j|refine y_n ?_ GE116.out|refine y_n ?_ GE117.out)|exact HB.out))) : w.heap.size ≤ gb118));have n6_:=Aside0.mk ((by rw [hg];exact Nat.ne_of_lt (blk_lt (g:=gb116) (o:=.cells #[.slice A0_0 l0_0.length c0_0,.int .i64 a0_1] 24 (0,0)) (by (with_reducible repeat (first|refine y_b ?_ _|refine y_c ?_|refine y_d ?_ _));exact BK116.out)) : gb116 ≠ gb118));have n7_:=Aside0.mk ((by rw [hg];exact Nat.ne_of_gt (blk_lt (g:=gb116) (o:=.cells #[.slice A0_0 l0_0.length c0_0,.int .i64 a0_1] 24 (0,0)) (by (with_reducible repeat (first|refine y_b ?_ _|refine y_c ?_|refine y_d ?_ _));exact BK116.out)) : gb118 ≠ gb116));have n8_:=Aside0.mk ((by rw [hg];exact Nat.ne_of_lt (blk_lt (g:=gb117) (o:=.cells #[.slice none 0 0,.int .i64 0] 29 (0,0)) (by (with_reducible repeat (first|refine y_b ?_ _|refine y_c ?_|refine y_d ?_ _));exact BK117.out)) : gb117 ≠ gb118));have n9_:=Aside0.mk ((by rw [hg];exact Nat.ne_of_gt (blk_lt (g:=gb117) (o:=.cells #[.slice none 0 0,.int .i64 0] 29 (0,0)) (by (with_reducible repeat (first|refine y_b ?_ _|refine y_c ?_|refine y_d ?_ _));exact BK117.out)) : gb118 ≠ gb117));clear BK116 BK117 HB;have BK116:=n0_;have BK117:=n1_;have HB:=n2_;have BK118:=n3_;have GW118:=n4_;have GE118:=n5_;have NB116_118:=n6_;have NB118_116:=n7_;have NB117_118:=n8_;have NB118_117:=n9_;clear n0_ n1_ n2_ n3_ n4_ n5_ n6_ n7_ n8_ n9_;clear hb hbox hg;have hnb6:=NB116_117.out;have hnc6:=NB117_116.out;have hnb7:=NB116_118.out;have hnc7:=NB118_116.out;have hcz8_0 : w5.cell? ⟨gb116,0,none⟩ = some (.slice A0_0 l0_0.length c0_0):=(blk_cell BK116.out 0).trans rfl;have hcz8_1 : w5.cell? ⟨gb116,1,none⟩ = some (.int .i64 a0_1):=(blk_cell BK116.out 1).trans rfl;have hfz8_0:=blk_frozen BK116.out 0;have hfz8_1:=blk_frozen BK116.out 1)|((with_reducible refine gate_callee (f:=44) rfl ?_);refine goesL_ (some 6) rfl rfl Try.func44 (by kernel_rfl) rfl #[.slice A0_0 l0_0.length c0_0] rfl (by (try simp only [List.map_toArray,List.map_cons,List.map_nil]);first|done|rfl|(simp only [List.length_drop,List.length_take];rfl)) ?_;(with_reducible refine (laws_toFrameS.calls k _ _ l0_0 t119 _ ?side1 ?side2 A2.out).mono ?_);(case side1 => repeat (first|exact (Kd.C_below HR0_0.out HB.out)|(with_reducible refine y_k ?_ _)|(with_reducible refine y_l ?_ _)|(with_reducible refine y_m ?_)));(case side2 => exact HC0_0.out);rintro e w9 ⟨v120,rfl,ho0,hb⟩;refine ⟨_,rfl,?_⟩;have n0_:=Aside0.mk (Kd.R_lower ho0 (below_size (by repeat (first|(with_reducible first|exact HB.out|apply y_h|apply y_i|apply y_j|refine y_n ?_ GE116.out|refine y_n ?_ GE117.out|refine y_n ?_ GE118.out)|exact HB.out))));have n1_:=Aside0.mk (blk_below (g:=gb116) (o:=.cells #[.slice A0_0 l0_0.length c0_0,.int .i64 a0_1] 24 (0,0)) (by (with_reducible repeat (first|refine y_b ?_ _|refine y_c ?_|refine y_d ?_ _));exact BK116.out) hb);have n2_:=Aside0.mk (blk_below (g:=gb117) (o:=.cells #[.slice none 0 0,.int .i64 0] 29 (0,0)) (by (with_reducible repeat (first|refine y_b ?_ _|refine y_c ?_|refine y_d ?_ _));exact BK117.out) hb);have n3_:=Aside0.mk (blk_below (g:=gb118) (o:=.cells #[.slice none 0 0,.int .i64 0] 29 (0,0)) (by (with_reducible repeat (first|refine y_b ?_ _|refine y_c ?_|refine y_d ?_ _));exact BK118.out) hb);have n4_:=Aside0.mk (below_step (by repeat (first|(with_reducible first|exact HB.out|apply y_h|apply y_i|apply y_j|refine y_n ?_ GE116.out|refine y_n ?_ GE117.out|refine y_n ?_ GE118.out)|exact HB.out)) hb);clear BK116 BK117 BK118 HB;have HO121:=n0_;have BK116:=n1_;have BK117:=n2_;have BK118:=n3_;have HB:=n4_;clear n0_ n1_ n2_ n3_ n4_;(try clear hb);(try clear hb2);(try clear hk);(try clear hi);(try clear ho0);obtain ⟨Ao10,co10,eo10⟩:=Kd.R_slice HO121.out;subst eo10;have hnb11:=NB118_117.out;have hnc11:=NB117_118.out;have hcz12_0 : w9.cell? ⟨gb118,0,none⟩ = some (.slice none 0 0):=(blk_cell BK118.out 0).trans rfl;have hcz12_1 : w9.cell? ⟨gb118,1,none⟩ = some (.int .i64 0):=(blk_cell BK118.out 1).trans rfl;have hfz12_0:=blk_frozen BK118.out 0;have hfz12_1:=blk_frozen BK118.out 1;have hcz13_0 : w9.cell? ⟨gb116,0,none⟩ = some (.slice A0_0 l0_0.length c0_0):=(blk_cell BK116.out 0).trans rfl;have hcz13_1 : w9.cell? ⟨gb116,1,none⟩ = some (.int .i64 a0_1):=(blk_cell BK116.out 1).trans rfl;have hfz13_0:=blk_frozen BK116.out 0;have hfz13_1:=blk_frozen BK116.out 1;have hcz14_0 : w9.cell? ⟨gb117,0,none⟩ = some (.slice none 0 0):=(blk_cell BK117.out 0).trans rfl;have hcz14_1 : w9.cell? ⟨gb117,1,none⟩ = some (.int .i64 0):=(blk_cell BK117.out 1).trans rfl;have hfz14_0:=blk_frozen BK117.out 0;have hfz14_1:=blk_frozen BK117.out 1))
 refine bodyPost_ret (results_cell_row rfl _ _ gb117 29 #[.slice Ao10 t119.length co10,.int .i64 a0_1] (0,0) _ rfl (by (with_reducible repeat (first|refine y_b ?_ _|refine y_c ?_|refine y_d ?_ _));refine blk_put (cs:=#[.slice Ao10 t119.length co10,.int .i64 0]) ?_ 1 _ rfl;(with_reducible repeat (first|refine y_b ?_ _|refine y_c ?_|refine y_d ?_ _));refine blk_put (cs:=#[.slice none 0 0,.int .i64 0]) ?_ 0 _ rfl;(with_reducible repeat (first|refine y_b ?_ _|refine y_c ?_|refine y_d ?_ _));refine blk_far ?_ NB117_118.out _;(with_reducible repeat (first|refine y_b ?_ _|refine y_c ?_|refine y_d ?_ _));refine blk_far ?_ NB117_118.out _;(with_reducible repeat (first|refine y_b ?_ _|refine y_c ?_|refine y_d ?_ _));exact BK117.out) Try.underlying29 rfl (by kernel_rfl)) rfl ?_
 exact ⟨_,by first|rfl|(simp [errW_none,errW_some] <;> rfl)|(simp [*,errW_none,errW_some] <;> rfl),by (with_reducible repeat (first|apply y_e|apply y_f|apply y_g));exact y_o (Kd.R_far (p:=⟨gb117,1,none⟩) (Kd.R_far (p:=⟨gb117,0,none⟩) (Kd.R_far (p:=⟨gb118,1,none⟩) (Kd.R_far (p:=⟨gb118,0,none⟩) (Kd.R_types (Kd.R_types HO121.out BK118.out (by decide)) BK117.out (by decide)) (fun _ hk => hk.1.2) (.slice Ao10 t119.length co10)) (fun _ hk => hk.1.2) (.int .i64 a0_1)) (fun _ hk => hk.2) (.slice Ao10 t119.length co10)) (fun _ hk => hk.2) (.int .i64 a0_1)) (fun _ hk => trivial),by repeat (first|(with_reducible first|exact HB.out|apply y_h|apply y_i|apply y_j|refine y_n ?_ GE116.out|refine y_n ?_ GE117.out|refine y_n ?_ GE118.out)|exact HB.out)⟩

end Go.Proofs.Ytlfnjkcgefcidaa.PFnExactPoolTake
