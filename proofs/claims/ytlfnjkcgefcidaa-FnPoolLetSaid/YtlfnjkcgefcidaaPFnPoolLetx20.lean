-- Written by a program of this session over the print's form. Lean checks it.
import Derived.Test.YtlfnjkcgefcidaaPFnPoolLetx0
import Derived.Test.YtlfnjkcgefcidaaPFnPoolLetx4
import Derived.Test.YtlfnjkcgefcidaaPFnPoolLetx7
import Derived.Test.YtlfnjkcgefcidaaPFnPoolLetx10
import Derived.Test.YtlfnjkcgefcidaaPFnPoolLetx17
import Derived.Test.YtlfnjkcgefcidaaPFnPoolLetx18
import Derived.Test.YtlfnjkcgefcidaaPFnPoolLetx19
namespace Go.Proofs.Ytlfnjkcgefcidaa.PFnPoolLet
open Go.RowKit Go.Proofs.YtlfnjkcgefcidaaW.PrintWords Go.Proofs.YtlfnjkcgefcidaaW.PrintLast Go.Proofs.YtlfnjkcgefcidaaW.PrintMore
attribute [local go_sem] max2_int min2_int max_two min_two max_three min_three max_four min_four   -- for this text's walks alone
set_option linter.unusedVariables false
set_option linter.unusedSimpArgs false

/-! ### laws_FnPoolLet: function 5 -/
def laws_FnPoolLet.j0 : Nat → Int → Bool → Bool → Bool → List (S41) → Int → List (S41) → Int → List (S41) → Int → Option (Bool)
 | 0, _, _, _, _, _, _, _, _, _, _ => none
 | k + 1, x4, x6, x8, x42, x308000, x308001, x314000, x314001, x320000, x320001 => if x42 = true then (if (x6 == x8) = true then ((laws_whPool.f k x314000 x314001 x320000 x320001).bind fun t322 => (some t322)) else (some false)) else (if x6 = true then (if 0 ≤ x4 then (if x4 < (x308000.length : Int) then (if x4 < (x314000.length : Int) then (if ((rd_T41 x308000 x4).f3) = (wrap64 (((rd_T41 x314000 x4).f3) + 1)) then ((impl_PoolOk.f k x314000 x314001).bind fun t325 => (some t325)) else (some false)) else (none)) else (none)) else (none)) else ((laws_whPool.f k x314000 x314001 x308000 x308001).bind fun t326 => (if t326 = true then (if x4 < 0 then (some true) else (if x4 ≥ 8 then (some true) else (if 0 ≤ x4 then (if x4 < (x308000.length : Int) then (some (((rd_T41 x308000 x4).f3) == 0)) else (none)) else (none)))) else (some false))))
def laws_FnPoolLet.f (k : Nat) (l0 : List Int) : Option (Bool) := if (l0.length : Int) > 1048576 then (some true) else ((spec_DrawPoolLet.f k l0).bind fun bt302 => ((impl_PoolLet.f k bt302.1 bt302.2.1 bt302.2.2).bind fun bt308 => ((spec_PoolLet.f k bt302.1 bt302.2.1 bt302.2.2).bind fun bt314 => (if (bt308.2.2 != bt314.2.2) = true then (laws_FnPoolLet.j0 k bt302.2.2 bt308.2.2 bt314.2.2 true bt302.1 bt302.2.1 bt308.1 bt308.2.1 bt314.1 bt314.2.1) else ((laws_whPool.f k bt308.1 bt308.2.1 bt314.1 bt314.2.1).bind fun t320 => (if t320 = true then ((spec_PoolOk.f k bt302.1 bt302.2.1).bind fun t321 => (laws_FnPoolLet.j0 k bt302.2.2 bt308.2.2 bt314.2.2 (!t321) bt302.1 bt302.2.1 bt308.1 bt308.2.1 bt314.1 bt314.2.1)) else (laws_FnPoolLet.j0 k bt302.2.2 bt308.2.2 bt314.2.2 true bt302.1 bt302.2.1 bt308.1 bt308.2.1 bt314.1 bt314.2.1)))))))
theorem laws_FnPoolLet.mono_l : ∀ k, (∀ y0 y1 y2 y3 y4 y5 y6 y7 y8 y9, LeO (laws_FnPoolLet.j0 k y0 y1 y2 y3 y4 y5 y6 y7 y8 y9) (laws_FnPoolLet.j0 (k + 1) y0 y1 y2 y3 y4 y5 y6 y7 y8 y9))
 | 0 => fun _ _ _ _ _ _ _ _ _ _ r h => by simp [laws_FnPoolLet.j0] at h
 | k + 1 => by
  have ih0 := laws_FnPoolLet.mono_l k
  ·intro y0 y1 y2 y3 y4 y5 y6 y7 y8 y9
   unfold laws_FnPoolLet.j0
   repeat' first
   | (with_reducible exact ih0 _ _ _ _ _ _ _ _ _ _)
   | (with_reducible exact impl_PoolLet.mono _ _ _ _)
   | (with_reducible exact impl_PoolOk.mono _ _ _)
   | (with_reducible exact laws_whPool.mono _ _ _ _ _)
   | (with_reducible exact spec_DrawPoolLet.mono _ _)
   | (with_reducible exact spec_PoolLet.mono _ _ _ _)
   | (with_reducible exact spec_PoolOk.mono _ _ _)
   | (with_reducible exact LeO.refl _)
   | (with_reducible exact LeO.none _)
   | (with_reducible refine LeO.ite ?_ ?_)
   | (with_reducible refine LeO.bind ?_ (fun _ => ?_))
   | exact ih0 _ _ _ _ _ _ _ _ _ _
   | exact impl_PoolLet.mono _ _ _ _
   | exact impl_PoolOk.mono _ _ _
   | exact laws_whPool.mono _ _ _ _ _
   | exact spec_DrawPoolLet.mono _ _
   | exact spec_PoolLet.mono _ _ _ _
   | exact spec_PoolOk.mono _ _ _
   | exact LeO.none _
   | refine LeO.ite ?_ ?_
   | refine LeO.bind ?_ (fun _ => ?_)
theorem laws_FnPoolLet.mono : ∀ a0 k, LeO (laws_FnPoolLet.f k a0) (laws_FnPoolLet.f (k + 1) a0) := by
 intro a0 k
 have ih0 := laws_FnPoolLet.mono_l k
 unfold laws_FnPoolLet.f
 repeat' first
   | (with_reducible exact ih0 _ _ _ _ _ _ _ _ _ _)
   | (with_reducible exact impl_PoolLet.mono _ _ _ _)
   | (with_reducible exact impl_PoolOk.mono _ _ _)
   | (with_reducible exact laws_whPool.mono _ _ _ _ _)
   | (with_reducible exact spec_DrawPoolLet.mono _ _)
   | (with_reducible exact spec_PoolLet.mono _ _ _ _)
   | (with_reducible exact spec_PoolOk.mono _ _ _)
   | (with_reducible exact LeO.refl _)
   | (with_reducible exact LeO.none _)
   | (with_reducible refine LeO.ite ?_ ?_)
   | (with_reducible refine LeO.bind ?_ (fun _ => ?_))
   | exact ih0 _ _ _ _ _ _ _ _ _ _
   | exact impl_PoolLet.mono _ _ _ _
   | exact impl_PoolOk.mono _ _ _
   | exact laws_whPool.mono _ _ _ _ _
   | exact spec_DrawPoolLet.mono _ _
   | exact spec_PoolLet.mono _ _ _ _
   | exact spec_PoolOk.mono _ _ _
   | exact LeO.none _
   | refine LeO.ite ?_ ?_
   | refine LeO.bind ?_ (fun _ => ?_)
def laws_FnPoolLet.T10 : Bool × List (List Nat × List Nat) := (true, [([], []), ([0], [0]), ([], []), ([1, 2], [1, 2]), ([3], [3]), ([4], [4]), ([], []), ([6], [6]), ([], []), ([7, 8], [7, 8]), ([9], [9]), ([10], [10]), ([11], [11]), ([5, 12], [5, 12]), ([13], [13]), ([14], [14]), ([15, 14, 14], [14, 15]), ([14, 16], [14, 16]), ([17, 16, 0, 1, 2, 3, 4, 5, 6, 7, 8, 9, 10, 11, 12, 13, 14, 15, 16, 17], [17])])
def laws_FnPoolLet.B10 : List Nat := [0, 1, 0, 7, 15, 31, 0, 64, 0, 448, 960, 1984, 4032, 8191, 16383, 32767, 65535, 131071, 262143]
theorem laws_FnPoolLet.tab10 : rtab .any (opsOf Try.f5 10) = laws_FnPoolLet.T10 := by kernel_rfl
theorem laws_FnPoolLet.bits10 : waitsOk laws_FnPoolLet.T10.2 laws_FnPoolLet.B10 = true := by kernel_rfl
set_option maxHeartbeats 8000000 in
set_option maxRecDepth 100000 in
theorem laws_FnPoolLet.calls (k : Nat) (A0 : Option Addr) (c0 : Nat) (l0 : List Int) (r : Bool) (w : World) (hr0 : Kd.C (Kd.int .u8) w A0 l0.length l0) (hc0 : l0.length ≤ c0) (h : laws_FnPoolLet.f k l0 = some r) :
  Calls Try.prog 5 #[.slice A0 l0.length c0] w fun e w' => e = .returned (.bool r) ∧ Below w.heap.size w w' := by
 have hu29 := Try.underlying29
 have HR0 := Aside0.mk hr0
 have HC0 := Aside0.mk hc0
 clear hr0 hc0
 have HB := Aside0.mk (Below.refl w.heap.size w)
 have H : (if (l0.length : Int) > 1048576 then (some true) else ((spec_DrawPoolLet.f k l0).bind fun bt302 => ((impl_PoolLet.f k bt302.1 bt302.2.1 bt302.2.2).bind fun bt308 => ((spec_PoolLet.f k bt302.1 bt302.2.1 bt302.2.2).bind fun bt314 => (if (bt308.2.2 != bt314.2.2) = true then (laws_FnPoolLet.j0 k bt302.2.2 bt308.2.2 bt314.2.2 true bt302.1 bt302.2.1 bt308.1 bt308.2.1 bt314.1 bt314.2.1) else ((laws_whPool.f k bt308.1 bt308.2.1 bt314.1 bt314.2.1).bind fun t320 => (if t320 = true then ((spec_PoolOk.f k bt302.1 bt302.2.1).bind fun t321 => (laws_FnPoolLet.j0 k bt302.2.2 bt308.2.2 bt314.2.2 (!t321) bt302.1 bt302.2.1 bt308.1 bt308.2.1 bt314.1 bt314.2.1)) else (laws_FnPoolLet.j0 k bt302.2.2 bt308.2.2 bt314.2.2 true bt302.1 bt302.2.1 bt308.1 bt308.2.1 bt314.1 bt314.2.1)))))))) = some r:=h
 clear h
 by_cases c2 : (l0.length : Int) > 1048576
 ·rw [if_pos c2] at H
  have c2b0 : decide (1048576 < (l0.length : Int)) = true:=decide_eq_true c2
  have c2b1 : decide (1048576 < l0.length) = true:=decide_eq_true (by omega)
  clear c2
  obtain rfl := Option.some.inj H
  go_enter Try.func5, Try.ntmps5
  go_wp2
  go_ret
  exact ⟨by first|rfl|(simp [errW_none,errW_some] <;> rfl)|(simp [*,errW_none,errW_some] <;> rfl),by repeat (first|(with_reducible first|exact HB.out|apply y_h|apply y_i|apply y_j)|exact HB.out)⟩
 ·rw [if_neg c2] at H
  have c2b0 : decide (1048576 < (l0.length : Int)) = false:=decide_eq_false c2
  have c2b1 : decide (1048576 < l0.length) = false:=decide_eq_false (by omega)
  clear c2
  replace H := Option.bind_eq_some_iff.mp H
  obtain ⟨⟨t302, t305, t306⟩, A30, H⟩ := H
  replace H : ((impl_PoolLet.f k t302 t305 t306).bind fun bt308 => ((spec_PoolLet.f k t302 t305 t306).bind fun bt314 => (if (bt308.2.2 != bt314.2.2) = true then (laws_FnPoolLet.j0 k t306 bt308.2.2 bt314.2.2 true t302 t305 bt308.1 bt308.2.1 bt314.1 bt314.2.1) else ((laws_whPool.f k bt308.1 bt308.2.1 bt314.1 bt314.2.1).bind fun t320 => (if t320 = true then ((spec_PoolOk.f k t302 t305).bind fun t321 => (laws_FnPoolLet.j0 k t306 bt308.2.2 bt314.2.2 (!t321) t302 t305 bt308.1 bt308.2.1 bt314.1 bt314.2.1)) else (laws_FnPoolLet.j0 k t306 bt308.2.2 bt314.2.2 true t302 t305 bt308.1 bt308.2.1 bt314.1 bt314.2.1)))))) = some r:=H
  have A3 := Aside0.mk A30
  clear A30
  replace H := Option.bind_eq_some_iff.mp H
  obtain ⟨⟨t308, t311, t312⟩, A40, H⟩ := H
  replace H : ((spec_PoolLet.f k t302 t305 t306).bind fun bt314 => (if (t312 != bt314.2.2) = true then (laws_FnPoolLet.j0 k t306 t312 bt314.2.2 true t302 t305 t308 t311 bt314.1 bt314.2.1) else ((laws_whPool.f k t308 t311 bt314.1 bt314.2.1).bind fun t320 => (if t320 = true then ((spec_PoolOk.f k t302 t305).bind fun t321 => (laws_FnPoolLet.j0 k t306 t312 bt314.2.2 (!t321) t302 t305 t308 t311 bt314.1 bt314.2.1)) else (laws_FnPoolLet.j0 k t306 t312 bt314.2.2 true t302 t305 t308 t311 bt314.1 bt314.2.1))))) = some r:=H
  have A4 := Aside0.mk A40
  clear A40
  replace H := Option.bind_eq_some_iff.mp H
  obtain ⟨⟨t314, t317, t318⟩, A50, H⟩ := H
  replace H : (if (t312 != t318) = true then (laws_FnPoolLet.j0 k t306 t312 t318 true t302 t305 t308 t311 t314 t317) else ((laws_whPool.f k t308 t311 t314 t317).bind fun t320 => (if t320 = true then ((spec_PoolOk.f k t302 t305).bind fun t321 => (laws_FnPoolLet.j0 k t306 t312 t318 (!t321) t302 t305 t308 t311 t314 t317)) else (laws_FnPoolLet.j0 k t306 t312 t318 true t302 t305 t308 t311 t314 t317)))) = some r:=H
  have A5 := Aside0.mk A50
  clear A50
  have HC6 := Aside0.mk H
  clear H
  go_enter Try.func5, Try.ntmps5
  go_upto_region 6 with (first|((with_reducible refine gate_callee (f:=22) rfl ?_);refine goesL_ (some 14) rfl rfl Try.func22 (by kernel_rfl) rfl #[.slice A0 l0.length c0] rfl (by (try simp only [List.map_toArray,List.map_cons,List.map_nil]);first|done|rfl|(simp only [List.length_drop,List.length_take];rfl)) ?_;(with_reducible refine (spec_DrawPoolLet.calls k _ _ l0 t302 t305 t306 _ ?side1 ?side2 A3.out).mono ?_);(case side1 => repeat (first|exact HR0.out|(with_reducible refine y_o ?_ _)|(with_reducible refine y_p ?_ _)|(with_reducible refine y_q ?_)));(case side2 => exact HC0.out);rintro e w7 ⟨v303,rfl,ho0,hb⟩;refine ⟨_,rfl,?_⟩;have n0_:=Aside0.mk (Kd.Q_lower ho0 (below_size (by repeat (first|(with_reducible first|exact HB.out|apply y_h|apply y_i|apply y_j)|exact HB.out))));have n1_:=Aside0.mk (below_step (by repeat (first|(with_reducible first|exact HB.out|apply y_h|apply y_i|apply y_j)|exact HB.out)) hb);clear HB;have HO304:=n0_;have HB:=n1_;clear n0_ n1_;(try clear hb);(try clear hb2);(try clear hk);(try clear hi);(try clear ho0))|((with_reducible refine gate_dst (N:=3) rfl ?_);refine box_event ?hg (N:=3) ?hd (cs:=#[.slice none 0 0,.int .i64 0]) (t:=29) ?hr ?_;(case hd => rfl);(case hg => rfl);(case hr => first|(go_simp;done)|(go_simp;rfl));intro gb307 hg w8 hbox hb;have n0_:=Aside0.mk (Kd.Q_below (by (with_reducible repeat (first|apply Kd.Q_alloc|apply Kd.Q_drewN|apply Kd.Q_drew));exact HO304.out) hb);have n1_:=Aside0.mk (below_step (by repeat (first|(with_reducible first|exact HB.out|apply y_h|apply y_i|apply y_j)|exact HB.out)) hb);have n2_:=Aside0.mk (hbox);have n3_:=Aside0.mk ((by rw [hg];exact (below_size (by repeat (first|(with_reducible first|exact HB.out|apply y_h|apply y_i|apply y_j)|exact HB.out))) : w.heap.size ≤ gb307));have n4_:=Aside0.mk ((by rw [hg];exact (below_size (by repeat (first|(with_reducible first|exact HB.out|apply y_h|apply y_i|apply y_j)|exact HB.out))) : w.heap.size ≤ gb307));clear HO304 HB;have HO304:=n0_;have HB:=n1_;have BK307:=n2_;have GW307:=n3_;have GE307:=n4_;clear n0_ n1_ n2_ n3_ n4_;clear hb hbox hg;obtain ⟨Ao9,co9,eo9,_⟩:=Kd.Q_slice HO304.out;subst eo9;have hcz10_0 : w8.cell? ⟨gb307,0,none⟩ = some (.slice none 0 0):=(blk_cell BK307.out 0).trans rfl;have hcz10_1 : w8.cell? ⟨gb307,1,none⟩ = some (.int .i64 0):=(blk_cell BK307.out 1).trans rfl;have hfz10_0:=blk_frozen BK307.out 0;have hfz10_1:=blk_frozen BK307.out 1)|((with_reducible refine gate_callee (f:=23) rfl ?_);refine goesL_ (some 20) rfl rfl Try.func23 (by kernel_rfl) rfl #[.agg #[.slice Ao9 t302.length co9,.int .i64 t305],.int .i64 t306] rfl (by (try simp only [List.map_toArray,List.map_cons,List.map_nil]);first|done|rfl|(simp only [List.length_drop,List.length_take];rfl)) ?_;(with_reducible refine (impl_PoolLet.calls k _ _ t302 t305 t306 t308 t311 t312 _ ?side1 ?side2 A4.out).mono ?_);(case side1 => refine (Kd.Q_reads' (e:=41) (base:=w.heap.size) (ok:=fun k_ => True) (n:=t302.length) (c:=co9) ?_).2.2;exact (by (with_reducible repeat (first|apply Kd.Q_alloc|apply Kd.Q_drewN|apply Kd.Q_drew));exact (Kd.Q_mono (Kd.Q_far (p:=⟨gb307,1,none⟩) (Kd.Q_far (p:=⟨gb307,0,none⟩) (Kd.Q_types HO304.out BK307.out (by decide)) (fun _ hk => hk.2) (.slice Ao9 t302.length co9)) (fun _ hk => hk.2) (.int .i64 t305)) (fun _ h_ => h_.1))));(case side2 => exact (Kd.Q_reads' HO304.out).2.1);rintro e w11 ⟨v309,rfl,ho0,hb⟩;refine ⟨_,rfl,?_⟩;have n0_:=Aside0.mk (Kd.Q_elder' (by (with_reducible repeat (first|apply Kd.Q_alloc|apply Kd.Q_drewN|apply Kd.Q_drew));exact (Kd.Q_mono (Kd.Q_far (p:=⟨gb307,1,none⟩) (Kd.Q_far (p:=⟨gb307,0,none⟩) (Kd.Q_types HO304.out BK307.out (by decide)) (fun _ hk => hk.2) (.slice Ao9 t302.length co9)) (fun _ hk => hk.2) (.int .i64 t305)) (fun _ h_ => h_.1))) (Kd.R_base ho0) hb);have n1_:=Aside0.mk (Kd.R_lower (Kd.R_new' ho0 (Kd.Q_lt (by (with_reducible repeat (first|apply Kd.Q_alloc|apply Kd.Q_drewN|apply Kd.Q_drew));exact (Kd.Q_mono (Kd.Q_far (p:=⟨gb307,1,none⟩) (Kd.Q_far (p:=⟨gb307,0,none⟩) (Kd.Q_types HO304.out BK307.out (by decide)) (fun _ hk => hk.2) (.slice Ao9 t302.length co9)) (fun _ hk => hk.2) (.int .i64 t305)) (fun _ h_ => h_.1))))) (below_size (by repeat (first|(with_reducible first|exact HB.out|apply y_h|apply y_i|apply y_j|refine y_s ?_ GE307.out)|exact HB.out))));have n2_:=Aside0.mk (blk_below (g:=gb307) (o:=.cells #[.slice Ao9 t302.length co9,.int .i64 t305] 29 (0,0)) (by (with_reducible repeat (first|refine y_b ?_ _|refine y_c ?_|refine y_d ?_ _));refine blk_put (cs:=#[.slice Ao9 t302.length co9,.int .i64 0]) ?_ 1 _ rfl;(with_reducible repeat (first|refine y_b ?_ _|refine y_c ?_|refine y_d ?_ _));refine blk_put (cs:=#[.slice none 0 0,.int .i64 0]) ?_ 0 _ rfl;(with_reducible repeat (first|refine y_b ?_ _|refine y_c ?_|refine y_d ?_ _));exact BK307.out) hb);have n3_:=Aside0.mk (below_step (by repeat (first|(with_reducible first|exact HB.out|apply y_h|apply y_i|apply y_j|refine y_s ?_ GE307.out)|exact HB.out)) hb);clear HO304 BK307 HB;have HO304:=n0_;have HO310:=n1_;have BK307:=n2_;have HB:=n3_;clear n0_ n1_ n2_ n3_;(try clear hb);(try clear hb2);(try clear hk);(try clear hi);(try clear ho0))|((with_reducible refine gate_dst (N:=5) rfl ?_);refine box_event ?hg (N:=5) ?hd (cs:=#[.slice none 0 0,.int .i64 0]) (t:=29) ?hr ?_;(case hd => rfl);(case hg => rfl);(case hr => first|(go_simp;done)|(go_simp;rfl));intro gb313 hg w12 hbox hb;have n0_:=Aside0.mk (Kd.Q_below (by (with_reducible repeat (first|apply Kd.Q_alloc|apply Kd.Q_drewN|apply Kd.Q_drew));exact HO304.out) hb);have n1_:=Aside0.mk (Kd.R_below (by (with_reducible repeat (first|apply y_e|apply y_f|apply y_g));exact HO310.out) hb);have n2_:=Aside0.mk (blk_below (g:=gb307) (o:=.cells #[.slice Ao9 t302.length co9,.int .i64 t305] 29 (0,0)) (by (with_reducible repeat (first|refine y_b ?_ _|refine y_c ?_|refine y_d ?_ _));exact BK307.out) hb);have n3_:=Aside0.mk (below_step (by repeat (first|(with_reducible first|exact HB.out|apply y_h|apply y_i|apply y_j|refine y_s ?_ GE307.out)|exact HB.out)) hb);have n4_:=Aside0.mk (hbox);have n5_:=Aside0.mk ((by rw [hg];exact (below_size (by repeat (first|(with_reducible first|exact HB.out|apply y_h|apply y_i|apply y_j|refine y_s ?_ GE307.out)|exact HB.out))) : w.heap.size ≤ gb313));have n6_:=Aside0.mk ((by rw [hg];exact (below_size (by repeat (first|(with_reducible first|exact HB.out|apply y_h|apply y_i|apply y_j|refine y_s ?_ GE307.out)|exact HB.out))) : w.heap.size ≤ gb313));have n7_:=Aside0.mk ((by rw [hg];exact Nat.ne_of_lt (blk_lt (g:=gb307) (o:=.cells #[.slice Ao9 t302.length co9,.int .i64 t305] 29 (0,0)) (by (with_reducible repeat (first|refine y_b ?_ _|refine y_c ?_|refine y_d ?_ _));exact BK307.out)) : gb307 ≠ gb313));have n8_:=Aside0.mk ((by rw [hg];exact Nat.ne_of_gt (blk_lt (g:=gb307) (o:=.cells #[.slice Ao9 t302.length co9,.int .i64 t305] 29 (0,0)) (by (with_reducible repeat (first|refine y_b ?_ _|refine y_c ?_|refine y_d ?_ _));exact BK307.out)) : gb313 ≠ gb307));clear HO304 HO310 BK307 HB;have HO304:=n0_;have HO310:=n1_;have BK307:=n2_;have HB:=n3_;have BK313:=n4_;have GW313:=n5_;have GE313:=n6_;have NB307_313:=n7_;have NB313_307:=n8_;clear n0_ n1_ n2_ n3_ n4_ n5_ n6_ n7_ n8_;clear hb hbox hg;obtain ⟨Ao13,co13,eo13⟩:=Kd.R_slice HO310.out;subst eo13;have hnb14:=NB313_307.out;have hnc14:=NB307_313.out;have hcz15_0 : w12.cell? ⟨gb313,0,none⟩ = some (.slice none 0 0):=(blk_cell BK313.out 0).trans rfl;have hcz15_1 : w12.cell? ⟨gb313,1,none⟩ = some (.int .i64 0):=(blk_cell BK313.out 1).trans rfl;have hfz15_0:=blk_frozen BK313.out 0;have hfz15_1:=blk_frozen BK313.out 1;have hcz16_0 : w12.cell? ⟨gb307,0,none⟩ = some (.slice Ao9 t302.length co9):=(blk_cell BK307.out 0).trans rfl;have hcz16_1 : w12.cell? ⟨gb307,1,none⟩ = some (.int .i64 t305):=(blk_cell BK307.out 1).trans rfl;have hfz16_0:=blk_frozen BK307.out 0;have hfz16_1:=blk_frozen BK307.out 1)|((with_reducible refine gate_callee (f:=24) rfl ?_);refine goesL_ (some 26) rfl rfl Try.func24 (by kernel_rfl) rfl #[.agg #[.slice Ao9 t302.length co9,.int .i64 t305],.int .i64 t306] rfl (by (try simp only [List.map_toArray,List.map_cons,List.map_nil]);first|done|rfl|(simp only [List.length_drop,List.length_take];rfl)) ?_;(with_reducible refine (spec_PoolLet.calls k _ _ t302 t305 t306 t314 t317 t318 _ ?side1 ?side2 A5.out).mono ?_);(case side1 => refine (Kd.Q_reads' (e:=41) (base:=w.heap.size) (ok:=fun k_ => (True ∧ some k_ ≠ (.slice Ao13 t308.length co13 : Value).ownBlock)) (n:=t302.length) (c:=co9) ?_).2.2;exact (by (with_reducible repeat (first|apply Kd.Q_alloc|apply Kd.Q_drewN|apply Kd.Q_drew));exact (Kd.Q_mono (Kd.Q_far (p:=⟨gb313,1,none⟩) (Kd.Q_far (p:=⟨gb313,0,none⟩) (Kd.Q_types HO304.out BK313.out (by decide)) (fun _ hk => hk.2) (.slice Ao13 t308.length co13)) (fun _ hk => hk.2) (.int .i64 t311)) (fun _ h_ => h_.1))));(case side2 => exact (Kd.Q_reads' HO304.out).2.1);rintro e w17 ⟨v315,rfl,ho0,hb⟩;refine ⟨_,rfl,?_⟩;have n0_:=Aside0.mk (Kd.Q_elder' (by (with_reducible repeat (first|apply Kd.Q_alloc|apply Kd.Q_drewN|apply Kd.Q_drew));exact (Kd.Q_mono (Kd.Q_far (p:=⟨gb313,1,none⟩) (Kd.Q_far (p:=⟨gb313,0,none⟩) (Kd.Q_types HO304.out BK313.out (by decide)) (fun _ hk => hk.2) (.slice Ao13 t308.length co13)) (fun _ hk => hk.2) (.int .i64 t311)) (fun _ h_ => h_.1))) (Kd.R_base ho0) hb);have n1_:=Aside0.mk (Kd.R_elder' (by (with_reducible repeat (first|apply y_e|apply y_f|apply y_g));exact (y_t (Kd.R_far (p:=⟨gb313,1,none⟩) (Kd.R_far (p:=⟨gb313,0,none⟩) (Kd.R_types HO310.out BK313.out (by decide)) (fun _ hk => hk.2) (.slice Ao13 t308.length co13)) (fun _ hk => hk.2) (.int .i64 t311)) (fun _ h_ => h_.1))) (Kd.R_base ho0) hb);have n2_:=Aside0.mk (Kd.R_lower (Kd.R_new' (Kd.R_new' ho0 (Kd.Q_lt (by (with_reducible repeat (first|apply Kd.Q_alloc|apply Kd.Q_drewN|apply Kd.Q_drew));exact (Kd.Q_mono (Kd.Q_far (p:=⟨gb313,1,none⟩) (Kd.Q_far (p:=⟨gb313,0,none⟩) (Kd.Q_types HO304.out BK313.out (by decide)) (fun _ hk => hk.2) (.slice Ao13 t308.length co13)) (fun _ hk => hk.2) (.int .i64 t311)) (fun _ h_ => h_.1))))) (Kd.R_lt (by (with_reducible repeat (first|apply y_e|apply y_f|apply y_g));exact (y_t (Kd.R_far (p:=⟨gb313,1,none⟩) (Kd.R_far (p:=⟨gb313,0,none⟩) (Kd.R_types HO310.out BK313.out (by decide)) (fun _ hk => hk.2) (.slice Ao13 t308.length co13)) (fun _ hk => hk.2) (.int .i64 t311)) (fun _ h_ => h_.1))))) (below_size (by repeat (first|(with_reducible first|exact HB.out|apply y_h|apply y_i|apply y_j|refine y_s ?_ GE307.out|refine y_s ?_ GE313.out)|exact HB.out))));have n3_:=Aside0.mk (blk_below (g:=gb307) (o:=.cells #[.slice Ao9 t302.length co9,.int .i64 t305] 29 (0,0)) (by (with_reducible repeat (first|refine y_b ?_ _|refine y_c ?_|refine y_d ?_ _));refine blk_far ?_ NB307_313.out _;(with_reducible repeat (first|refine y_b ?_ _|refine y_c ?_|refine y_d ?_ _));refine blk_far ?_ NB307_313.out _;(with_reducible repeat (first|refine y_b ?_ _|refine y_c ?_|refine y_d ?_ _));exact BK307.out) hb);have n4_:=Aside0.mk (blk_below (g:=gb313) (o:=.cells #[.slice Ao13 t308.length co13,.int .i64 t311] 29 (0,0)) (by (with_reducible repeat (first|refine y_b ?_ _|refine y_c ?_|refine y_d ?_ _));refine blk_put (cs:=#[.slice Ao13 t308.length co13,.int .i64 0]) ?_ 1 _ rfl;(with_reducible repeat (first|refine y_b ?_ _|refine y_c ?_|refine y_d ?_ _));refine blk_put (cs:=#[.slice none 0 0,.int .i64 0]) ?_ 0 _ rfl;(with_reducible repeat (first|refine y_b ?_ _|refine y_c ?_|refine y_d ?_ _));exact BK313.out) hb);have n5_:=Aside0.mk (below_step (by repeat (first|(with_reducible first|exact HB.out|apply y_h|apply y_i|apply y_j|refine y_s ?_ GE307.out|refine y_s ?_ GE313.out)|exact HB.out)) hb);clear HO304 HO310 BK307 BK313 HB;have HO304:=n0_;have HO310:=n1_;have HO316:=n2_;have BK307:=n3_;have BK313:=n4_;have HB:=n5_;clear n0_ n1_ n2_ n3_ n4_ n5_;(try clear hb);(try clear hb2);(try clear hk);(try clear hi);(try clear ho0))|((with_reducible refine gate_dst (N:=7) rfl ?_);refine box_event ?hg (N:=7) ?hd (cs:=#[.slice none 0 0,.int .i64 0]) (t:=29) ?hr ?_;(case hd => rfl);(case hg => rfl);(case hr => first|(go_simp;done)|(go_simp;rfl));intro gb319 hg w18 hbox hb;have n0_:=Aside0.mk (Kd.Q_below (by (with_reducible repeat (first|apply Kd.Q_alloc|apply Kd.Q_drewN|apply Kd.Q_drew));exact HO304.out) hb);have n1_:=Aside0.mk (Kd.R_below (by (with_reducible repeat (first|apply y_e|apply y_f|apply y_g));exact HO310.out) hb);have n2_:=Aside0.mk (Kd.R_below (by (with_reducible repeat (first|apply y_e|apply y_f|apply y_g));exact HO316.out) hb);have n3_:=Aside0.mk (blk_below (g:=gb307) (o:=.cells #[.slice Ao9 t302.length co9,.int .i64 t305] 29 (0,0)) (by (with_reducible repeat (first|refine y_b ?_ _|refine y_c ?_|refine y_d ?_ _));exact BK307.out) hb);have n4_:=Aside0.mk (blk_below (g:=gb313) (o:=.cells #[.slice Ao13 t308.length co13,.int .i64 t311] 29 (0,0)) (by (with_reducible repeat (first|refine y_b ?_ _|refine y_c ?_|refine y_d ?_ _));exact BK313.out) hb);have n5_:=Aside0.mk (below_step (by repeat (first|(with_reducible first|exact HB.out|apply y_h|apply y_i|apply y_j|refine y_s ?_ GE307.out|refine y_s ?_ GE313.out)|exact HB.out)) hb);have n6_:=Aside0.mk (hbox);have n7_:=Aside0.mk ((by rw [hg];exact (below_size (by repeat (first|(with_reducible first|exact HB.out|apply y_h|apply y_i|apply y_j|refine y_s ?_ GE307.out|refine y_s ?_ GE313.out)|exact HB.out))) : w.heap.size ≤ gb319));have n8_:=Aside0.mk ((by rw [hg];exact (below_size (by repeat (first|(with_reducible first|exact HB.out|apply y_h|apply y_i|apply y_j|refine y_s ?_ GE307.out|refine y_s ?_ GE313.out)|exact HB.out))) : w.heap.size ≤ gb319));have n9_:=Aside0.mk ((by rw [hg];exact Nat.ne_of_lt (blk_lt (g:=gb307) (o:=.cells #[.slice Ao9 t302.length co9,.int .i64 t305] 29 (0,0)) (by (with_reducible repeat (first|refine y_b ?_ _|refine y_c ?_|refine y_d ?_ _));exact BK307.out)) : gb307 ≠ gb319));have n10_:=Aside0.mk ((by rw [hg];exact Nat.ne_of_gt (blk_lt (g:=gb307) (o:=.cells #[.slice Ao9 t302.length co9,.int .i64 t305] 29 (0,0)) (by (with_reducible repeat (first|refine y_b ?_ _|refine y_c ?_|refine y_d ?_ _));exact BK307.out)) : gb319 ≠ gb307));have n11_:=Aside0.mk ((by rw [hg];exact Nat.ne_of_lt (blk_lt (g:=gb313) (o:=.cells #[.slice Ao13 t308.length co13,.int .i64 t311] 29 (0,0)) (by (with_reducible repeat (first|refine y_b ?_ _|refine y_c ?_|refine y_d ?_ _));exact BK313.out)) : gb313 ≠ gb319));have n12_:=Aside0.mk ((by rw [hg];exact Nat.ne_of_gt (blk_lt (g:=gb313) (o:=.cells #[.slice Ao13 t308.length co13,.int .i64 t311] 29 (0,0)) (by (with_reducible repeat (first|refine y_b ?_ _|refine y_c ?_|refine y_d ?_ _));exact BK313.out)) : gb319 ≠ gb313));clear HO304 HO310 HO316 BK307 BK313 HB;have HO304:=n0_;have HO310:=n1_;have HO316:=n2_;have BK307:=n3_;have BK313:=n4_;have HB:=n5_;have BK319:=n6_;have GW319:=n7_;have GE319:=n8_;have NB307_319:=n9_;have NB319_307:=n10_;have NB313_319:=n11_;have NB319_313:=n12_;clear n0_ n1_ n2_ n3_ n4_ n5_ n6_ n7_ n8_ n9_ n10_ n11_ n12_;clear hb hbox hg;obtain ⟨Ao19,co19,eo19⟩:=Kd.R_slice HO316.out;subst eo19;have hnb20:=NB319_307.out;have hnc20:=NB307_319.out;have hnb21:=NB319_313.out;have hnc21:=NB313_319.out;have hcz22_0 : w18.cell? ⟨gb319,0,none⟩ = some (.slice none 0 0):=(blk_cell BK319.out 0).trans rfl;have hcz22_1 : w18.cell? ⟨gb319,1,none⟩ = some (.int .i64 0):=(blk_cell BK319.out 1).trans rfl;have hfz22_0:=blk_frozen BK319.out 0;have hfz22_1:=blk_frozen BK319.out 1))
  (try simp only [Act.put,List.setIfInBounds_toArray,List.set_cons_zero,List.set_cons_succ])
  go_cut [42] (fun v42 wc => ∃ (kq : Nat) (x42_5 : Bool),v42 = .bool x42_5 ∧ Aside0 (laws_FnPoolLet.j0 kq t306 t312 t318 x42_5 t302 t305 t308 t311 t314 t317 = some r) ∧ Aside0 (kq ≤ k) ∧ Aside0 (Kd.Q k41 41 wc w.heap.size (fun k_ => some k_ ≠ ((.slice Ao13 t308.length co13) : Value).ownBlock ∧ some k_ ≠ ((.slice Ao19 t314.length co19) : Value).ownBlock) (.slice Ao9 t302.length co9) t302) ∧ Aside0 (Kd.Q k41 41 wc w.heap.size (fun k_ => some k_ ≠ ((.slice Ao9 t302.length co9) : Value).ownBlock ∧ some k_ ≠ ((.slice Ao19 t314.length co19) : Value).ownBlock) (.slice Ao13 t308.length co13) t308) ∧ Aside0 (Kd.Q k41 41 wc w.heap.size (fun k_ => some k_ ≠ ((.slice Ao9 t302.length co9) : Value).ownBlock ∧ some k_ ≠ ((.slice Ao13 t308.length co13) : Value).ownBlock) (.slice Ao19 t314.length co19) t314) ∧ Aside0 (wc.heap[gb307]? = some (.cells #[(.slice Ao9 t302.length co9),.int .i64 t305] 29 (0,0))) ∧ Aside0 (wc.heap[gb313]? = some (.cells #[(.slice Ao13 t308.length co13),.int .i64 t311] 29 (0,0))) ∧ Aside0 (wc.heap[gb319]? = some (.cells #[(.slice Ao19 t314.length co19),.int .i64 t317] 29 (0,0))) ∧ Aside0 (Below w.heap.size w wc))
  case first =>
   have H := HC6.out
   clear HC6
   by_cases c23 : (t312 != t318) = true
   ·rw [if_pos c23] at H
    have c23b0 : (t312 != t318) = true := c23
    (try (have c23b1 : decide (t312 = t318) = false:=by simpa using c23))
    (try (have c23b2 : (t312 == t318) = false:=by simpa using c23))
    (try (have c23b3 : ¬ (t312 = t318) := by simpa using c23))
    clear c23
    (first|rw [c23b0]|(simp only [i64_w,i32_w];rw [c23b0])|skip)
    have H' := Aside0.mk H
    clear H
    go_wp2
    go_meet
    case rel => exact ⟨_,(true),(by first|rfl|(simp;done)|(simp [*];done)),H',⟨by first|omega|exact Nat.le_refl _⟩,⟨by (with_reducible repeat (first|apply Kd.Q_alloc|apply Kd.Q_drewN|apply Kd.Q_drew));exact Kd.Q_mono (Kd.Q_far (p:=⟨gb319,1,none⟩) (Kd.Q_far (p:=⟨gb319,0,none⟩) (Kd.Q_types HO304.out BK319.out (by decide)) (fun _ hk => hk.2) (.slice Ao19 t314.length co19)) (fun _ hk => hk.2) (.int .i64 t317)) (fun _ hk => ⟨hk.1.1.2,hk.1.2⟩)⟩,⟨Kd.Q_of_R (by (with_reducible repeat (first|apply y_e|apply y_f|apply y_g));exact y_t (Kd.R_far (p:=⟨gb319,1,none⟩) (Kd.R_far (p:=⟨gb319,0,none⟩) (Kd.R_types HO310.out BK319.out (by decide)) (fun _ hk => hk.2) (.slice Ao19 t314.length co19)) (fun _ hk => hk.2) (.int .i64 t317)) (fun _ hk => ⟨hk.1.1.2,hk.1.2⟩))⟩,⟨Kd.Q_of_R (by (with_reducible repeat (first|apply y_e|apply y_f|apply y_g));exact y_t (Kd.R_far (p:=⟨gb319,1,none⟩) (Kd.R_far (p:=⟨gb319,0,none⟩) (Kd.R_types HO316.out BK319.out (by decide)) (fun _ hk => hk.2) (.slice Ao19 t314.length co19)) (fun _ hk => hk.2) (.int .i64 t317)) (fun _ hk => ⟨hk.1.1.2,hk.1.2⟩))⟩,⟨by (with_reducible repeat (first|refine y_b ?_ _|refine y_c ?_|refine y_d ?_ _));refine blk_far ?_ NB307_319.out _;(with_reducible repeat (first|refine y_b ?_ _|refine y_c ?_|refine y_d ?_ _));refine blk_far ?_ NB307_319.out _;(with_reducible repeat (first|refine y_b ?_ _|refine y_c ?_|refine y_d ?_ _));exact BK307.out⟩,⟨by (with_reducible repeat (first|refine y_b ?_ _|refine y_c ?_|refine y_d ?_ _));refine blk_far ?_ NB313_319.out _;(with_reducible repeat (first|refine y_b ?_ _|refine y_c ?_|refine y_d ?_ _));refine blk_far ?_ NB313_319.out _;(with_reducible repeat (first|refine y_b ?_ _|refine y_c ?_|refine y_d ?_ _));exact BK313.out⟩,⟨by (with_reducible repeat (first|refine y_b ?_ _|refine y_c ?_|refine y_d ?_ _));refine blk_put (cs:=#[.slice Ao19 t314.length co19,.int .i64 0]) ?_ 1 _ rfl;(with_reducible repeat (first|refine y_b ?_ _|refine y_c ?_|refine y_d ?_ _));refine blk_put (cs:=#[.slice none 0 0,.int .i64 0]) ?_ 0 _ rfl;(with_reducible repeat (first|refine y_b ?_ _|refine y_c ?_|refine y_d ?_ _));exact BK319.out⟩,⟨by repeat (first|(with_reducible first|exact HB.out|apply y_h|apply y_i|apply y_j|refine y_s ?_ GE307.out|refine y_s ?_ GE313.out|refine y_s ?_ GE319.out)|exact HB.out)⟩⟩
   ·rw [if_neg c23] at H
    have c23b0 : (t312 != t318) = false := by simpa using c23
    (try (have c23b1 : decide (t312 = t318) = true:=by simpa using c23))
    (try (have c23b2 : (t312 == t318) = true:=by simpa using c23))
    clear c23
    (first|rw [c23b0]|(simp only [i64_w,i32_w];rw [c23b0])|skip)
    replace H := Option.bind_eq_some_iff.mp H
    obtain ⟨t320, A240, H⟩ := H
    replace H : (if t320 = true then ((spec_PoolOk.f k t302 t305).bind fun t321 => (laws_FnPoolLet.j0 k t306 t312 t318 (!t321) t302 t305 t308 t311 t314 t317)) else (laws_FnPoolLet.j0 k t306 t312 t318 true t302 t305 t308 t311 t314 t317)) = some r:=H
    have A24 := Aside0.mk A240
    clear A240
    by_cases c25 : t320 = true
    ·subst c25
     have H1 : ((spec_PoolOk.f k t302 t305).bind fun t321 => (laws_FnPoolLet.j0 k t306 t312 t318 (!t321) t302 t305 t308 t311 t314 t317)) = some r:=by rw [if_pos rfl] at H;exact H
     clear H
     have H := H1
     clear H1
     replace H := Option.bind_eq_some_iff.mp H
     obtain ⟨t321, A260, H⟩ := H
     replace H : (laws_FnPoolLet.j0 k t306 t312 t318 (!t321) t302 t305 t308 t311 t314 t317) = some r:=H
     have A26 := Aside0.mk A260
     clear A260
     have H' := Aside0.mk H
     clear H
     have hnb27 := NB313_307.out
     have hnc27 := NB307_313.out
     have hnb28 := NB313_319.out
     have hnc28 := NB319_313.out
     have hcz29_0 : w18.cell? ⟨gb313,0,none⟩ = some (.slice Ao13 t308.length co13):=(blk_cell BK313.out 0).trans rfl
     have hcz29_1 : w18.cell? ⟨gb313,1,none⟩ = some (.int .i64 t311):=(blk_cell BK313.out 1).trans rfl
     have hfz29_0 := blk_frozen BK313.out 0
     have hfz29_1 := blk_frozen BK313.out 1
     have hnb30 := NB319_307.out
     have hnc30 := NB307_319.out
     have hcz31_0 : w18.cell? ⟨gb319,0,none⟩ = some (.slice none 0 0):=(blk_cell BK319.out 0).trans rfl
     have hcz31_1 : w18.cell? ⟨gb319,1,none⟩ = some (.int .i64 0):=(blk_cell BK319.out 1).trans rfl
     have hfz31_0 := blk_frozen BK319.out 0
     have hfz31_1 := blk_frozen BK319.out 1
     go_wp2_with (first|(go_at_call 25;(with_reducible refine (laws_whPool.calls k _ _ t308 t311 _ _ t314 t317 true _ ?side1 ?side2 ?side3 ?side4 A24.out).mono ?_);(case side1 => refine (Kd.R_reads' (e:=41) (base:=w.heap.size) (ok:=fun k_ => ((True ∧ some k_ ≠ (.slice Ao9 t302.length co9 : Value).ownBlock) ∧ some k_ ≠ (.slice Ao19 t314.length co19 : Value).ownBlock)) (n:=t308.length) (c:=co13) ?_).2.2;exact (by (with_reducible repeat (first|apply y_e|apply y_f|apply y_g));exact (y_t (Kd.R_far (p:=⟨gb319,1,none⟩) (Kd.R_far (p:=⟨gb319,0,none⟩) (Kd.R_types HO310.out BK319.out (by decide)) (fun _ hk => hk.2) (.slice Ao19 t314.length co19)) (fun _ hk => hk.2) (.int .i64 t317)) (fun _ h_ => h_.1))));(case side2 => exact (Kd.R_reads' HO310.out).2.1);(case side3 => refine (Kd.R_reads' (e:=41) (base:=w.heap.size) (ok:=fun k_ => ((True ∧ some k_ ≠ (.slice Ao9 t302.length co9 : Value).ownBlock) ∧ some k_ ≠ (.slice Ao13 t308.length co13 : Value).ownBlock)) (n:=t314.length) (c:=co19) ?_).2.2;exact (by (with_reducible repeat (first|apply y_e|apply y_f|apply y_g));exact (y_t (Kd.R_far (p:=⟨gb319,1,none⟩) (Kd.R_far (p:=⟨gb319,0,none⟩) (Kd.R_types HO316.out BK319.out (by decide)) (fun _ hk => hk.2) (.slice Ao19 t314.length co19)) (fun _ hk => hk.2) (.int .i64 t317)) (fun _ h_ => h_.1))));(case side4 => exact (Kd.R_reads' HO316.out).2.1);rintro e w32 ⟨rfl,hb⟩;have n0_:=Aside0.mk (Kd.Q_below (by (with_reducible repeat (first|apply Kd.Q_alloc|apply Kd.Q_drewN|apply Kd.Q_drew));exact (Kd.Q_mono (Kd.Q_far (p:=⟨gb319,1,none⟩) (Kd.Q_far (p:=⟨gb319,0,none⟩) (Kd.Q_types HO304.out BK319.out (by decide)) (fun _ hk => hk.2) (.slice Ao19 t314.length co19)) (fun _ hk => hk.2) (.int .i64 t317)) (fun _ h_ => h_.1))) hb);have n1_:=Aside0.mk (Kd.R_below (by (with_reducible repeat (first|apply y_e|apply y_f|apply y_g));exact (y_t (Kd.R_far (p:=⟨gb319,1,none⟩) (Kd.R_far (p:=⟨gb319,0,none⟩) (Kd.R_types HO310.out BK319.out (by decide)) (fun _ hk => hk.2) (.slice Ao19 t314.length co19)) (fun _ hk => hk.2) (.int .i64 t317)) (fun _ h_ => h_.1))) hb);have n2_:=Aside0.mk (Kd.R_below (by (with_reducible repeat (first|apply y_e|apply y_f|apply y_g));exact (y_t (Kd.R_far (p:=⟨gb319,1,none⟩) (Kd.R_far (p:=⟨gb319,0,none⟩) (Kd.R_types HO316.out BK319.out (by decide)) (fun _ hk => hk.2) (.slice Ao19 t314.length co19)) (fun _ hk => hk.2) (.int .i64 t317)) (fun _ h_ => h_.1))) hb);have n3_:=Aside0.mk (blk_below (g:=gb307) (o:=.cells #[.slice Ao9 t302.length co9,.int .i64 t305] 29 (0,0)) (by (with_reducible repeat (first|refine y_b ?_ _|refine y_c ?_|refine y_d ?_ _));refine blk_far ?_ NB307_319.out _;(with_reducible repeat (first|refine y_b ?_ _|refine y_c ?_|refine y_d ?_ _));refine blk_far ?_ NB307_319.out _;(with_reducible repeat (first|refine y_b ?_ _|refine y_c ?_|refine y_d ?_ _));exact BK307.out) hb);have n4_:=Aside0.mk (blk_below (g:=gb313) (o:=.cells #[.slice Ao13 t308.length co13,.int .i64 t311] 29 (0,0)) (by (with_reducible repeat (first|refine y_b ?_ _|refine y_c ?_|refine y_d ?_ _));refine blk_far ?_ NB313_319.out _;(with_reducible repeat (first|refine y_b ?_ _|refine y_c ?_|refine y_d ?_ _));refine blk_far ?_ NB313_319.out _;(with_reducible repeat (first|refine y_b ?_ _|refine y_c ?_|refine y_d ?_ _));exact BK313.out) hb);have n5_:=Aside0.mk (blk_below (g:=gb319) (o:=.cells #[.slice Ao19 t314.length co19,.int .i64 t317] 29 (0,0)) (by (with_reducible repeat (first|refine y_b ?_ _|refine y_c ?_|refine y_d ?_ _));refine blk_put (cs:=#[.slice Ao19 t314.length co19,.int .i64 0]) ?_ 1 _ rfl;(with_reducible repeat (first|refine y_b ?_ _|refine y_c ?_|refine y_d ?_ _));refine blk_put (cs:=#[.slice none 0 0,.int .i64 0]) ?_ 0 _ rfl;(with_reducible repeat (first|refine y_b ?_ _|refine y_c ?_|refine y_d ?_ _));exact BK319.out) hb);have n6_:=Aside0.mk (below_step (by repeat (first|(with_reducible first|exact HB.out|apply y_h|apply y_i|apply y_j|refine y_s ?_ GE307.out|refine y_s ?_ GE313.out|refine y_s ?_ GE319.out)|exact HB.out)) hb);clear HO304 HO310 HO316 BK307 BK313 BK319 HB;have HO304:=n0_;have HO310:=n1_;have HO316:=n2_;have BK307:=n3_;have BK313:=n4_;have BK319:=n5_;have HB:=n6_;clear n0_ n1_ n2_ n3_ n4_ n5_ n6_;(try clear hb);(try clear hb2);(try clear hk);(try clear hi);have hcz33_0 : w32.cell? ⟨gb307,0,none⟩ = some (.slice Ao9 t302.length co9):=(blk_cell BK307.out 0).trans rfl;have hcz33_1 : w32.cell? ⟨gb307,1,none⟩ = some (.int .i64 t305):=(blk_cell BK307.out 1).trans rfl;have hfz33_0:=blk_frozen BK307.out 0;have hfz33_1:=blk_frozen BK307.out 1)|(go_at_call 16;(with_reducible refine (spec_PoolOk.calls k _ _ t302 t305 t321 _ ?side1 ?side2 A26.out).mono ?_);(case side1 => repeat (first|exact (Kd.Q_reads' HO304.out).2.2|(with_reducible refine y_o ?_ _)|(with_reducible refine y_p ?_ _)|(with_reducible refine y_q ?_)));(case side2 => exact (Kd.Q_reads' HO304.out).2.1);rintro e w34 ⟨rfl,hb⟩;have n0_:=Aside0.mk (Kd.Q_below (by (with_reducible repeat (first|apply Kd.Q_alloc|apply Kd.Q_drewN|apply Kd.Q_drew));exact HO304.out) hb);have n1_:=Aside0.mk (Kd.R_below (by (with_reducible repeat (first|apply y_e|apply y_f|apply y_g));exact HO310.out) hb);have n2_:=Aside0.mk (Kd.R_below (by (with_reducible repeat (first|apply y_e|apply y_f|apply y_g));exact HO316.out) hb);have n3_:=Aside0.mk (blk_below (g:=gb307) (o:=.cells #[.slice Ao9 t302.length co9,.int .i64 t305] 29 (0,0)) (by (with_reducible repeat (first|refine y_b ?_ _|refine y_c ?_|refine y_d ?_ _));exact BK307.out) hb);have n4_:=Aside0.mk (blk_below (g:=gb313) (o:=.cells #[.slice Ao13 t308.length co13,.int .i64 t311] 29 (0,0)) (by (with_reducible repeat (first|refine y_b ?_ _|refine y_c ?_|refine y_d ?_ _));exact BK313.out) hb);have n5_:=Aside0.mk (blk_below (g:=gb319) (o:=.cells #[.slice Ao19 t314.length co19,.int .i64 t317] 29 (0,0)) (by (with_reducible repeat (first|refine y_b ?_ _|refine y_c ?_|refine y_d ?_ _));exact BK319.out) hb);have n6_:=Aside0.mk (below_step (by repeat (first|(with_reducible first|exact HB.out|apply y_h|apply y_i|apply y_j|refine y_s ?_ GE307.out|refine y_s ?_ GE313.out|refine y_s ?_ GE319.out)|exact HB.out)) hb);clear HO304 HO310 HO316 BK307 BK313 BK319 HB;have HO304:=n0_;have HO310:=n1_;have HO316:=n2_;have BK307:=n3_;have BK313:=n4_;have BK319:=n5_;have HB:=n6_;clear n0_ n1_ n2_ n3_ n4_ n5_ n6_;(try clear hb);(try clear hb2);(try clear hk);(try clear hi)))
     go_meet
     case rel => exact ⟨_,(!t321),(by first|rfl|(simp;done)|(simp [*];done)),H',⟨by first|omega|exact Nat.le_refl _⟩,⟨by (with_reducible repeat (first|apply Kd.Q_alloc|apply Kd.Q_drewN|apply Kd.Q_drew));exact Kd.Q_mono HO304.out (fun _ hk => ⟨hk.1.2,hk.2⟩)⟩,⟨Kd.Q_of_R (by (with_reducible repeat (first|apply y_e|apply y_f|apply y_g));exact y_t HO310.out (fun _ hk => ⟨hk.1.2,hk.2⟩))⟩,⟨Kd.Q_of_R (by (with_reducible repeat (first|apply y_e|apply y_f|apply y_g));exact y_t HO316.out (fun _ hk => ⟨hk.1.2,hk.2⟩))⟩,⟨by (with_reducible repeat (first|refine y_b ?_ _|refine y_c ?_|refine y_d ?_ _));exact BK307.out⟩,⟨by (with_reducible repeat (first|refine y_b ?_ _|refine y_c ?_|refine y_d ?_ _));exact BK313.out⟩,⟨by (with_reducible repeat (first|refine y_b ?_ _|refine y_c ?_|refine y_d ?_ _));exact BK319.out⟩,⟨by repeat (first|(with_reducible first|exact HB.out|apply y_h|apply y_i|apply y_j|refine y_s ?_ GE307.out|refine y_s ?_ GE313.out|refine y_s ?_ GE319.out)|exact HB.out)⟩⟩
    ·replace c25 := Bool.eq_false_iff.mpr c25
     subst c25
     have H1 : (laws_FnPoolLet.j0 k t306 t312 t318 true t302 t305 t308 t311 t314 t317) = some r:=by rw [if_neg (show ¬ (false = true) by decide)] at H;exact H
     clear H
     have H := H1
     clear H1
     have H' := Aside0.mk H
     clear H
     have hnb35 := NB313_307.out
     have hnc35 := NB307_313.out
     have hnb36 := NB313_319.out
     have hnc36 := NB319_313.out
     have hcz37_0 : w18.cell? ⟨gb313,0,none⟩ = some (.slice Ao13 t308.length co13):=(blk_cell BK313.out 0).trans rfl
     have hcz37_1 : w18.cell? ⟨gb313,1,none⟩ = some (.int .i64 t311):=(blk_cell BK313.out 1).trans rfl
     have hfz37_0 := blk_frozen BK313.out 0
     have hfz37_1 := blk_frozen BK313.out 1
     have hnb38 := NB319_307.out
     have hnc38 := NB307_319.out
     have hcz39_0 : w18.cell? ⟨gb319,0,none⟩ = some (.slice none 0 0):=(blk_cell BK319.out 0).trans rfl
     have hcz39_1 : w18.cell? ⟨gb319,1,none⟩ = some (.int .i64 0):=(blk_cell BK319.out 1).trans rfl
     have hfz39_0 := blk_frozen BK319.out 0
     have hfz39_1 := blk_frozen BK319.out 1
     go_wp2_with (first|(go_at_call 25;(with_reducible refine (laws_whPool.calls k _ _ t308 t311 _ _ t314 t317 false _ ?side1 ?side2 ?side3 ?side4 A24.out).mono ?_);(case side1 => refine (Kd.R_reads' (e:=41) (base:=w.heap.size) (ok:=fun k_ => ((True ∧ some k_ ≠ (.slice Ao9 t302.length co9 : Value).ownBlock) ∧ some k_ ≠ (.slice Ao19 t314.length co19 : Value).ownBlock)) (n:=t308.length) (c:=co13) ?_).2.2;exact (by (with_reducible repeat (first|apply y_e|apply y_f|apply y_g));exact (y_t (Kd.R_far (p:=⟨gb319,1,none⟩) (Kd.R_far (p:=⟨gb319,0,none⟩) (Kd.R_types HO310.out BK319.out (by decide)) (fun _ hk => hk.2) (.slice Ao19 t314.length co19)) (fun _ hk => hk.2) (.int .i64 t317)) (fun _ h_ => h_.1))));(case side2 => exact (Kd.R_reads' HO310.out).2.1);(case side3 => refine (Kd.R_reads' (e:=41) (base:=w.heap.size) (ok:=fun k_ => ((True ∧ some k_ ≠ (.slice Ao9 t302.length co9 : Value).ownBlock) ∧ some k_ ≠ (.slice Ao13 t308.length co13 : Value).ownBlock)) (n:=t314.length) (c:=co19) ?_).2.2;exact (by (with_reducible repeat (first|apply y_e|apply y_f|apply y_g));exact (y_t (Kd.R_far (p:=⟨gb319,1,none⟩) (Kd.R_far (p:=⟨gb319,0,none⟩) (Kd.R_types HO316.out BK319.out (by decide)) (fun _ hk => hk.2) (.slice Ao19 t314.length co19)) (fun _ hk => hk.2) (.int .i64 t317)) (fun _ h_ => h_.1))));(case side4 => exact (Kd.R_reads' HO316.out).2.1);rintro e w40 ⟨rfl,hb⟩;have n0_:=Aside0.mk (Kd.Q_below (by (with_reducible repeat (first|apply Kd.Q_alloc|apply Kd.Q_drewN|apply Kd.Q_drew));exact (Kd.Q_mono (Kd.Q_far (p:=⟨gb319,1,none⟩) (Kd.Q_far (p:=⟨gb319,0,none⟩) (Kd.Q_types HO304.out BK319.out (by decide)) (fun _ hk => hk.2) (.slice Ao19 t314.length co19)) (fun _ hk => hk.2) (.int .i64 t317)) (fun _ h_ => h_.1))) hb);have n1_:=Aside0.mk (Kd.R_below (by (with_reducible repeat (first|apply y_e|apply y_f|apply y_g));exact (y_t (Kd.R_far (p:=⟨gb319,1,none⟩) (Kd.R_far (p:=⟨gb319,0,none⟩) (Kd.R_types HO310.out BK319.out (by decide)) (fun _ hk => hk.2) (.slice Ao19 t314.length co19)) (fun _ hk => hk.2) (.int .i64 t317)) (fun _ h_ => h_.1))) hb);have n2_:=Aside0.mk (Kd.R_below (by (with_reducible repeat (first|apply y_e|apply y_f|apply y_g));exact (y_t (Kd.R_far (p:=⟨gb319,1,none⟩) (Kd.R_far (p:=⟨gb319,0,none⟩) (Kd.R_types HO316.out BK319.out (by decide)) (fun _ hk => hk.2) (.slice Ao19 t314.length co19)) (fun _ hk => hk.2) (.int .i64 t317)) (fun _ h_ => h_.1))) hb);have n3_:=Aside0.mk (blk_below (g:=gb307) (o:=.cells #[.slice Ao9 t302.length co9,.int .i64 t305] 29 (0,0)) (by (with_reducible repeat (first|refine y_b ?_ _|refine y_c ?_|refine y_d ?_ _));refine blk_far ?_ NB307_319.out _;(with_reducible repeat (first|refine y_b ?_ _|refine y_c ?_|refine y_d ?_ _));refine blk_far ?_ NB307_319.out _;(with_reducible repeat (first|refine y_b ?_ _|refine y_c ?_|refine y_d ?_ _));exact BK307.out) hb);have n4_:=Aside0.mk (blk_below (g:=gb313) (o:=.cells #[.slice Ao13 t308.length co13,.int .i64 t311] 29 (0,0)) (by (with_reducible repeat (first|refine y_b ?_ _|refine y_c ?_|refine y_d ?_ _));refine blk_far ?_ NB313_319.out _;(with_reducible repeat (first|refine y_b ?_ _|refine y_c ?_|refine y_d ?_ _));refine blk_far ?_ NB313_319.out _;(with_reducible repeat (first|refine y_b ?_ _|refine y_c ?_|refine y_d ?_ _));exact BK313.out) hb);have n5_:=Aside0.mk (blk_below (g:=gb319) (o:=.cells #[.slice Ao19 t314.length co19,.int .i64 t317] 29 (0,0)) (by (with_reducible repeat (first|refine y_b ?_ _|refine y_c ?_|refine y_d ?_ _));refine blk_put (cs:=#[.slice Ao19 t314.length co19,.int .i64 0]) ?_ 1 _ rfl;(with_reducible repeat (first|refine y_b ?_ _|refine y_c ?_|refine y_d ?_ _));refine blk_put (cs:=#[.slice none 0 0,.int .i64 0]) ?_ 0 _ rfl;(with_reducible repeat (first|refine y_b ?_ _|refine y_c ?_|refine y_d ?_ _));exact BK319.out) hb);have n6_:=Aside0.mk (below_step (by repeat (first|(with_reducible first|exact HB.out|apply y_h|apply y_i|apply y_j|refine y_s ?_ GE307.out|refine y_s ?_ GE313.out|refine y_s ?_ GE319.out)|exact HB.out)) hb);clear HO304 HO310 HO316 BK307 BK313 BK319 HB;have HO304:=n0_;have HO310:=n1_;have HO316:=n2_;have BK307:=n3_;have BK313:=n4_;have BK319:=n5_;have HB:=n6_;clear n0_ n1_ n2_ n3_ n4_ n5_ n6_;(try clear hb);(try clear hb2);(try clear hk);(try clear hi)))
     go_meet
     case rel => exact ⟨_,(true),(by first|rfl|(simp;done)|(simp [*];done)),H',⟨by first|omega|exact Nat.le_refl _⟩,⟨by (with_reducible repeat (first|apply Kd.Q_alloc|apply Kd.Q_drewN|apply Kd.Q_drew));exact Kd.Q_mono HO304.out (fun _ hk => ⟨hk.1.2,hk.2⟩)⟩,⟨Kd.Q_of_R (by (with_reducible repeat (first|apply y_e|apply y_f|apply y_g));exact y_t HO310.out (fun _ hk => ⟨hk.1.2,hk.2⟩))⟩,⟨Kd.Q_of_R (by (with_reducible repeat (first|apply y_e|apply y_f|apply y_g));exact y_t HO316.out (fun _ hk => ⟨hk.1.2,hk.2⟩))⟩,⟨by (with_reducible repeat (first|refine y_b ?_ _|refine y_c ?_|refine y_d ?_ _));exact BK307.out⟩,⟨by (with_reducible repeat (first|refine y_b ?_ _|refine y_c ?_|refine y_d ?_ _));exact BK313.out⟩,⟨by (with_reducible repeat (first|refine y_b ?_ _|refine y_c ?_|refine y_d ?_ _));exact BK319.out⟩,⟨by repeat (first|(with_reducible first|exact HB.out|apply y_h|apply y_i|apply y_j|refine y_s ?_ GE307.out|refine y_s ?_ GE313.out|refine y_s ?_ GE319.out)|exact HB.out)⟩⟩
  case rest =>
   clear HC6
   try clear c1
   try clear c2
   try clear c2b0
   try clear c2b1
   try clear p2
   try clear c3
   try clear c5
   try clear c14
   try clear c20
   try clear c21
   try clear c22
   try clear c23
   try clear c23b0
   try clear c23b1
   try clear c23b2
   try clear c24
   try clear c25
   try clear c27
   try clear c28
   try clear c30
   try clear c35
   try clear c36
   try clear c38
   try clear hcz10_0
   try clear hcz10_1
   try clear hcz15_0
   try clear hcz15_1
   try clear hcz16_0
   try clear hcz16_1
   try clear hcz22_0
   try clear hcz22_1
   try clear hcz29_0
   try clear hcz29_1
   try clear hcz31_0
   try clear hcz31_1
   try clear hcz33_0
   try clear hcz33_1
   try clear hcz37_0
   try clear hcz37_1
   try clear hcz39_0
   try clear hcz39_1
   try clear hfz10_0
   try clear hfz10_1
   try clear hfz15_0
   try clear hfz15_1
   try clear hfz16_0
   try clear hfz16_1
   try clear hfz22_0
   try clear hfz22_1
   try clear hfz29_0
   try clear hfz29_1
   try clear hfz31_0
   try clear hfz31_1
   try clear hfz33_0
   try clear hfz33_1
   try clear hfz37_0
   try clear hfz37_1
   try clear hfz39_0
   try clear hfz39_1
   obtain ⟨kq,x42_5,rfl,HA,HJ5,HO_308000,HO_314000,HO_320000,BK307,BK313,BK319,HB⟩:=hcut
   cases kq with
   | zero => exact absurd HA.out (by simp [laws_FnPoolLet.j0])
   | succ kj5 =>
    have H := HA.out
    clear HA
    simp only [laws_FnPoolLet.j0] at H
    by_cases c41 : x42_5 = true
    ·subst c41
     have H1 : (if (t312 == t318) = true then ((laws_whPool.f kj5 t308 t311 t314 t317).bind fun t322 => (some t322)) else (some false)) = some r:=by rw [if_pos rfl] at H;exact H
     clear H
     have H := H1
     clear H1
     by_cases c42 : (t312 == t318) = true
     ·rw [if_pos c42] at H
      have c42b0 : (t312 == t318) = true := c42
      (try (have c42b1 : decide (t312 = t318) = true:=by simpa using c42))
      (try (have c42b2 : (t312 == t318) = true:=by simpa using c42))
      clear c42
      replace H := Option.bind_eq_some_iff.mp H
      obtain ⟨t322, A430, H⟩ := H
      replace H : (some t322) = some r := H
      have A43 := Aside0.mk A430
      clear A430
      obtain rfl := Option.some.inj H
      have hnb44 := NB313_307.out
      have hnc44 := NB307_313.out
      have hnb45 := NB313_319.out
      have hnc45 := NB319_313.out
      have hcz46_0 : wc.cell? ⟨gb313,0,none⟩ = some (.slice Ao13 t308.length co13):=(blk_cell BK313.out 0).trans rfl
      have hcz46_1 : wc.cell? ⟨gb313,1,none⟩ = some (.int .i64 t311):=(blk_cell BK313.out 1).trans rfl
      have hfz46_0 := blk_frozen BK313.out 0
      have hfz46_1 := blk_frozen BK313.out 1
      have hnb47 := NB319_307.out
      have hnc47 := NB307_319.out
      have hcz48_0 : wc.cell? ⟨gb319,0,none⟩ = some (.slice Ao19 t314.length co19):=(blk_cell BK319.out 0).trans rfl
      have hcz48_1 : wc.cell? ⟨gb319,1,none⟩ = some (.int .i64 t317):=(blk_cell BK319.out 1).trans rfl
      have hfz48_0 := blk_frozen BK319.out 0
      have hfz48_1 := blk_frozen BK319.out 1
      go_wp2_with (first|(go_at_call 25;(with_reducible refine (laws_whPool.calls kj5 _ _ t308 t311 _ _ t314 t317 t322 _ ?side1 ?side2 ?side3 ?side4 A43.out).mono ?_);(case side1 => repeat (first|exact (Kd.Q_reads' HO_314000.out).2.2|(with_reducible refine y_o ?_ _)|(with_reducible refine y_p ?_ _)|(with_reducible refine y_q ?_)));(case side2 => exact (Kd.Q_reads' HO_314000.out).2.1);(case side3 => repeat (first|exact (Kd.Q_reads' HO_320000.out).2.2|(with_reducible refine y_o ?_ _)|(with_reducible refine y_p ?_ _)|(with_reducible refine y_q ?_)));(case side4 => exact (Kd.Q_reads' HO_320000.out).2.1);rintro e w49 ⟨rfl,hb⟩;have n0_:=Aside0.mk (Kd.Q_below (by (with_reducible repeat (first|apply Kd.Q_alloc|apply Kd.Q_drewN|apply Kd.Q_drew));exact HO_308000.out) hb);have n1_:=Aside0.mk (Kd.Q_below (by (with_reducible repeat (first|apply Kd.Q_alloc|apply Kd.Q_drewN|apply Kd.Q_drew));exact HO_314000.out) hb);have n2_:=Aside0.mk (Kd.Q_below (by (with_reducible repeat (first|apply Kd.Q_alloc|apply Kd.Q_drewN|apply Kd.Q_drew));exact HO_320000.out) hb);have n3_:=Aside0.mk (blk_below (g:=gb307) (o:=.cells #[.slice Ao9 t302.length co9,.int .i64 t305] 29 (0,0)) (by (with_reducible repeat (first|refine y_b ?_ _|refine y_c ?_|refine y_d ?_ _));exact BK307.out) hb);have n4_:=Aside0.mk (blk_below (g:=gb313) (o:=.cells #[.slice Ao13 t308.length co13,.int .i64 t311] 29 (0,0)) (by (with_reducible repeat (first|refine y_b ?_ _|refine y_c ?_|refine y_d ?_ _));exact BK313.out) hb);have n5_:=Aside0.mk (blk_below (g:=gb319) (o:=.cells #[.slice Ao19 t314.length co19,.int .i64 t317] 29 (0,0)) (by (with_reducible repeat (first|refine y_b ?_ _|refine y_c ?_|refine y_d ?_ _));exact BK319.out) hb);have n6_:=Aside0.mk (below_step (by repeat (first|(with_reducible first|exact HB.out|apply y_h|apply y_i|apply y_j|refine y_s ?_ GE307.out|refine y_s ?_ GE313.out|refine y_s ?_ GE319.out)|exact HB.out)) hb);clear HO_308000 HO_314000 HO_320000 BK307 BK313 BK319 HB;have HO_308000:=n0_;have HO_314000:=n1_;have HO_320000:=n2_;have BK307:=n3_;have BK313:=n4_;have BK319:=n5_;have HB:=n6_;clear n0_ n1_ n2_ n3_ n4_ n5_ n6_;(try clear hb);(try clear hb2);(try clear hk);(try clear hi)))
      go_ret
      exact ⟨by first|rfl|(simp [errW_none,errW_some] <;> rfl)|(simp [*,errW_none,errW_some] <;> rfl),by repeat (first|(with_reducible first|exact HB.out|apply y_h|apply y_i|apply y_j|refine y_s ?_ GE307.out|refine y_s ?_ GE313.out|refine y_s ?_ GE319.out)|exact HB.out)⟩
     ·rw [if_neg c42] at H
      have c42b0 : (t312 == t318) = false := by simpa using c42
      (try (have c42b1 : decide (t312 = t318) = false:=by simpa using c42))
      (try (have c42b2 : (t312 == t318) = false:=by simpa using c42))
      (try (have c42b3 : ¬ (t312 = t318) := by simpa using c42))
      clear c42
      obtain rfl := Option.some.inj H
      go_wp2
      go_ret
      exact ⟨by first|rfl|(simp [errW_none,errW_some] <;> rfl)|(simp [*,errW_none,errW_some] <;> rfl),by repeat (first|(with_reducible first|exact HB.out|apply y_h|apply y_i|apply y_j|refine y_s ?_ GE307.out|refine y_s ?_ GE313.out|refine y_s ?_ GE319.out)|exact HB.out)⟩
    ·replace c41 := Bool.eq_false_iff.mpr c41
     subst c41
     have H1 : (if t312 = true then (if 0 ≤ t306 then (if t306 < (t302.length : Int) then (if t306 < (t308.length : Int) then (if ((rd_T41 t302 t306).f3) = (wrap64 (((rd_T41 t308 t306).f3) + 1)) then ((impl_PoolOk.f kj5 t308 t311).bind fun t325 => (some t325)) else (some false)) else (none)) else (none)) else (none)) else ((laws_whPool.f kj5 t308 t311 t302 t305).bind fun t326 => (if t326 = true then (if t306 < 0 then (some true) else (if t306 ≥ 8 then (some true) else (if 0 ≤ t306 then (if t306 < (t302.length : Int) then (some (((rd_T41 t302 t306).f3) == 0)) else (none)) else (none)))) else (some false)))) = some r:=by rw [if_neg (show ¬ (false = true) by decide)] at H;exact H
     clear H
     have H := H1
     clear H1
     by_cases c50 : t312 = true
     ·subst c50
      have H1 : (if 0 ≤ t306 then (if t306 < (t302.length : Int) then (if t306 < (t308.length : Int) then (if ((rd_T41 t302 t306).f3) = (wrap64 (((rd_T41 t308 t306).f3) + 1)) then ((impl_PoolOk.f kj5 t308 t311).bind fun t325 => (some t325)) else (some false)) else (none)) else (none)) else (none)) = some r:=by rw [if_pos rfl] at H;exact H
      clear H
      have H := H1
      clear H1
      by_cases c51 : 0 ≤ t306
      ·rw [if_pos c51] at H
       have c51b0 : decide (0 ≤ t306) = true := decide_eq_true c51
       clear c51
       by_cases c52 : t306 < (t302.length : Int)
       ·rw [if_pos c52] at H
        have c52b0 : decide (t306 < (t302.length : Int)) = true:=decide_eq_true c52
        clear c52
        by_cases c53 : t306 < (t308.length : Int)
        ·rw [if_pos c53] at H
         have c53b0 : decide (t306 < (t308.length : Int)) = true:=decide_eq_true c53
         clear c53
         by_cases c54 : ((rd_T41 t302 t306).f3) = (wrap64 (((rd_T41 t308 t306).f3) + 1))
         ·rw [if_pos c54] at H
          have c54b0 : (((rd_T41 t302 t306).f3) == (wrap64 (((rd_T41 t308 t306).f3) + 1))) = true:=beq_iff_eq.mpr c54
          have c54b1 : (((rd_T41 t302 t306).f3) != (wrap64 (((rd_T41 t308 t306).f3) + 1))) = false:=bne_eq_false_iff_eq.mpr c54
          clear c54
          replace H := Option.bind_eq_some_iff.mp H
          obtain ⟨t325, A550, H⟩ := H
          replace H : (some t325) = some r := H
          have A55 := Aside0.mk A550
          clear A550
          obtain rfl := Option.some.inj H
          try go_wp2
          have n0_ := Aside0.mk (Kd.Q_drew HO_308000.out)
          have n1_ := Aside0.mk (Kd.Q_drew HO_314000.out)
          have n2_ := Aside0.mk (Kd.Q_drew HO_320000.out)
          have n3_ := Aside0.mk (y_c BK307.out)
          have n4_ := Aside0.mk (y_c BK313.out)
          have n5_ := Aside0.mk (y_c BK319.out)
          have n6_ := Aside0.mk (y_j HB.out)
          clear HO_308000
          clear HO_314000
          clear HO_320000
          clear BK307
          clear BK313
          clear BK319
          clear HB
          have HO_308000 := n0_
          have HO_314000 := n1_
          have HO_320000 := n2_
          have BK307 := n3_
          have BK313 := n4_
          have BK319 := n5_
          have HB := n6_
          clear n0_ n1_ n2_ n3_ n4_ n5_ n6_
          have p323 : 0 ≤ (t306 : Int):=of_decide_eq_true (by first|(with_reducible assumption)|assumption)
          have q323 : t306 < (t302.length : Int):=of_decide_eq_true (by first|(with_reducible assumption)|assumption)
          obtain ⟨ad323,e323,hx323_0,hx323_1,hx323_2,hx323_3,hx323_4⟩:=at_T41 (Kd.Q_reads' HO_308000.out).2.2 t306 p323 q323
          cases e323
          replace p323 := eq_true p323
          replace q323 := eq_true q323
          have p324 : 0 ≤ (t306 : Int):=of_decide_eq_true (by first|(with_reducible assumption)|assumption)
          have q324 : t306 < (t308.length : Int):=of_decide_eq_true (by first|(with_reducible assumption)|assumption)
          obtain ⟨ad324,e324,hx324_0,hx324_1,hx324_2,hx324_3,hx324_4⟩:=at_T41 (Kd.Q_reads' HO_314000.out).2.2 t306 p324 q324
          cases e324
          replace p324 := eq_true p324
          replace q324 := eq_true q324
          refine start_ (n:=19) (S:=fun w' => w'.cell? ⟨gb307,0,none⟩ = some (.slice (some ad323) t302.length co9) ∧ w'.cell? ⟨gb307,1,none⟩ = some (.int .i64 t305) ∧ w'.cell? ⟨gb313,0,none⟩ = some (.slice (some ad324) t308.length co13) ∧ w'.cell? ⟨gb313,1,none⟩ = some (.int .i64 t311) ∧ w'.cell? (ad323.add ((t306).toNat * 5)) = some (.int .i64 ((rd_T41 t302 t306).f0)) ∧ w'.cell? ⟨(ad323.add ((t306).toNat * 5)).block,(ad323.add ((t306).toNat * 5)).off + 1,none⟩ = some (.int .i64 ((rd_T41 t302 t306).f1)) ∧ w'.cell? ⟨(ad323.add ((t306).toNat * 5)).block,(ad323.add ((t306).toNat * 5)).off + 2,none⟩ = some (.int .i64 ((rd_T41 t302 t306).f2)) ∧ w'.cell? ⟨(ad323.add ((t306).toNat * 5)).block,(ad323.add ((t306).toNat * 5)).off + 3,none⟩ = some (.int .i64 ((rd_T41 t302 t306).f3)) ∧ w'.cell? ⟨(ad323.add ((t306).toNat * 5)).block,(ad323.add ((t306).toNat * 5)).off + 4,none⟩ = some (.bool ((rd_T41 t302 t306).f4)) ∧ w'.cell? (ad324.add ((t306).toNat * 5)) = some (.int .i64 ((rd_T41 t308 t306).f0)) ∧ w'.cell? ⟨(ad324.add ((t306).toNat * 5)).block,(ad324.add ((t306).toNat * 5)).off + 1,none⟩ = some (.int .i64 ((rd_T41 t308 t306).f1)) ∧ w'.cell? ⟨(ad324.add ((t306).toNat * 5)).block,(ad324.add ((t306).toNat * 5)).off + 2,none⟩ = some (.int .i64 ((rd_T41 t308 t306).f2)) ∧ w'.cell? ⟨(ad324.add ((t306).toNat * 5)).block,(ad324.add ((t306).toNat * 5)).off + 3,none⟩ = some (.int .i64 ((rd_T41 t308 t306).f3)) ∧ w'.cell? ⟨(ad324.add ((t306).toNat * 5)).block,(ad324.add ((t306).toNat * 5)).off + 4,none⟩ = some (.bool ((rd_T41 t308 t306).f4))) (ds:=[]) #[false,false,false,false,false,false,false,false,false,false,false,false,false,false,false,false,false,false,false] (by kernel_rfl) rfl rfl ⟨(blk_cell BK307.out 0).trans rfl,(blk_cell BK307.out 1).trans rfl,(blk_cell BK313.out 0).trans rfl,(blk_cell BK313.out 1).trans rfl,hx323_0,hx323_1,hx323_2,hx323_3,hx323_4,hx324_0,hx324_1,hx324_2,hx324_3,hx324_4⟩ (fun hHeld => ?_);refine with_tabW laws_FnPoolLet.tab10 laws_FnPoolLet.bits10 (fun HT_ HW_ => ?_)
          generalize wc.drew = w56 at HO_308000 HO_314000 HO_320000 BK307 BK313 BK319 HB hx323_0 hx323_1 hx323_2 hx323_3 hx323_4 hx324_0 hx324_1 hx324_2 hx324_3 hx324_4 hHeld ⊢
          refine pure_ (i:=0) (N:=some 73) (v:=?_) (a':=?_) #[true,false,false,false,false,false,false,false,false,false,false,false,false,false,false,false,false,false,false] rfl rfl (any_of HT_.out (by kernel_rfl)) (fun _ _ _ h => h) (Or.inl ⟨by rfl,?_⟩) ?_ ?_
          rotate_left
          ·intro w'
           go_simp
           with_reducible rfl
          rotate_left
          ·simp only [Act.put,List.setIfInBounds_toArray,List.set_cons_zero,List.set_cons_succ,i64_w,i32_w]
           rfl
          refine pure_ (i:=2) (N:=some 75) (v:=?_) (a':=?_) #[true,false,true,false,false,false,false,false,false,false,false,false,false,false,false,false,false,false,false] rfl rfl (any_of HT_.out (by kernel_rfl)) (fun _ _ _ h => h) (Or.inl ⟨by rfl,?_⟩) ?_ ?_
          rotate_left
          ·intro w'
           go_simp
           with_reducible rfl
          rotate_left
          ·simp only [Act.put,List.setIfInBounds_toArray,List.set_cons_zero,List.set_cons_succ,i64_w,i32_w]
           rfl
          refine pure_ (i:=6) (N:=some 79) (v:=?_) (a':=?_) #[true,false,true,false,false,false,true,false,false,false,false,false,false,false,false,false,false,false,false] rfl rfl (any_of HT_.out (by kernel_rfl)) (fun _ _ _ h => h) (Or.inl ⟨by rfl,?_⟩) ?_ ?_
          rotate_left
          ·intro w'
           go_simp
           with_reducible rfl
          rotate_left
          ·simp only [Act.put,List.setIfInBounds_toArray,List.set_cons_zero,List.set_cons_succ,i64_w,i32_w]
           rfl
          refine pure_ (i:=8) (N:=some 81) (v:=?_) (a':=?_) #[true,false,true,false,false,false,true,false,true,false,false,false,false,false,false,false,false,false,false] rfl rfl (any_of HT_.out (by kernel_rfl)) (fun _ _ _ h => h) (Or.inl ⟨by rfl,?_⟩) ?_ ?_
          rotate_left
          ·intro w'
           go_simp
           with_reducible rfl
          rotate_left
          ·simp only [Act.put,List.setIfInBounds_toArray,List.set_cons_zero,List.set_cons_succ,i64_w,i32_w]
           rfl
          refine take_ (i:=1) (N:=some 74) (v:=?_) (a':=?_) #[true,true,true,false,false,false,true,false,true,false,false,false,false,false,false,false,false,false,false] rfl rfl (take_ofW HT_.out HW_.out (by kernel_rfl)) (fun _ _ _ h => h) (Or.inl ⟨by rfl,?_⟩) hHeld ?_ ?_
          rotate_left
          ·rintro w' ⟨s0,s1,s2,s3,s4,s5,s6,s7,s8,s9,s10,s11,s12,s13⟩
           go_simp
           with_reducible rfl
          rotate_left
          ·simp only [Act.put,List.setIfInBounds_toArray,List.set_cons_zero,List.set_cons_succ,i64_w,i32_w]
           rfl
          refine pure_ (i:=3) (N:=some 76) (v:=?_) (a':=?_) #[true,true,true,true,false,false,true,false,true,false,false,false,false,false,false,false,false,false,false] rfl rfl (any_of HT_.out (by kernel_rfl)) (fun _ _ _ h => h) (Or.inl ⟨by rfl,?_⟩) ?_ ?_
          rotate_left
          ·intro w'
           go_simp
           with_reducible rfl
          rotate_left
          ·simp only [Act.put,List.setIfInBounds_toArray,List.set_cons_zero,List.set_cons_succ,i64_w,i32_w]
           rfl
          refine pure_ (i:=4) (N:=some 77) (v:=?_) (a':=?_) #[true,true,true,true,true,false,true,false,true,false,false,false,false,false,false,false,false,false,false] rfl rfl (any_of HT_.out (by kernel_rfl)) (fun _ _ _ h => h) (Or.inl ⟨by rfl,?_⟩) ?_ ?_
          rotate_left
          ·intro w'
           go_simp
           with_reducible rfl
          rotate_left
          ·simp only [Act.put,List.setIfInBounds_toArray,List.set_cons_zero,List.set_cons_succ,i64_w,i32_w]
           rfl
          refine take_ (i:=5) (N:=some 78) (v:=?_) (a':=?_) #[true,true,true,true,true,true,true,false,true,false,false,false,false,false,false,false,false,false,false] rfl rfl (take_ofW HT_.out HW_.out (by kernel_rfl)) (fun _ _ _ h => h) (Or.inl ⟨by rfl,?_⟩) hHeld ?_ ?_
          rotate_left
          ·rintro w' ⟨s0,s1,s2,s3,s4,s5,s6,s7,s8,s9,s10,s11,s12,s13⟩
           go_simp
           with_reducible rfl
          rotate_left
          ·simp only [Act.put,List.setIfInBounds_toArray,List.set_cons_zero,List.set_cons_succ,i64_w,i32_w]
           rfl
          refine take_ (i:=7) (N:=some 80) (v:=?_) (a':=?_) #[true,true,true,true,true,true,true,true,true,false,false,false,false,false,false,false,false,false,false] rfl rfl (take_ofW HT_.out HW_.out (by kernel_rfl)) (fun _ _ _ h => h) (Or.inl ⟨by rfl,?_⟩) hHeld ?_ ?_
          rotate_left
          ·rintro w' ⟨s0,s1,s2,s3,s4,s5,s6,s7,s8,s9,s10,s11,s12,s13⟩
           go_simp
           with_reducible rfl
          rotate_left
          ·simp only [Act.put,List.setIfInBounds_toArray,List.set_cons_zero,List.set_cons_succ,i64_w,i32_w]
           rfl
          refine pure_ (i:=9) (N:=some 82) (v:=?_) (a':=?_) #[true,true,true,true,true,true,true,true,true,true,false,false,false,false,false,false,false,false,false] rfl rfl (any_of HT_.out (by kernel_rfl)) (fun _ _ _ h => h) (Or.inl ⟨by rfl,?_⟩) ?_ ?_
          rotate_left
          ·intro w'
           go_simp
           with_reducible rfl
          rotate_left
          ·simp only [Act.put,List.setIfInBounds_toArray,List.set_cons_zero,List.set_cons_succ,i64_w,i32_w]
           rfl
          refine pure_ (i:=10) (N:=some 83) (v:=?_) (a':=?_) #[true,true,true,true,true,true,true,true,true,true,true,false,false,false,false,false,false,false,false] rfl rfl (any_of HT_.out (by kernel_rfl)) (fun _ _ _ h => h) (Or.inl ⟨by rfl,?_⟩) ?_ ?_
          rotate_left
          ·intro w'
           go_simp
           with_reducible rfl
          rotate_left
          ·simp only [Act.put,List.setIfInBounds_toArray,List.set_cons_zero,List.set_cons_succ,i64_w,i32_w]
           rfl
          refine take_ (i:=11) (N:=some 84) (v:=?_) (a':=?_) #[true,true,true,true,true,true,true,true,true,true,true,true,false,false,false,false,false,false,false] rfl rfl (take_ofW HT_.out HW_.out (by kernel_rfl)) (fun _ _ _ h => h) (Or.inl ⟨by rfl,?_⟩) hHeld ?_ ?_
          rotate_left
          ·rintro w' ⟨s0,s1,s2,s3,s4,s5,s6,s7,s8,s9,s10,s11,s12,s13⟩
           go_simp
           with_reducible rfl
          rotate_left
          ·simp only [Act.put,List.setIfInBounds_toArray,List.set_cons_zero,List.set_cons_succ,i64_w,i32_w]
           rfl
          refine pure_ (i:=12) (N:=some 85) (v:=?_) (a':=?_) #[true,true,true,true,true,true,true,true,true,true,true,true,true,false,false,false,false,false,false] rfl rfl (any_of HT_.out (by kernel_rfl)) (fun _ _ _ h => h) (Or.inl ⟨by rfl,?_⟩) ?_ ?_
          rotate_left
          ·intro w'
           go_simp
           with_reducible rfl
          rotate_left
          ·simp only [Act.put,List.setIfInBounds_toArray,List.set_cons_zero,List.set_cons_succ,i64_w,i32_w]
           rfl
          refine pure_ (i:=13) (N:=some 86) (v:=?_) (a':=?_) #[true,true,true,true,true,true,true,true,true,true,true,true,true,true,false,false,false,false,false] rfl rfl (any_of HT_.out (by kernel_rfl)) (fun _ _ _ h => h) (Or.inl ⟨by rfl,?_⟩) ?_ ?_
          rotate_left
          ·intro w'
           go_simp
           with_reducible rfl
          rotate_left
          ·simp only [Act.put,List.setIfInBounds_toArray,List.set_cons_zero,List.set_cons_succ,i64_w,i32_w]
           rfl
          refine pure_ (i:=14) (N:=some 87) (v:=?_) (a':=?_) #[true,true,true,true,true,true,true,true,true,true,true,true,true,true,true,false,false,false,false] rfl rfl (any_of HT_.out (by kernel_rfl)) (fun _ _ _ h => h) (Or.inl ⟨by rfl,?_⟩) ?_ ?_
          rotate_left
          ·intro w'
           go_simp
           with_reducible rfl
          rotate_left
          ·simp only [Act.put,List.setIfInBounds_toArray,List.set_cons_zero,List.set_cons_succ,i64_w,i32_w]
           rfl
          refine take_ (i:=15) (N:=some 88) (v:=?_) (a':=?_) #[true,true,true,true,true,true,true,true,true,true,true,true,true,true,true,true,false,false,false] rfl rfl (take_ofW HT_.out HW_.out (by kernel_rfl)) (fun _ _ _ h => h) (Or.inl ⟨by rfl,?_⟩) hHeld ?_ ?_
          rotate_left
          ·rintro w' ⟨s0,s1,s2,s3,s4,s5,s6,s7,s8,s9,s10,s11,s12,s13⟩
           go_simp
           with_reducible rfl
          rotate_left
          ·simp only [Act.put,List.setIfInBounds_toArray,List.set_cons_zero,List.set_cons_succ,i64_w,i32_w]
           rfl
          refine one_ (i:=16) (N:=some 89) #[true,true,true,true,true,true,true,true,true,true,true,true,true,true,true,true,true,false,false] rfl rfl (one_of HT_.out (by kernel_rfl)) (by decide) (fun K hK => ?_)
          refine goes_ Try.func18 (by kernel_rfl) rfl #[.agg #[.slice (some ad324) t308.length co13,.int .i64 t311]] (by rfl) rfl rfl (by (try simp only [List.map_toArray,List.map_cons,List.map_nil]);first|done|rfl|(simp only [List.length_drop,List.length_take];rfl)) ?_
          with_reducible refine (impl_PoolOk.calls kj5 _ _ t308 t311 t325 _ ?side1 ?side2 A55.out).mono ?_
          (case side1 => repeat (first|exact (Kd.Q_reads' HO_314000.out).2.2|(with_reducible refine y_o ?_ _)|(with_reducible refine y_p ?_ _)|(with_reducible refine y_q ?_)))
          (case side2 => exact (Kd.Q_reads' HO_314000.out).2.1)
          rintro e w57 ⟨rfl, hb⟩
          have HS4_:=(hb.cell (World.block_lt_of_cell? _ _ (hHeld.2.2.2.2.1))).trans (hHeld.2.2.2.2.1)
          have HS5_:=(hb.cell (World.block_lt_of_cell? _ _ (hHeld.2.2.2.2.2.1))).trans (hHeld.2.2.2.2.2.1)
          have HS6_:=(hb.cell (World.block_lt_of_cell? _ _ (hHeld.2.2.2.2.2.2.1))).trans (hHeld.2.2.2.2.2.2.1)
          have HS7_:=(hb.cell (World.block_lt_of_cell? _ _ (hHeld.2.2.2.2.2.2.2.1))).trans (hHeld.2.2.2.2.2.2.2.1)
          have HS8_:=(hb.cell (World.block_lt_of_cell? _ _ (hHeld.2.2.2.2.2.2.2.2.1))).trans (hHeld.2.2.2.2.2.2.2.2.1)
          have HS9_:=(hb.cell (World.block_lt_of_cell? _ _ (hHeld.2.2.2.2.2.2.2.2.2.1))).trans (hHeld.2.2.2.2.2.2.2.2.2.1)
          have HS10_:=(hb.cell (World.block_lt_of_cell? _ _ (hHeld.2.2.2.2.2.2.2.2.2.2.1))).trans (hHeld.2.2.2.2.2.2.2.2.2.2.1)
          have HS11_:=(hb.cell (World.block_lt_of_cell? _ _ (hHeld.2.2.2.2.2.2.2.2.2.2.2.1))).trans (hHeld.2.2.2.2.2.2.2.2.2.2.2.1)
          have HS12_:=(hb.cell (World.block_lt_of_cell? _ _ (hHeld.2.2.2.2.2.2.2.2.2.2.2.2.1))).trans (hHeld.2.2.2.2.2.2.2.2.2.2.2.2.1)
          have HS13_:=(hb.cell (World.block_lt_of_cell? _ _ (hHeld.2.2.2.2.2.2.2.2.2.2.2.2.2))).trans (hHeld.2.2.2.2.2.2.2.2.2.2.2.2.2)
          refine ⟨_, rfl, ?_⟩
          have n0_:=Aside0.mk (Kd.Q_below (by (with_reducible repeat (first|apply Kd.Q_alloc|apply Kd.Q_drewN|apply Kd.Q_drew));exact HO_308000.out) hb)
          have n1_:=Aside0.mk (Kd.Q_below (by (with_reducible repeat (first|apply Kd.Q_alloc|apply Kd.Q_drewN|apply Kd.Q_drew));exact HO_314000.out) hb)
          have n2_:=Aside0.mk (Kd.Q_below (by (with_reducible repeat (first|apply Kd.Q_alloc|apply Kd.Q_drewN|apply Kd.Q_drew));exact HO_320000.out) hb)
          have n3_:=Aside0.mk (blk_below (g:=gb307) (o:=.cells #[.slice (some ad323) t302.length co9,.int .i64 t305] 29 (0,0)) (by (with_reducible repeat (first|refine y_b ?_ _|refine y_c ?_|refine y_d ?_ _));exact BK307.out) hb)
          have n4_:=Aside0.mk (blk_below (g:=gb313) (o:=.cells #[.slice (some ad324) t308.length co13,.int .i64 t311] 29 (0,0)) (by (with_reducible repeat (first|refine y_b ?_ _|refine y_c ?_|refine y_d ?_ _));exact BK313.out) hb)
          have n5_:=Aside0.mk (blk_below (g:=gb319) (o:=.cells #[.slice Ao19 t314.length co19,.int .i64 t317] 29 (0,0)) (by (with_reducible repeat (first|refine y_b ?_ _|refine y_c ?_|refine y_d ?_ _));exact BK319.out) hb)
          have n6_:=Aside0.mk (below_step (by repeat (first|(with_reducible first|exact HB.out|apply y_h|apply y_i|apply y_j|refine y_s ?_ GE307.out|refine y_s ?_ GE313.out|refine y_s ?_ GE319.out)|exact HB.out)) hb)
          clear HO_308000
          clear HO_314000
          clear HO_320000
          clear BK307
          clear BK313
          clear BK319
          clear HB
          have HO_308000 := n0_
          have HO_314000 := n1_
          have HO_320000 := n2_
          have BK307 := n3_
          have BK313 := n4_
          have BK319 := n5_
          have HB := n6_
          clear n0_ n1_ n2_ n3_ n4_ n5_ n6_
          (try clear hb)
          (try clear hb2)
          (try clear hk)
          (try clear hi)
          refine hK.out _ _ ⟨(blk_cell BK307.out 0).trans rfl,(blk_cell BK307.out 1).trans rfl,(blk_cell BK313.out 0).trans rfl,(blk_cell BK313.out 1).trans rfl,HS4_,HS5_,HS6_,HS7_,HS8_,HS9_,HS10_,HS11_,HS12_,HS13_⟩ (fun hHeld => ?_)
          clear hK K
          refine norm_ (a' := ?_) ?_ ?_
          rotate_left
          ·show Act.put _ (some 89) _ = _
           simp only [Act.put,List.setIfInBounds_toArray,List.set_cons_zero,List.set_cons_succ,i64_w,i32_w]
           rfl
          refine pure_ (i:=17) (N:=some 90) (v:=?_) (a':=?_) #[true,true,true,true,true,true,true,true,true,true,true,true,true,true,true,true,true,true,false] rfl rfl (any_of HT_.out (by kernel_rfl)) (fun _ _ _ h => h) (Or.inl ⟨by rfl,?_⟩) ?_ ?_
          rotate_left
          ·intro w'
           go_simp
           with_reducible rfl
          rotate_left
          ·simp only [Act.put,List.setIfInBounds_toArray,List.set_cons_zero,List.set_cons_succ,i64_w,i32_w]
           rfl
          refine pure_ (i:=18) (N:=some 2) (v:=?_) (a':=?_) #[true,true,true,true,true,true,true,true,true,true,true,true,true,true,true,true,true,true,true] rfl rfl (any_of HT_.out (by kernel_rfl)) (fun _ _ _ h => h) (Or.inl ⟨by rfl,?_⟩) ?_ ?_
          rotate_left
          ·intro w'
           go_simp
           with_reducible rfl
          rotate_left
          ·simp only [Act.put,List.setIfInBounds_toArray,List.set_cons_zero,List.set_cons_succ,i64_w,i32_w]
           rfl
          refine done_ (done_of HT_.out (by kernel_rfl)) ?_
          try go_wp2
          go_ret
          exact ⟨by first|rfl|(simp [errW_none,errW_some] <;> rfl)|(simp [*,errW_none,errW_some] <;> rfl),by repeat (first|(with_reducible first|exact HB.out|apply y_h|apply y_i|apply y_j|refine y_s ?_ GE307.out|refine y_s ?_ GE313.out|refine y_s ?_ GE319.out)|exact HB.out)⟩
         ·rw [if_neg c54] at H
          have c54b0 : (((rd_T41 t302 t306).f3) == (wrap64 (((rd_T41 t308 t306).f3) + 1))) = false:=beq_eq_false_iff_ne.mpr c54
          have c54b1 : (((rd_T41 t302 t306).f3) != (wrap64 (((rd_T41 t308 t306).f3) + 1))) = true:=bne_iff_ne.mpr c54
          obtain rfl := Option.some.inj H
          try go_wp2
          have n0_ := Aside0.mk (Kd.Q_drew HO_308000.out)
          have n1_ := Aside0.mk (Kd.Q_drew HO_314000.out)
          have n2_ := Aside0.mk (Kd.Q_drew HO_320000.out)
          have n3_ := Aside0.mk (y_c BK307.out)
          have n4_ := Aside0.mk (y_c BK313.out)
          have n5_ := Aside0.mk (y_c BK319.out)
          have n6_ := Aside0.mk (y_j HB.out)
          clear HO_308000
          clear HO_314000
          clear HO_320000
          clear BK307
          clear BK313
          clear BK319
          clear HB
          have HO_308000 := n0_
          have HO_314000 := n1_
          have HO_320000 := n2_
          have BK307 := n3_
          have BK313 := n4_
          have BK319 := n5_
          have HB := n6_
          clear n0_ n1_ n2_ n3_ n4_ n5_ n6_
          have p323 : 0 ≤ (t306 : Int):=of_decide_eq_true (by first|(with_reducible assumption)|assumption)
          have q323 : t306 < (t302.length : Int):=of_decide_eq_true (by first|(with_reducible assumption)|assumption)
          obtain ⟨ad323,e323,hx323_0,hx323_1,hx323_2,hx323_3,hx323_4⟩:=at_T41 (Kd.Q_reads' HO_308000.out).2.2 t306 p323 q323
          cases e323
          replace p323 := eq_true p323
          replace q323 := eq_true q323
          have p324 : 0 ≤ (t306 : Int):=of_decide_eq_true (by first|(with_reducible assumption)|assumption)
          have q324 : t306 < (t308.length : Int):=of_decide_eq_true (by first|(with_reducible assumption)|assumption)
          obtain ⟨ad324,e324,hx324_0,hx324_1,hx324_2,hx324_3,hx324_4⟩:=at_T41 (Kd.Q_reads' HO_314000.out).2.2 t306 p324 q324
          cases e324
          replace p324 := eq_true p324
          replace q324 := eq_true q324
          refine start_ (n:=19) (S:=fun w' => w'.cell? ⟨gb307,0,none⟩ = some (.slice (some ad323) t302.length co9) ∧ w'.cell? ⟨gb307,1,none⟩ = some (.int .i64 t305) ∧ w'.cell? ⟨gb313,0,none⟩ = some (.slice (some ad324) t308.length co13) ∧ w'.cell? ⟨gb313,1,none⟩ = some (.int .i64 t311) ∧ w'.cell? (ad323.add ((t306).toNat * 5)) = some (.int .i64 ((rd_T41 t302 t306).f0)) ∧ w'.cell? ⟨(ad323.add ((t306).toNat * 5)).block,(ad323.add ((t306).toNat * 5)).off + 1,none⟩ = some (.int .i64 ((rd_T41 t302 t306).f1)) ∧ w'.cell? ⟨(ad323.add ((t306).toNat * 5)).block,(ad323.add ((t306).toNat * 5)).off + 2,none⟩ = some (.int .i64 ((rd_T41 t302 t306).f2)) ∧ w'.cell? ⟨(ad323.add ((t306).toNat * 5)).block,(ad323.add ((t306).toNat * 5)).off + 3,none⟩ = some (.int .i64 ((rd_T41 t302 t306).f3)) ∧ w'.cell? ⟨(ad323.add ((t306).toNat * 5)).block,(ad323.add ((t306).toNat * 5)).off + 4,none⟩ = some (.bool ((rd_T41 t302 t306).f4)) ∧ w'.cell? (ad324.add ((t306).toNat * 5)) = some (.int .i64 ((rd_T41 t308 t306).f0)) ∧ w'.cell? ⟨(ad324.add ((t306).toNat * 5)).block,(ad324.add ((t306).toNat * 5)).off + 1,none⟩ = some (.int .i64 ((rd_T41 t308 t306).f1)) ∧ w'.cell? ⟨(ad324.add ((t306).toNat * 5)).block,(ad324.add ((t306).toNat * 5)).off + 2,none⟩ = some (.int .i64 ((rd_T41 t308 t306).f2)) ∧ w'.cell? ⟨(ad324.add ((t306).toNat * 5)).block,(ad324.add ((t306).toNat * 5)).off + 3,none⟩ = some (.int .i64 ((rd_T41 t308 t306).f3)) ∧ w'.cell? ⟨(ad324.add ((t306).toNat * 5)).block,(ad324.add ((t306).toNat * 5)).off + 4,none⟩ = some (.bool ((rd_T41 t308 t306).f4))) (ds:=[]) #[false,false,false,false,false,false,false,false,false,false,false,false,false,false,false,false,false,false,false] (by kernel_rfl) rfl rfl ⟨(blk_cell BK307.out 0).trans rfl,(blk_cell BK307.out 1).trans rfl,(blk_cell BK313.out 0).trans rfl,(blk_cell BK313.out 1).trans rfl,hx323_0,hx323_1,hx323_2,hx323_3,hx323_4,hx324_0,hx324_1,hx324_2,hx324_3,hx324_4⟩ (fun hHeld => ?_);refine with_tabW laws_FnPoolLet.tab10 laws_FnPoolLet.bits10 (fun HT_ HW_ => ?_)
          generalize wc.drew = w58 at HO_308000 HO_314000 HO_320000 BK307 BK313 BK319 HB hx323_0 hx323_1 hx323_2 hx323_3 hx323_4 hx324_0 hx324_1 hx324_2 hx324_3 hx324_4 hHeld ⊢
          refine pure_ (i:=0) (N:=some 73) (v:=?_) (a':=?_) #[true,false,false,false,false,false,false,false,false,false,false,false,false,false,false,false,false,false,false] rfl rfl (any_of HT_.out (by kernel_rfl)) (fun _ _ _ h => h) (Or.inl ⟨by rfl,?_⟩) ?_ ?_
          rotate_left
          ·intro w'
           go_simp
           with_reducible rfl
          rotate_left
          ·simp only [Act.put,List.setIfInBounds_toArray,List.set_cons_zero,List.set_cons_succ,i64_w,i32_w]
           rfl
          refine pure_ (i:=2) (N:=some 75) (v:=?_) (a':=?_) #[true,false,true,false,false,false,false,false,false,false,false,false,false,false,false,false,false,false,false] rfl rfl (any_of HT_.out (by kernel_rfl)) (fun _ _ _ h => h) (Or.inl ⟨by rfl,?_⟩) ?_ ?_
          rotate_left
          ·intro w'
           go_simp
           with_reducible rfl
          rotate_left
          ·simp only [Act.put,List.setIfInBounds_toArray,List.set_cons_zero,List.set_cons_succ,i64_w,i32_w]
           rfl
          refine pure_ (i:=6) (N:=some 79) (v:=?_) (a':=?_) #[true,false,true,false,false,false,true,false,false,false,false,false,false,false,false,false,false,false,false] rfl rfl (any_of HT_.out (by kernel_rfl)) (fun _ _ _ h => h) (Or.inl ⟨by rfl,?_⟩) ?_ ?_
          rotate_left
          ·intro w'
           go_simp
           with_reducible rfl
          rotate_left
          ·simp only [Act.put,List.setIfInBounds_toArray,List.set_cons_zero,List.set_cons_succ,i64_w,i32_w]
           rfl
          refine pure_ (i:=8) (N:=some 81) (v:=?_) (a':=?_) #[true,false,true,false,false,false,true,false,true,false,false,false,false,false,false,false,false,false,false] rfl rfl (any_of HT_.out (by kernel_rfl)) (fun _ _ _ h => h) (Or.inl ⟨by rfl,?_⟩) ?_ ?_
          rotate_left
          ·intro w'
           go_simp
           with_reducible rfl
          rotate_left
          ·simp only [Act.put,List.setIfInBounds_toArray,List.set_cons_zero,List.set_cons_succ,i64_w,i32_w]
           rfl
          refine take_ (i:=1) (N:=some 74) (v:=?_) (a':=?_) #[true,true,true,false,false,false,true,false,true,false,false,false,false,false,false,false,false,false,false] rfl rfl (take_ofW HT_.out HW_.out (by kernel_rfl)) (fun _ _ _ h => h) (Or.inl ⟨by rfl,?_⟩) hHeld ?_ ?_
          rotate_left
          ·rintro w' ⟨s0,s1,s2,s3,s4,s5,s6,s7,s8,s9,s10,s11,s12,s13⟩
           go_simp
           with_reducible rfl
          rotate_left
          ·simp only [Act.put,List.setIfInBounds_toArray,List.set_cons_zero,List.set_cons_succ,i64_w,i32_w]
           rfl
          refine pure_ (i:=3) (N:=some 76) (v:=?_) (a':=?_) #[true,true,true,true,false,false,true,false,true,false,false,false,false,false,false,false,false,false,false] rfl rfl (any_of HT_.out (by kernel_rfl)) (fun _ _ _ h => h) (Or.inl ⟨by rfl,?_⟩) ?_ ?_
          rotate_left
          ·intro w'
           go_simp
           with_reducible rfl
          rotate_left
          ·simp only [Act.put,List.setIfInBounds_toArray,List.set_cons_zero,List.set_cons_succ,i64_w,i32_w]
           rfl
          refine pure_ (i:=4) (N:=some 77) (v:=?_) (a':=?_) #[true,true,true,true,true,false,true,false,true,false,false,false,false,false,false,false,false,false,false] rfl rfl (any_of HT_.out (by kernel_rfl)) (fun _ _ _ h => h) (Or.inl ⟨by rfl,?_⟩) ?_ ?_
          rotate_left
          ·intro w'
           go_simp
           with_reducible rfl
          rotate_left
          ·simp only [Act.put,List.setIfInBounds_toArray,List.set_cons_zero,List.set_cons_succ,i64_w,i32_w]
           rfl
          refine take_ (i:=5) (N:=some 78) (v:=?_) (a':=?_) #[true,true,true,true,true,true,true,false,true,false,false,false,false,false,false,false,false,false,false] rfl rfl (take_ofW HT_.out HW_.out (by kernel_rfl)) (fun _ _ _ h => h) (Or.inl ⟨by rfl,?_⟩) hHeld ?_ ?_
          rotate_left
          ·rintro w' ⟨s0,s1,s2,s3,s4,s5,s6,s7,s8,s9,s10,s11,s12,s13⟩
           go_simp
           with_reducible rfl
          rotate_left
          ·simp only [Act.put,List.setIfInBounds_toArray,List.set_cons_zero,List.set_cons_succ,i64_w,i32_w]
           rfl
          refine take_ (i:=7) (N:=some 80) (v:=?_) (a':=?_) #[true,true,true,true,true,true,true,true,true,false,false,false,false,false,false,false,false,false,false] rfl rfl (take_ofW HT_.out HW_.out (by kernel_rfl)) (fun _ _ _ h => h) (Or.inl ⟨by rfl,?_⟩) hHeld ?_ ?_
          rotate_left
          ·rintro w' ⟨s0,s1,s2,s3,s4,s5,s6,s7,s8,s9,s10,s11,s12,s13⟩
           go_simp
           with_reducible rfl
          rotate_left
          ·simp only [Act.put,List.setIfInBounds_toArray,List.set_cons_zero,List.set_cons_succ,i64_w,i32_w]
           rfl
          refine pure_ (i:=9) (N:=some 82) (v:=?_) (a':=?_) #[true,true,true,true,true,true,true,true,true,true,false,false,false,false,false,false,false,false,false] rfl rfl (any_of HT_.out (by kernel_rfl)) (fun _ _ _ h => h) (Or.inl ⟨by rfl,?_⟩) ?_ ?_
          rotate_left
          ·intro w'
           go_simp
           with_reducible rfl
          rotate_left
          ·simp only [Act.put,List.setIfInBounds_toArray,List.set_cons_zero,List.set_cons_succ,i64_w,i32_w]
           rfl
          refine pure_ (i:=10) (N:=some 83) (v:=?_) (a':=?_) #[true,true,true,true,true,true,true,true,true,true,true,false,false,false,false,false,false,false,false] rfl rfl (any_of HT_.out (by kernel_rfl)) (fun _ _ _ h => h) (Or.inl ⟨by rfl,?_⟩) ?_ ?_
          rotate_left
          ·intro w'
           go_simp
           with_reducible rfl
          rotate_left
          ·simp only [Act.put,List.setIfInBounds_toArray,List.set_cons_zero,List.set_cons_succ,i64_w,i32_w]
           rfl
          refine take_ (i:=11) (N:=some 84) (v:=?_) (a':=?_) #[true,true,true,true,true,true,true,true,true,true,true,true,false,false,false,false,false,false,false] rfl rfl (take_ofW HT_.out HW_.out (by kernel_rfl)) (fun _ _ _ h => h) (Or.inl ⟨by rfl,?_⟩) hHeld ?_ ?_
          rotate_left
          ·rintro w' ⟨s0,s1,s2,s3,s4,s5,s6,s7,s8,s9,s10,s11,s12,s13⟩
           go_simp
           with_reducible rfl
          rotate_left
          ·simp only [Act.put,List.setIfInBounds_toArray,List.set_cons_zero,List.set_cons_succ,i64_w,i32_w]
           rfl
          refine pure_ (i:=12) (N:=some 85) (v:=?_) (a':=?_) #[true,true,true,true,true,true,true,true,true,true,true,true,true,false,false,false,false,false,false] rfl rfl (any_of HT_.out (by kernel_rfl)) (fun _ _ _ h => h) (Or.inl ⟨by rfl,?_⟩) ?_ ?_
          rotate_left
          ·intro w'
           go_simp
           with_reducible rfl
          rotate_left
          ·simp only [Act.put,List.setIfInBounds_toArray,List.set_cons_zero,List.set_cons_succ,i64_w,i32_w]
           rfl
          refine pure_ (i:=13) (N:=some 86) (v:=?_) (a':=?_) #[true,true,true,true,true,true,true,true,true,true,true,true,true,true,false,false,false,false,false] rfl rfl (any_of HT_.out (by kernel_rfl)) (fun _ _ _ h => h) (Or.inl ⟨by rfl,?_⟩) ?_ ?_
          rotate_left
          ·intro w'
           go_simp
           with_reducible rfl
          rotate_left
          ·simp only [Act.put,List.setIfInBounds_toArray,List.set_cons_zero,List.set_cons_succ,i64_w,i32_w]
           rfl
          refine pure_ (i:=14) (N:=some 87) (v:=?_) (a':=?_) #[true,true,true,true,true,true,true,true,true,true,true,true,true,true,true,false,false,false,false] rfl rfl (any_of HT_.out (by kernel_rfl)) (fun _ _ _ h => h) (Or.inl ⟨by rfl,?_⟩) ?_ ?_
          rotate_left
          ·intro w'
           go_simp
           with_reducible rfl
          rotate_left
          ·simp only [Act.put,List.setIfInBounds_toArray,List.set_cons_zero,List.set_cons_succ,i64_w,i32_w]
           rfl
          refine pure_ (i:=15) (N:=some 88) (v:=undef) (a':=?_) #[true,true,true,true,true,true,true,true,true,true,true,true,true,true,true,true,false,false,false] rfl rfl (any_of HT_.out (by kernel_rfl)) (fun _ _ _ h => h) (Or.inr ⟨by rfl,rfl⟩) ?_ ?_
          rotate_left
          ·simp only [Act.put,List.setIfInBounds_toArray,List.set_cons_zero,List.set_cons_succ,i64_w,i32_w]
           rfl
          refine pure_ (i:=16) (N:=some 89) (v:=undef) (a':=?_) #[true,true,true,true,true,true,true,true,true,true,true,true,true,true,true,true,true,false,false] rfl rfl (any_of HT_.out (by kernel_rfl)) (fun _ _ _ h => h) (Or.inr ⟨by rfl,rfl⟩) ?_ ?_
          rotate_left
          ·simp only [Act.put,List.setIfInBounds_toArray,List.set_cons_zero,List.set_cons_succ,i64_w,i32_w]
           rfl
          refine pure_ (i:=17) (N:=some 90) (v:=?_) (a':=?_) #[true,true,true,true,true,true,true,true,true,true,true,true,true,true,true,true,true,true,false] rfl rfl (any_of HT_.out (by kernel_rfl)) (fun _ _ _ h => h) (Or.inl ⟨by rfl,?_⟩) ?_ ?_
          rotate_left
          ·intro w'
           go_simp
           with_reducible rfl
          rotate_left
          ·simp only [Act.put,List.setIfInBounds_toArray,List.set_cons_zero,List.set_cons_succ,i64_w,i32_w]
           rfl
          refine pure_ (i:=18) (N:=some 2) (v:=?_) (a':=?_) #[true,true,true,true,true,true,true,true,true,true,true,true,true,true,true,true,true,true,true] rfl rfl (any_of HT_.out (by kernel_rfl)) (fun _ _ _ h => h) (Or.inl ⟨by rfl,?_⟩) ?_ ?_
          rotate_left
          ·intro w'
           go_simp
           with_reducible rfl
          rotate_left
          ·simp only [Act.put,List.setIfInBounds_toArray,List.set_cons_zero,List.set_cons_succ,i64_w,i32_w]
           rfl
          refine done_ (done_of HT_.out (by kernel_rfl)) ?_
          try go_wp2
          go_ret
          exact ⟨by first|rfl|(simp [errW_none,errW_some] <;> rfl)|(simp [*,errW_none,errW_some] <;> rfl),by repeat (first|(with_reducible first|exact HB.out|apply y_h|apply y_i|apply y_j|refine y_s ?_ GE307.out|refine y_s ?_ GE313.out|refine y_s ?_ GE319.out)|exact HB.out)⟩
        ·rw [if_neg c53] at H
         exact absurd H (by simp)
       ·rw [if_neg c52] at H
        exact absurd H (by simp)
      ·rw [if_neg c51] at H
       exact absurd H (by simp)
     ·replace c50 := Bool.eq_false_iff.mpr c50
      subst c50
      have H1 : ((laws_whPool.f kj5 t308 t311 t302 t305).bind fun t326 => (if t326 = true then (if t306 < 0 then (some true) else (if t306 ≥ 8 then (some true) else (if 0 ≤ t306 then (if t306 < (t302.length : Int) then (some (((rd_T41 t302 t306).f3) == 0)) else (none)) else (none)))) else (some false))) = some r:=by rw [if_neg (show ¬ (false = true) by decide)] at H;exact H
      clear H
      have H := H1
      clear H1
      replace H := Option.bind_eq_some_iff.mp H
      obtain ⟨t326, A590, H⟩ := H
      replace H : (if t326 = true then (if t306 < 0 then (some true) else (if t306 ≥ 8 then (some true) else (if 0 ≤ t306 then (if t306 < (t302.length : Int) then (some (((rd_T41 t302 t306).f3) == 0)) else (none)) else (none)))) else (some false)) = some r:=H
      have A59 := Aside0.mk A590
      clear A590
      by_cases c60 : t326 = true
      ·subst c60
       have H1 : (if t306 < 0 then (some true) else (if t306 ≥ 8 then (some true) else (if 0 ≤ t306 then (if t306 < (t302.length : Int) then (some (((rd_T41 t302 t306).f3) == 0)) else (none)) else (none)))) = some r:=by rw [if_pos rfl] at H;exact H
       clear H
       have H := H1
       clear H1
       by_cases c61 : t306 < 0
       ·rw [if_pos c61] at H
        have c61b0 : decide (t306 < 0) = true := decide_eq_true c61
        clear c61
        obtain rfl := Option.some.inj H
        have hnb62 := NB313_307.out
        have hnc62 := NB307_313.out
        have hnb63 := NB313_319.out
        have hnc63 := NB319_313.out
        have hcz64_0 : wc.cell? ⟨gb313,0,none⟩ = some (.slice Ao13 t308.length co13):=(blk_cell BK313.out 0).trans rfl
        have hcz64_1 : wc.cell? ⟨gb313,1,none⟩ = some (.int .i64 t311):=(blk_cell BK313.out 1).trans rfl
        have hfz64_0 := blk_frozen BK313.out 0
        have hfz64_1 := blk_frozen BK313.out 1
        have hnb65 := NB307_319.out
        have hnc65 := NB319_307.out
        have hcz66_0 : wc.cell? ⟨gb307,0,none⟩ = some (.slice Ao9 t302.length co9):=(blk_cell BK307.out 0).trans rfl
        have hcz66_1 : wc.cell? ⟨gb307,1,none⟩ = some (.int .i64 t305):=(blk_cell BK307.out 1).trans rfl
        have hfz66_0 := blk_frozen BK307.out 0
        have hfz66_1 := blk_frozen BK307.out 1
        go_wp2_with (first|((with_reducible refine gate_callee (f:=25) rfl ?_);refine goesL_ (some 55) rfl rfl Try.func25 (by kernel_rfl) rfl #[.agg #[.slice Ao13 t308.length co13,.int .i64 t311],.agg #[.slice Ao9 t302.length co9,.int .i64 t305]] rfl (by (try simp only [List.map_toArray,List.map_cons,List.map_nil]);first|done|rfl|(simp only [List.length_drop,List.length_take];rfl)) ?_;(with_reducible refine (laws_whPool.calls kj5 _ _ t308 t311 _ _ t302 t305 true _ ?side1 ?side2 ?side3 ?side4 A59.out).mono ?_);(case side1 => repeat (first|exact (Kd.Q_reads' HO_314000.out).2.2|(with_reducible refine y_o ?_ _)|(with_reducible refine y_p ?_ _)|(with_reducible refine y_q ?_)));(case side2 => exact (Kd.Q_reads' HO_314000.out).2.1);(case side3 => repeat (first|exact (Kd.Q_reads' HO_308000.out).2.2|(with_reducible refine y_o ?_ _)|(with_reducible refine y_p ?_ _)|(with_reducible refine y_q ?_)));(case side4 => exact (Kd.Q_reads' HO_308000.out).2.1);rintro e w67 ⟨rfl,hb⟩;refine ⟨_,rfl,?_⟩;have n0_:=Aside0.mk (Kd.Q_below (by (with_reducible repeat (first|apply Kd.Q_alloc|apply Kd.Q_drewN|apply Kd.Q_drew));exact HO_308000.out) hb);have n1_:=Aside0.mk (Kd.Q_below (by (with_reducible repeat (first|apply Kd.Q_alloc|apply Kd.Q_drewN|apply Kd.Q_drew));exact HO_314000.out) hb);have n2_:=Aside0.mk (Kd.Q_below (by (with_reducible repeat (first|apply Kd.Q_alloc|apply Kd.Q_drewN|apply Kd.Q_drew));exact HO_320000.out) hb);have n3_:=Aside0.mk (blk_below (g:=gb307) (o:=.cells #[.slice Ao9 t302.length co9,.int .i64 t305] 29 (0,0)) (by (with_reducible repeat (first|refine y_b ?_ _|refine y_c ?_|refine y_d ?_ _));exact BK307.out) hb);have n4_:=Aside0.mk (blk_below (g:=gb313) (o:=.cells #[.slice Ao13 t308.length co13,.int .i64 t311] 29 (0,0)) (by (with_reducible repeat (first|refine y_b ?_ _|refine y_c ?_|refine y_d ?_ _));exact BK313.out) hb);have n5_:=Aside0.mk (blk_below (g:=gb319) (o:=.cells #[.slice Ao19 t314.length co19,.int .i64 t317] 29 (0,0)) (by (with_reducible repeat (first|refine y_b ?_ _|refine y_c ?_|refine y_d ?_ _));exact BK319.out) hb);have n6_:=Aside0.mk (below_step (by repeat (first|(with_reducible first|exact HB.out|apply y_h|apply y_i|apply y_j|refine y_s ?_ GE307.out|refine y_s ?_ GE313.out|refine y_s ?_ GE319.out)|exact HB.out)) hb);clear HO_308000 HO_314000 HO_320000 BK307 BK313 BK319 HB;have HO_308000:=n0_;have HO_314000:=n1_;have HO_320000:=n2_;have BK307:=n3_;have BK313:=n4_;have BK319:=n5_;have HB:=n6_;clear n0_ n1_ n2_ n3_ n4_ n5_ n6_;(try clear hb);(try clear hb2);(try clear hk);(try clear hi)))
        go_ret
        exact ⟨by first|rfl|(simp [errW_none,errW_some] <;> rfl)|(simp [*,errW_none,errW_some] <;> rfl),by repeat (first|(with_reducible first|exact HB.out|apply y_h|apply y_i|apply y_j|refine y_s ?_ GE307.out|refine y_s ?_ GE313.out|refine y_s ?_ GE319.out)|exact HB.out)⟩
       ·rw [if_neg c61] at H
        have c61b0 : decide (t306 < 0) = false:=decide_eq_false c61
        clear c61
        by_cases c68 : t306 ≥ 8
        ·rw [if_pos c68] at H
         have c68b0 : decide (8 ≤ t306) = true := decide_eq_true c68
         clear c68
         obtain rfl := Option.some.inj H
         have hnb69 := NB313_307.out
         have hnc69 := NB307_313.out
         have hnb70 := NB313_319.out
         have hnc70 := NB319_313.out
         have hcz71_0 : wc.cell? ⟨gb313,0,none⟩ = some (.slice Ao13 t308.length co13):=(blk_cell BK313.out 0).trans rfl
         have hcz71_1 : wc.cell? ⟨gb313,1,none⟩ = some (.int .i64 t311):=(blk_cell BK313.out 1).trans rfl
         have hfz71_0 := blk_frozen BK313.out 0
         have hfz71_1 := blk_frozen BK313.out 1
         have hnb72 := NB307_319.out
         have hnc72 := NB319_307.out
         have hcz73_0 : wc.cell? ⟨gb307,0,none⟩ = some (.slice Ao9 t302.length co9):=(blk_cell BK307.out 0).trans rfl
         have hcz73_1 : wc.cell? ⟨gb307,1,none⟩ = some (.int .i64 t305):=(blk_cell BK307.out 1).trans rfl
         have hfz73_0 := blk_frozen BK307.out 0
         have hfz73_1 := blk_frozen BK307.out 1
         go_wp2_with (first|((with_reducible refine gate_callee (f:=25) rfl ?_);refine goesL_ (some 55) rfl rfl Try.func25 (by kernel_rfl) rfl #[.agg #[.slice Ao13 t308.length co13,.int .i64 t311],.agg #[.slice Ao9 t302.length co9,.int .i64 t305]] rfl (by (try simp only [List.map_toArray,List.map_cons,List.map_nil]);first|done|rfl|(simp only [List.length_drop,List.length_take];rfl)) ?_;(with_reducible refine (laws_whPool.calls kj5 _ _ t308 t311 _ _ t302 t305 true _ ?side1 ?side2 ?side3 ?side4 A59.out).mono ?_);(case side1 => repeat (first|exact (Kd.Q_reads' HO_314000.out).2.2|(with_reducible refine y_o ?_ _)|(with_reducible refine y_p ?_ _)|(with_reducible refine y_q ?_)));(case side2 => exact (Kd.Q_reads' HO_314000.out).2.1);(case side3 => repeat (first|exact (Kd.Q_reads' HO_308000.out).2.2|(with_reducible refine y_o ?_ _)|(with_reducible refine y_p ?_ _)|(with_reducible refine y_q ?_)));(case side4 => exact (Kd.Q_reads' HO_308000.out).2.1);rintro e w74 ⟨rfl,hb⟩;refine ⟨_,rfl,?_⟩;have n0_:=Aside0.mk (Kd.Q_below (by (with_reducible repeat (first|apply Kd.Q_alloc|apply Kd.Q_drewN|apply Kd.Q_drew));exact HO_308000.out) hb);have n1_:=Aside0.mk (Kd.Q_below (by (with_reducible repeat (first|apply Kd.Q_alloc|apply Kd.Q_drewN|apply Kd.Q_drew));exact HO_314000.out) hb);have n2_:=Aside0.mk (Kd.Q_below (by (with_reducible repeat (first|apply Kd.Q_alloc|apply Kd.Q_drewN|apply Kd.Q_drew));exact HO_320000.out) hb);have n3_:=Aside0.mk (blk_below (g:=gb307) (o:=.cells #[.slice Ao9 t302.length co9,.int .i64 t305] 29 (0,0)) (by (with_reducible repeat (first|refine y_b ?_ _|refine y_c ?_|refine y_d ?_ _));exact BK307.out) hb);have n4_:=Aside0.mk (blk_below (g:=gb313) (o:=.cells #[.slice Ao13 t308.length co13,.int .i64 t311] 29 (0,0)) (by (with_reducible repeat (first|refine y_b ?_ _|refine y_c ?_|refine y_d ?_ _));exact BK313.out) hb);have n5_:=Aside0.mk (blk_below (g:=gb319) (o:=.cells #[.slice Ao19 t314.length co19,.int .i64 t317] 29 (0,0)) (by (with_reducible repeat (first|refine y_b ?_ _|refine y_c ?_|refine y_d ?_ _));exact BK319.out) hb);have n6_:=Aside0.mk (below_step (by repeat (first|(with_reducible first|exact HB.out|apply y_h|apply y_i|apply y_j|refine y_s ?_ GE307.out|refine y_s ?_ GE313.out|refine y_s ?_ GE319.out)|exact HB.out)) hb);clear HO_308000 HO_314000 HO_320000 BK307 BK313 BK319 HB;have HO_308000:=n0_;have HO_314000:=n1_;have HO_320000:=n2_;have BK307:=n3_;have BK313:=n4_;have BK319:=n5_;have HB:=n6_;clear n0_ n1_ n2_ n3_ n4_ n5_ n6_;(try clear hb);(try clear hb2);(try clear hk);(try clear hi)))
         go_ret
         exact ⟨by first|rfl|(simp [errW_none,errW_some] <;> rfl)|(simp [*,errW_none,errW_some] <;> rfl),by repeat (first|(with_reducible first|exact HB.out|apply y_h|apply y_i|apply y_j|refine y_s ?_ GE307.out|refine y_s ?_ GE313.out|refine y_s ?_ GE319.out)|exact HB.out)⟩
        ·rw [if_neg c68] at H
         have c68b0 : decide (8 ≤ t306) = false:=decide_eq_false c68
         clear c68
         by_cases c75 : 0 ≤ t306
         ·rw [if_pos c75] at H
          have c75b0 : decide (0 ≤ t306) = true := decide_eq_true c75
          clear c75
          by_cases c76 : t306 < (t302.length : Int)
          ·rw [if_pos c76] at H
           have c76b0 : decide (t306 < (t302.length : Int)) = true:=decide_eq_true c76
           clear c76
           obtain rfl := Option.some.inj H
           have hnb77 := NB313_307.out
           have hnc77 := NB307_313.out
           have hnb78 := NB313_319.out
           have hnc78 := NB319_313.out
           have hcz79_0 : wc.cell? ⟨gb313,0,none⟩ = some (.slice Ao13 t308.length co13):=(blk_cell BK313.out 0).trans rfl
           have hcz79_1 : wc.cell? ⟨gb313,1,none⟩ = some (.int .i64 t311):=(blk_cell BK313.out 1).trans rfl
           have hfz79_0 := blk_frozen BK313.out 0
           have hfz79_1 := blk_frozen BK313.out 1
           have hnb80 := NB307_319.out
           have hnc80 := NB319_307.out
           have hcz81_0 : wc.cell? ⟨gb307,0,none⟩ = some (.slice Ao9 t302.length co9):=(blk_cell BK307.out 0).trans rfl
           have hcz81_1 : wc.cell? ⟨gb307,1,none⟩ = some (.int .i64 t305):=(blk_cell BK307.out 1).trans rfl
           have hfz81_0 := blk_frozen BK307.out 0
           have hfz81_1 := blk_frozen BK307.out 1
           go_wp2_with (first|((with_reducible refine gate_callee (f:=25) rfl ?_);refine goesL_ (some 55) rfl rfl Try.func25 (by kernel_rfl) rfl #[.agg #[.slice Ao13 t308.length co13,.int .i64 t311],.agg #[.slice Ao9 t302.length co9,.int .i64 t305]] rfl (by (try simp only [List.map_toArray,List.map_cons,List.map_nil]);first|done|rfl|(simp only [List.length_drop,List.length_take];rfl)) ?_;(with_reducible refine (laws_whPool.calls kj5 _ _ t308 t311 _ _ t302 t305 true _ ?side1 ?side2 ?side3 ?side4 A59.out).mono ?_);(case side1 => repeat (first|exact (Kd.Q_reads' HO_314000.out).2.2|(with_reducible refine y_o ?_ _)|(with_reducible refine y_p ?_ _)|(with_reducible refine y_q ?_)));(case side2 => exact (Kd.Q_reads' HO_314000.out).2.1);(case side3 => repeat (first|exact (Kd.Q_reads' HO_308000.out).2.2|(with_reducible refine y_o ?_ _)|(with_reducible refine y_p ?_ _)|(with_reducible refine y_q ?_)));(case side4 => exact (Kd.Q_reads' HO_308000.out).2.1);rintro e w82 ⟨rfl,hb⟩;refine ⟨_,rfl,?_⟩;have n0_:=Aside0.mk (Kd.Q_below (by (with_reducible repeat (first|apply Kd.Q_alloc|apply Kd.Q_drewN|apply Kd.Q_drew));exact HO_308000.out) hb);have n1_:=Aside0.mk (Kd.Q_below (by (with_reducible repeat (first|apply Kd.Q_alloc|apply Kd.Q_drewN|apply Kd.Q_drew));exact HO_314000.out) hb);have n2_:=Aside0.mk (Kd.Q_below (by (with_reducible repeat (first|apply Kd.Q_alloc|apply Kd.Q_drewN|apply Kd.Q_drew));exact HO_320000.out) hb);have n3_:=Aside0.mk (blk_below (g:=gb307) (o:=.cells #[.slice Ao9 t302.length co9,.int .i64 t305] 29 (0,0)) (by (with_reducible repeat (first|refine y_b ?_ _|refine y_c ?_|refine y_d ?_ _));exact BK307.out) hb);have n4_:=Aside0.mk (blk_below (g:=gb313) (o:=.cells #[.slice Ao13 t308.length co13,.int .i64 t311] 29 (0,0)) (by (with_reducible repeat (first|refine y_b ?_ _|refine y_c ?_|refine y_d ?_ _));exact BK313.out) hb);have n5_:=Aside0.mk (blk_below (g:=gb319) (o:=.cells #[.slice Ao19 t314.length co19,.int .i64 t317] 29 (0,0)) (by (with_reducible repeat (first|refine y_b ?_ _|refine y_c ?_|refine y_d ?_ _));exact BK319.out) hb);have n6_:=Aside0.mk (below_step (by repeat (first|(with_reducible first|exact HB.out|apply y_h|apply y_i|apply y_j|refine y_s ?_ GE307.out|refine y_s ?_ GE313.out|refine y_s ?_ GE319.out)|exact HB.out)) hb);clear HO_308000 HO_314000 HO_320000 BK307 BK313 BK319 HB;have HO_308000:=n0_;have HO_314000:=n1_;have HO_320000:=n2_;have BK307:=n3_;have BK313:=n4_;have BK319:=n5_;have HB:=n6_;clear n0_ n1_ n2_ n3_ n4_ n5_ n6_;(try clear hb);(try clear hb2);(try clear hk);(try clear hi);have hcz83_0 : w82.cell? ⟨gb307,0,none⟩ = some (.slice Ao9 t302.length co9):=(blk_cell BK307.out 0).trans rfl;have hcz83_1 : w82.cell? ⟨gb307,1,none⟩ = some (.int .i64 t305):=(blk_cell BK307.out 1).trans rfl;have hfz83_0:=blk_frozen BK307.out 0;have hfz83_1:=blk_frozen BK307.out 1;have p327 : 0 ≤ (t306 : Int):=of_decide_eq_true (by first|(with_reducible assumption)|assumption);have q327 : t306 < (t302.length : Int):=of_decide_eq_true (by first|(with_reducible assumption)|assumption);obtain ⟨ad327,e327,hx327_0,hx327_1,hx327_2,hx327_3,hx327_4⟩:=at_T41 (Kd.Q_reads' HO_308000.out).2.2 t306 p327 q327;cases e327;replace p327:=eq_true p327;replace q327:=eq_true q327))
           go_ret
           exact ⟨by first|rfl|(simp [errW_none,errW_some] <;> rfl)|(simp [*,errW_none,errW_some] <;> rfl),by repeat (first|(with_reducible first|exact HB.out|apply y_h|apply y_i|apply y_j|refine y_s ?_ GE307.out|refine y_s ?_ GE313.out|refine y_s ?_ GE319.out)|exact HB.out)⟩
          ·rw [if_neg c76] at H
           exact absurd H (by simp)
         ·rw [if_neg c75] at H
          exact absurd H (by simp)
      ·replace c60 := Bool.eq_false_iff.mpr c60
       subst c60
       have H1 : (some false) = some r:=by rw [if_neg (show ¬ (false = true) by decide)] at H;exact H
       clear H
       have H := H1
       clear H1
       obtain rfl := Option.some.inj H
       have hnb84 := NB313_307.out
       have hnc84 := NB307_313.out
       have hnb85 := NB313_319.out
       have hnc85 := NB319_313.out
       have hcz86_0 : wc.cell? ⟨gb313,0,none⟩ = some (.slice Ao13 t308.length co13):=(blk_cell BK313.out 0).trans rfl
       have hcz86_1 : wc.cell? ⟨gb313,1,none⟩ = some (.int .i64 t311):=(blk_cell BK313.out 1).trans rfl
       have hfz86_0 := blk_frozen BK313.out 0
       have hfz86_1 := blk_frozen BK313.out 1
       have hnb87 := NB307_319.out
       have hnc87 := NB319_307.out
       have hcz88_0 : wc.cell? ⟨gb307,0,none⟩ = some (.slice Ao9 t302.length co9):=(blk_cell BK307.out 0).trans rfl
       have hcz88_1 : wc.cell? ⟨gb307,1,none⟩ = some (.int .i64 t305):=(blk_cell BK307.out 1).trans rfl
       have hfz88_0 := blk_frozen BK307.out 0
       have hfz88_1 := blk_frozen BK307.out 1
       go_wp2_with (first|((with_reducible refine gate_callee (f:=25) rfl ?_);refine goesL_ (some 55) rfl rfl Try.func25 (by kernel_rfl) rfl #[.agg #[.slice Ao13 t308.length co13,.int .i64 t311],.agg #[.slice Ao9 t302.length co9,.int .i64 t305]] rfl (by (try simp only [List.map_toArray,List.map_cons,List.map_nil]);first|done|rfl|(simp only [List.length_drop,List.length_take];rfl)) ?_;(with_reducible refine (laws_whPool.calls kj5 _ _ t308 t311 _ _ t302 t305 false _ ?side1 ?side2 ?side3 ?side4 A59.out).mono ?_);(case side1 => repeat (first|exact (Kd.Q_reads' HO_314000.out).2.2|(with_reducible refine y_o ?_ _)|(with_reducible refine y_p ?_ _)|(with_reducible refine y_q ?_)));(case side2 => exact (Kd.Q_reads' HO_314000.out).2.1);(case side3 => repeat (first|exact (Kd.Q_reads' HO_308000.out).2.2|(with_reducible refine y_o ?_ _)|(with_reducible refine y_p ?_ _)|(with_reducible refine y_q ?_)));(case side4 => exact (Kd.Q_reads' HO_308000.out).2.1);rintro e w89 ⟨rfl,hb⟩;refine ⟨_,rfl,?_⟩;have n0_:=Aside0.mk (Kd.Q_below (by (with_reducible repeat (first|apply Kd.Q_alloc|apply Kd.Q_drewN|apply Kd.Q_drew));exact HO_308000.out) hb);have n1_:=Aside0.mk (Kd.Q_below (by (with_reducible repeat (first|apply Kd.Q_alloc|apply Kd.Q_drewN|apply Kd.Q_drew));exact HO_314000.out) hb);have n2_:=Aside0.mk (Kd.Q_below (by (with_reducible repeat (first|apply Kd.Q_alloc|apply Kd.Q_drewN|apply Kd.Q_drew));exact HO_320000.out) hb);have n3_:=Aside0.mk (blk_below (g:=gb307) (o:=.cells #[.slice Ao9 t302.length co9,.int .i64 t305] 29 (0,0)) (by (with_reducible repeat (first|refine y_b ?_ _|refine y_c ?_|refine y_d ?_ _));exact BK307.out) hb);have n4_:=Aside0.mk (blk_below (g:=gb313) (o:=.cells #[.slice Ao13 t308.length co13,.int .i64 t311] 29 (0,0)) (by (with_reducible repeat (first|refine y_b ?_ _|refine y_c ?_|refine y_d ?_ _));exact BK313.out) hb);have n5_:=Aside0.mk (blk_below (g:=gb319) (o:=.cells #[.slice Ao19 t314.length co19,.int .i64 t317] 29 (0,0)) (by (with_reducible repeat (first|refine y_b ?_ _|refine y_c ?_|refine y_d ?_ _));exact BK319.out) hb);have n6_:=Aside0.mk (below_step (by repeat (first|(with_reducible first|exact HB.out|apply y_h|apply y_i|apply y_j|refine y_s ?_ GE307.out|refine y_s ?_ GE313.out|refine y_s ?_ GE319.out)|exact HB.out)) hb);clear HO_308000 HO_314000 HO_320000 BK307 BK313 BK319 HB;have HO_308000:=n0_;have HO_314000:=n1_;have HO_320000:=n2_;have BK307:=n3_;have BK313:=n4_;have BK319:=n5_;have HB:=n6_;clear n0_ n1_ n2_ n3_ n4_ n5_ n6_;(try clear hb);(try clear hb2);(try clear hk);(try clear hi)))
       go_ret
       exact ⟨by first|rfl|(simp [errW_none,errW_some] <;> rfl)|(simp [*,errW_none,errW_some] <;> rfl),by repeat (first|(with_reducible first|exact HB.out|apply y_h|apply y_i|apply y_j|refine y_s ?_ GE307.out|refine y_s ?_ GE313.out|refine y_s ?_ GE319.out)|exact HB.out)⟩

/-- THE ONE PURE STATEMENT of laws_FnPoolLet: yours. -/
def laws_FnPoolLet.Pure : Prop := ∀ (l0 : List Int), l0.length ≤ maxLen → l0.length * 1 ≤ 140737488351232 → (∀ x ∈ l0, (Lit.int .u8 x).wf = true) → ∃ k, laws_FnPoolLet.f k l0 = some true
theorem laws_FnPoolLet.walk (P : laws_FnPoolLet.Pure) (a0 : Option Addr) (len0 cap0 : Nat) (z0 : List Int) (w : World) (w0 : (a0 = none ∧ len0 = 0 ∧ cap0 = 0 ∧ z0 = []) ∨ ∃ x, a0 = some x ∧ len0 ≤ cap0 ∧ cap0 ≤ maxLen ∧ z0.length = cap0 ∧ (∀ i, i < z0.length → w.cell? (x.add i) = some (.int .u8 (z0.getD i 0))) ∧ ∀ n ∈ z0, (Lit.int .u8 n).wf = true) (y0 : len0 * 1 ≤ 140737488351232) :
  Calls Try.prog 5 #[.slice a0 len0 cap0] w fun e w' => e = .returned (.bool true) ∧ Below w.heap.size w w' := by
 obtain ⟨l0, rfl, hr0, hm0, hw0, hc0⟩ := ReadsInt.ofRowC w0
 obtain ⟨k, h⟩ := P l0 hm0 y0 hw0
 refine (laws_FnPoolLet.calls k _ _ l0 true w (Kd.C_of_reads (d:=(0 : Int)) (h1:=fun _ => rfl) hr0) hc0 h).mono ?_
 rintro e w' ⟨rfl, hd⟩
 exact ⟨rfl, hd⟩

end Go.Proofs.Ytlfnjkcgefcidaa.PFnPoolLet
