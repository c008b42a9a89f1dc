-- Written by a program of this session over the print's form. Lean checks it.
import Derived.Test.YtlfnjkcgefcidaaPFnExactPoolTakex0
import Derived.Test.YtlfnjkcgefcidaaPFnExactPoolTakex2
import Derived.Test.YtlfnjkcgefcidaaPFnExactPoolTakex5
import Derived.Test.YtlfnjkcgefcidaaPFnExactPoolTakex7
import Derived.Test.YtlfnjkcgefcidaaPFnExactPoolTakex12
import Derived.Test.YtlfnjkcgefcidaaPFnExactPoolTakex18
namespace Go.Proofs.Ytlfnjkcgefcidaa.PFnExactPoolTake
open Go.RowKit Go.Proofs.YtlfnjkcgefcidaaW.PrintWords Go.Proofs.YtlfnjkcgefcidaaW.PrintLast Go.Proofs.YtlfnjkcgefcidaaW.PrintMore
attribute [local go_sem] max2_int min2_int max_two min_two max_three min_three max_four min_four   -- for this text's walks alone
set_option linter.unusedVariables false
set_option linter.unusedSimpArgs false

/-! ### laws_FnExactPoolTake: function 13 -/
mutual
def laws_FnExactPoolTake.j0 : Nat → Int → Int → Int → Int → Int → Int → Int → Bool → List (S86) → Int → List (S41) → Int → List (S41) → Int → List (S41) → Int → Option (Bool)
 | 0, _, _, _, _, _, _, _, _, _, _, _, _, _, _, _, _ => none
 | k + 1, x1, x2, x3, x11, x12, x15, x16, x62, x285000, x285001, x297000, x297001, x302000, x302001, x309000, x309001 => if x62 = true then (some false) else ((laws_toPool.f k x285000 x285001).bind fun bt310 => ((laws_eqPool.f k x302000 x302001 bt310.1 bt310.2).bind fun t314 => (if t314 = true then ((laws_markPool.f k x302000 x302001 1).bind fun bt315 => (if bt315.1 < 0 then (laws_FnExactPoolTake.j1 k x1 x2 x3 x11 x12 true x285000 x285001 x297000 x297001 x309000 x309001) else ((laws_eqPool.f k x309000 x309001 x297000 x297001).bind fun t317 => (if t317 = true then (if x15 = x11 then (laws_FnExactPoolTake.j1 k x1 x2 x3 x11 x12 (x16 != x12) x285000 x285001 x297000 x297001 x309000 x309001) else (laws_FnExactPoolTake.j1 k x1 x2 x3 x11 x12 true x285000 x285001 x297000 x297001 x309000 x309001)) else (laws_FnExactPoolTake.j1 k x1 x2 x3 x11 x12 true x285000 x285001 x297000 x297001 x309000 x309001))))) else (some false))))
def laws_FnExactPoolTake.j1 : Nat → Int → Int → Int → Int → Int → Bool → List (S86) → Int → List (S41) → Int → List (S41) → Int → Option (Bool)
 | 0, _, _, _, _, _, _, _, _, _, _, _, _ => none
 | k + 1, x1, x2, x3, x11, x12, x88, x285000, x285001, x297000, x297001, x309000, x309001 => if x88 = true then (some false) else ((laws_markPool.f k x309000 x309001 1).bind fun bt318 => ((laws_heldPool.f k bt318.2 x309001 1).bind fun t320 => (if t320 < 0 then (some false) else (if t320 = bt318.1 then ((laws_toPool.f k x285000 x285001).bind fun bt321 => ((impl_PoolTake.f k bt321.1 bt321.2 x1 x2 x3).bind fun bt325 => ((laws_eqPool.f k bt325.1 bt325.2.1 x297000 x297001).bind fun t332 => (if t332 = true then (if bt325.2.2.1 = x11 then (laws_FnExactPoolTake.j2 k bt318.1 (bt325.2.2.2 != x12) bt318.2 x309001) else (laws_FnExactPoolTake.j2 k bt318.1 true bt318.2 x309001)) else (laws_FnExactPoolTake.j2 k bt318.1 true bt318.2 x309001))))) else (some false)))))
def laws_FnExactPoolTake.j2 : Nat → Int → Bool → List (S41) → Int → Option (Bool)
 | 0, _, _, _, _ => none
 | k + 1, x18, x123, x309000, x309001 => if x123 = true then (some false) else ((laws_heldPool.f k x309000 x309001 1).bind fun t333 => (if t333 < 0 then (some false) else (if t333 = x18 then (some true) else (some false))))
end
def laws_FnExactPoolTake.f (k : Nat) (l0_0 : List (S86)) (a0_1 : Int) (a1 : Int) (a2 : Int) (a3 : Int) : Option (Bool) := (laws_szPool.f l0_0 a0_1 1048576).bind fun t285 => (if t285 < 0 then (some true) else ((laws_toPool.f k l0_0 a0_1).bind fun bt286 => ((spec_PoolTake.f k bt286.1 bt286.2 a1 a2 a3).bind fun bt290 => ((laws_toPool.f k l0_0 a0_1).bind fun bt297 => ((impl_PoolTake.f k bt297.1 bt297.2 a1 a2 a3).bind fun bt302 => ((laws_eqPool.f k bt302.1 bt302.2.1 bt290.1 bt290.2.1).bind fun t309 => (if t309 = true then (if bt302.2.2.1 = bt290.2.2.1 then (laws_FnExactPoolTake.j0 k a1 a2 a3 bt290.2.2.1 bt290.2.2.2 bt302.2.2.1 bt302.2.2.2 (bt302.2.2.2 != bt290.2.2.2) l0_0 a0_1 bt290.1 bt290.2.1 bt297.1 bt297.2 bt302.1 bt302.2.1) else (laws_FnExactPoolTake.j0 k a1 a2 a3 bt290.2.2.1 bt290.2.2.2 bt302.2.2.1 bt302.2.2.2 true l0_0 a0_1 bt290.1 bt290.2.1 bt297.1 bt297.2 bt302.1 bt302.2.1)) else (laws_FnExactPoolTake.j0 k a1 a2 a3 bt290.2.2.1 bt290.2.2.2 bt302.2.2.1 bt302.2.2.2 true l0_0 a0_1 bt290.1 bt290.2.1 bt297.1 bt297.2 bt302.1 bt302.2.1))))))))
theorem laws_FnExactPoolTake.mono_l : ∀ k, (∀ y0 y1 y2 y3 y4 y5 y6 y7 y8 y9 y10 y11 y12 y13 y14 y15, LeO (laws_FnExactPoolTake.j0 k y0 y1 y2 y3 y4 y5 y6 y7 y8 y9 y10 y11 y12 y13 y14 y15) (laws_FnExactPoolTake.j0 (k + 1) y0 y1 y2 y3 y4 y5 y6 y7 y8 y9 y10 y11 y12 y13 y14 y15)) ∧ (∀ y0 y1 y2 y3 y4 y5 y6 y7 y8 y9 y10 y11, LeO (laws_FnExactPoolTake.j1 k y0 y1 y2 y3 y4 y5 y6 y7 y8 y9 y10 y11) (laws_FnExactPoolTake.j1 (k + 1) y0 y1 y2 y3 y4 y5 y6 y7 y8 y9 y10 y11)) ∧ (∀ y0 y1 y2 y3, LeO (laws_FnExactPoolTake.j2 k y0 y1 y2 y3) (laws_FnExactPoolTake.j2 (k + 1) y0 y1 y2 y3))
 | 0 => ⟨fun _ _ _ _ _ _ _ _ _ _ _ _ _ _ _ _ r h => by simp [laws_FnExactPoolTake.j0] at h, fun _ _ _ _ _ _ _ _ _ _ _ _ r h => by simp [laws_FnExactPoolTake.j1] at h, fun _ _ _ _ r h => by simp [laws_FnExactPoolTake.j2] at h⟩
 | k + 1 => by
  obtain ⟨ih0, ih1, ih2⟩ := laws_FnExactPoolTake.mono_l k
  refine ⟨?_, ?_, ?_⟩
  ·intro y0 y1 y2 y3 y4 y5 y6 y7 y8 y9 y10 y11 y12 y13 y14 y15
   unfold laws_FnExactPoolTake.j0
   repeat' first
   | (with_reducible exact ih0 _ _ _ _ _ _ _ _ _ _ _ _ _ _ _ _)
   | (with_reducible exact ih1 _ _ _ _ _ _ _ _ _ _ _ _)
   | (with_reducible exact ih2 _ _ _ _)
   | (with_reducible exact impl_PoolTake.mono _ _ _ _ _ _)
   | (with_reducible exact laws_eqPool.mono _ _ _ _ _)
   | (with_reducible exact laws_heldPool.mono _ _ _ _)
   | (with_reducible exact laws_markPool.mono _ _ _ _)
   | (with_reducible exact laws_toPool.mono _ _ _)
   | (with_reducible exact spec_PoolTake.mono _ _ _ _ _ _)
   | (with_reducible exact LeO.refl _)
   | (with_reducible exact LeO.none _)
   | (with_reducible refine LeO.ite ?_ ?_)
   | (with_reducible refine LeO.bind ?_ (fun _ => ?_))
   | exact ih0 _ _ _ _ _ _ _ _ _ _ _ _ _ _ _ _
   | exact ih1 _ _ _ _ _ _ _ _ _ _ _ _
   | exact ih2 _ _ _ _
   | exact impl_PoolTake.mono _ _ _ _ _ _
   | exact laws_eqPool.mono _ _ _ _ _
   | exact laws_heldPool.mono _ _ _ _
   | exact laws_markPool.mono _ _ _ _
   | exact laws_toPool.mono _ _ _
   | exact spec_PoolTake.mono _ _ _ _ _ _
   | exact LeO.none _
   | refine LeO.ite ?_ ?_
   | refine LeO.bind ?_ (fun _ => ?_)
  ·intro y0 y1 y2 y3 y4 y5 y6 y7 y8 y9 y10 y11
   unfold laws_FnExactPoolTake.j1
   repeat' first
   | (with_reducible exact ih0 _ _ _ _ _ _ _ _ _ _ _ _ _ _ _ _)
   | (with_reducible exact ih1 _ _ _ _ _ _ _ _ _ _ _ _)
   | (with_reducible exact ih2 _ _ _ _)
   | (with_reducible exact impl_PoolTake.mono _ _ _ _ _ _)
   | (with_reducible exact laws_eqPool.mono _ _ _ _ _)
   | (with_reducible exact laws_heldPool.mono _ _ _ _)
   | (with_reducible exact laws_markPool.mono _ _ _ _)
   | (with_reducible exact laws_toPool.mono _ _ _)
   | (with_reducible exact spec_PoolTake.mono _ _ _ _ _ _)
   | (with_reducible exact LeO.refl _)
   | (with_reducible exact LeO.none _)
   | (with_reducible refine LeO.ite ?_ ?_)
   | (with_reducible refine LeO.bind ?_ (fun _ => ?_))
   | exact ih0 _ _ _ _ _ _ _ _ _ _ _ _ _ _ _ _
   | exact ih1 _ _ _ _ _ _ _ _ _ _ _ _
   | exact ih2 _ _ _ _
   | exact impl_PoolTake.mono _ _ _ _ _ _
   | exact laws_eqPool.mono _ _ _ _ _
   | exact laws_heldPool.mono _ _ _ _
   | exact laws_markPool.mono _ _ _ _
   | exact laws_toPool.mono _ _ _
   | exact spec_PoolTake.mono _ _ _ _ _ _
   | exact LeO.none _
   | refine LeO.ite ?_ ?_
   | refine LeO.bind ?_ (fun _ => ?_)
  ·intro y0 y1 y2 y3
   unfold laws_FnExactPoolTake.j2
   repeat' first
   | (with_reducible exact ih0 _ _ _ _ _ _ _ _ _ _ _ _ _ _ _ _)
   | (with_reducible exact ih1 _ _ _ _ _ _ _ _ _ _ _ _)
   | (with_reducible exact ih2 _ _ _ _)
   | (with_reducible exact impl_PoolTake.mono _ _ _ _ _ _)
   | (with_reducible exact laws_eqPool.mono _ _ _ _ _)
   | (with_reducible exact laws_heldPool.mono _ _ _ _)
   | (with_reducible exact laws_markPool.mono _ _ _ _)
   | (with_reducible exact laws_toPool.mono _ _ _)
   | (with_reducible exact spec_PoolTake.mono _ _ _ _ _ _)
   | (with_reducible exact LeO.refl _)
   | (with_reducible exact LeO.none _)
   | (with_reducible refine LeO.ite ?_ ?_)
   | (with_reducible refine LeO.bind ?_ (fun _ => ?_))
   | exact ih0 _ _ _ _ _ _ _ _ _ _ _ _ _ _ _ _
   | exact ih1 _ _ _ _ _ _ _ _ _ _ _ _
   | exact ih2 _ _ _ _
   | exact impl_PoolTake.mono _ _ _ _ _ _
   | exact laws_eqPool.mono _ _ _ _ _
   | exact laws_heldPool.mono _ _ _ _
   | exact laws_markPool.mono _ _ _ _
   | exact laws_toPool.mono _ _ _
   | exact spec_PoolTake.mono _ _ _ _ _ _
   | exact LeO.none _
   | refine LeO.ite ?_ ?_
   | refine LeO.bind ?_ (fun _ => ?_)
theorem laws_FnExactPoolTake.mono : ∀ a0 a1 a2 a3 a4 k, LeO (laws_FnExactPoolTake.f k a0 a1 a2 a3 a4) (laws_FnExactPoolTake.f (k + 1) a0 a1 a2 a3 a4) := by
 intro a0 a1 a2 a3 a4 k
 obtain ⟨ih0, ih1, ih2⟩ := laws_FnExactPoolTake.mono_l k
 unfold laws_FnExactPoolTake.f
 repeat' first
   | (with_reducible exact ih0 _ _ _ _ _ _ _ _ _ _ _ _ _ _ _ _)
   | (with_reducible exact ih1 _ _ _ _ _ _ _ _ _ _ _ _)
   | (with_reducible exact ih2 _ _ _ _)
   | (with_reducible exact impl_PoolTake.mono _ _ _ _ _ _)
   | (with_reducible exact laws_eqPool.mono _ _ _ _ _)
   | (with_reducible exact laws_heldPool.mono _ _ _ _)
   | (with_reducible exact laws_markPool.mono _ _ _ _)
   | (with_reducible exact laws_toPool.mono _ _ _)
   | (with_reducible exact spec_PoolTake.mono _ _ _ _ _ _)
   | (with_reducible exact LeO.refl _)
   | (with_reducible exact LeO.none _)
   | (with_reducible refine LeO.ite ?_ ?_)
   | (with_reducible refine LeO.bind ?_ (fun _ => ?_))
   | exact ih0 _ _ _ _ _ _ _ _ _ _ _ _ _ _ _ _
   | exact ih1 _ _ _ _ _ _ _ _ _ _ _ _
   | exact ih2 _ _ _ _
   | exact impl_PoolTake.mono _ _ _ _ _ _
   | exact laws_eqPool.mono _ _ _ _ _
   | exact laws_heldPool.mono _ _ _ _
   | exact laws_markPool.mono _ _ _ _
   | exact laws_toPool.mono _ _ _
   | exact spec_PoolTake.mono _ _ _ _ _ _
   | exact LeO.none _
   | refine LeO.ite ?_ ?_
   | refine LeO.bind ?_ (fun _ => ?_)
set_option maxHeartbeats 8000000 in
set_option maxRecDepth 100000 in
theorem laws_FnExactPoolTake.calls (k : Nat) (A0_0 : Option Addr) (c0_0 : Nat) (l0_0 : List (S86)) (a0_1 : Int) (a1 : Int) (a2 : Int) (a3 : Int) (r : Bool) (w : World) (hr0_0 : Kd.C k86 w A0_0 l0_0.length l0_0) (hc0_0 : l0_0.length ≤ c0_0) (h : laws_FnExactPoolTake.f k l0_0 a0_1 a1 a2 a3 = some r) :
  Calls Try.prog 13 #[.agg #[.slice A0_0 l0_0.length c0_0, .int .i64 a0_1], .int .i64 a1, .int .i64 a2, .int .i64 a3] w fun e w' => e = .returned (.bool r) ∧ Below w.heap.size w w' := by
 have hu24 := Try.underlying24
 have hu29 := Try.underlying29
 have HR0_0 := Aside0.mk hr0_0
 have HC0_0 := Aside0.mk hc0_0
 clear hr0_0 hc0_0
 have HB := Aside0.mk (Below.refl w.heap.size w)
 have H : ((laws_szPool.f l0_0 a0_1 1048576).bind fun t285 => (if t285 < 0 then (some true) else ((laws_toPool.f k l0_0 a0_1).bind fun bt286 => ((spec_PoolTake.f k bt286.1 bt286.2 a1 a2 a3).bind fun bt290 => ((laws_toPool.f k l0_0 a0_1).bind fun bt297 => ((impl_PoolTake.f k bt297.1 bt297.2 a1 a2 a3).bind fun bt302 => ((laws_eqPool.f k bt302.1 bt302.2.1 bt290.1 bt290.2.1).bind fun t309 => (if t309 = true then (if bt302.2.2.1 = bt290.2.2.1 then (laws_FnExactPoolTake.j0 k a1 a2 a3 bt290.2.2.1 bt290.2.2.2 bt302.2.2.1 bt302.2.2.2 (bt302.2.2.2 != bt290.2.2.2) l0_0 a0_1 bt290.1 bt290.2.1 bt297.1 bt297.2 bt302.1 bt302.2.1) else (laws_FnExactPoolTake.j0 k a1 a2 a3 bt290.2.2.1 bt290.2.2.2 bt302.2.2.1 bt302.2.2.2 true l0_0 a0_1 bt290.1 bt290.2.1 bt297.1 bt297.2 bt302.1 bt302.2.1)) else (laws_FnExactPoolTake.j0 k a1 a2 a3 bt290.2.2.1 bt290.2.2.2 bt302.2.2.1 bt302.2.2.2 true l0_0 a0_1 bt290.1 bt290.2.1 bt297.1 bt297.2 bt302.1 bt302.2.1))))))))) = some r:=h
 clear h
 replace H := Option.bind_eq_some_iff.mp H
 obtain ⟨t285, A50, H⟩ := H
 replace H : (if t285 < 0 then (some true) else ((laws_toPool.f k l0_0 a0_1).bind fun bt286 => ((spec_PoolTake.f k bt286.1 bt286.2 a1 a2 a3).bind fun bt290 => ((laws_toPool.f k l0_0 a0_1).bind fun bt297 => ((impl_PoolTake.f k bt297.1 bt297.2 a1 a2 a3).bind fun bt302 => ((laws_eqPool.f k bt302.1 bt302.2.1 bt290.1 bt290.2.1).bind fun t309 => (if t309 = true then (if bt302.2.2.1 = bt290.2.2.1 then (laws_FnExactPoolTake.j0 k a1 a2 a3 bt290.2.2.1 bt290.2.2.2 bt302.2.2.1 bt302.2.2.2 (bt302.2.2.2 != bt290.2.2.2) l0_0 a0_1 bt290.1 bt290.2.1 bt297.1 bt297.2 bt302.1 bt302.2.1) else (laws_FnExactPoolTake.j0 k a1 a2 a3 bt290.2.2.1 bt290.2.2.2 bt302.2.2.1 bt302.2.2.2 true l0_0 a0_1 bt290.1 bt290.2.1 bt297.1 bt297.2 bt302.1 bt302.2.1)) else (laws_FnExactPoolTake.j0 k a1 a2 a3 bt290.2.2.1 bt290.2.2.2 bt302.2.2.1 bt302.2.2.2 true l0_0 a0_1 bt290.1 bt290.2.1 bt297.1 bt297.2 bt302.1 bt302.2.1)))))))) = some r:=H
 have A5 := Aside0.mk A50
 clear A50
 by_cases c6 : t285 < 0
 ·rw [if_pos c6] at H
  have c6b0 : decide (t285 < 0) = true := decide_eq_true c6
  clear c6
  obtain rfl := Option.some.inj H
  go_enter Try.func13, Try.ntmps13
  go_wp2_with (first|((with_reducible refine gate_dst (N:=4) rfl ?_);refine box_event ?hg (N:=4) ?hd (cs:=#[.slice A0_0 l0_0.length c0_0,.int .i64 a0_1]) (t:=24) ?hr ?_;(case hd => rfl);(case hg => rfl);(case hr => first|(go_simp;done)|(go_simp;rfl));intro gb284 hg w7 hbox hb;have n0_:=Aside0.mk (below_step (by repeat (first|(with_reducible first|exact HB.out|apply y_h|apply y_i|apply y_j)|exact HB.out)) hb);have n1_:=Aside0.mk (hbox);have n2_:=Aside0.mk ((by rw [hg];exact (below_size (by repeat (first|(with_reducible first|exact HB.out|apply y_h|apply y_i|apply y_j)|exact HB.out))) : w.heap.size ≤ gb284));have n3_:=Aside0.mk ((by rw [hg];exact (below_size (by repeat (first|(with_reducible first|exact HB.out|apply y_h|apply y_i|apply y_j)|exact HB.out))) : w.heap.size ≤ gb284));clear HB;have HB:=n0_;have BK284:=n1_;have GW284:=n2_;have GE284:=n3_;clear n0_ n1_ n2_ n3_;clear hb hbox hg;have hcz8_0 : w7.cell? ⟨gb284,0,none⟩ = some (.slice A0_0 l0_0.length c0_0):=(blk_cell BK284.out 0).trans rfl;have hcz8_1 : w7.cell? ⟨gb284,1,none⟩ = some (.int .i64 a0_1):=(blk_cell BK284.out 1).trans rfl;have hfz8_0:=blk_frozen BK284.out 0;have hfz8_1:=blk_frozen BK284.out 1)|((with_reducible refine gate_callee (f:=15) rfl ?_);refine goesL_ (some 25) rfl rfl Try.func15 (by kernel_rfl) rfl #[.agg #[.slice A0_0 l0_0.length c0_0,.int .i64 a0_1],.int .i64 1048576] rfl (by (try simp only [List.map_toArray,List.map_cons,List.map_nil]);first|done|rfl|(simp only [List.length_drop,List.length_take];rfl)) ?_;(with_reducible refine (laws_szPool.calls _ _ l0_0 a0_1 1048576 t285 _ ?side1 ?side2 A5.out).mono ?_);(case side1 => repeat (first|exact (Kd.C_below HR0_0.out HB.out)|(with_reducible refine y_k ?_ _)|(with_reducible refine y_l ?_ _)|(with_reducible refine y_m ?_)));(case side2 => exact HC0_0.out);rintro e w9 ⟨rfl,hb⟩;refine ⟨_,rfl,?_⟩;have n0_:=Aside0.mk (blk_below (g:=gb284) (o:=.cells #[.slice A0_0 l0_0.length c0_0,.int .i64 a0_1] 24 (0,0)) (by (with_reducible repeat (first|refine y_b ?_ _|refine y_c ?_|refine y_d ?_ _));exact BK284.out) hb);have n1_:=Aside0.mk (below_step (by repeat (first|(with_reducible first|exact HB.out|apply y_h|apply y_i|apply y_j|refine y_n ?_ GE284.out)|exact HB.out)) hb);clear BK284 HB;have BK284:=n0_;have HB:=n1_;clear n0_ n1_;(try clear hb);(try clear hb2);(try clear hk);(try clear hi)))
  go_ret
  exact ⟨by first|rfl|(simp [errW_none,errW_some] <;> rfl)|(simp [*,errW_none,errW_some] <;> rfl),by repeat (first|(with_reducible first|exact HB.out|apply y_h|apply y_i|apply y_j|refine y_n ?_ GE284.out)|exact HB.out)⟩
 ·rw [if_neg c6] at H
  have c6b0 : decide (t285 < 0) = false := decide_eq_false c6
  clear c6
  replace H := Option.bind_eq_some_iff.mp H
  obtain ⟨⟨t286, t289⟩, A100, H⟩ := H
  replace H : ((spec_PoolTake.f k t286 t289 a1 a2 a3).bind fun bt290 => ((laws_toPool.f k l0_0 a0_1).bind fun bt297 => ((impl_PoolTake.f k bt297.1 bt297.2 a1 a2 a3).bind fun bt302 => ((laws_eqPool.f k bt302.1 bt302.2.1 bt290.1 bt290.2.1).bind fun t309 => (if t309 = true then (if bt302.2.2.1 = bt290.2.2.1 then (laws_FnExactPoolTake.j0 k a1 a2 a3 bt290.2.2.1 bt290.2.2.2 bt302.2.2.1 bt302.2.2.2 (bt302.2.2.2 != bt290.2.2.2) l0_0 a0_1 bt290.1 bt290.2.1 bt297.1 bt297.2 bt302.1 bt302.2.1) else (laws_FnExactPoolTake.j0 k a1 a2 a3 bt290.2.2.1 bt290.2.2.2 bt302.2.2.1 bt302.2.2.2 true l0_0 a0_1 bt290.1 bt290.2.1 bt297.1 bt297.2 bt302.1 bt302.2.1)) else (laws_FnExactPoolTake.j0 k a1 a2 a3 bt290.2.2.1 bt290.2.2.2 bt302.2.2.1 bt302.2.2.2 true l0_0 a0_1 bt290.1 bt290.2.1 bt297.1 bt297.2 bt302.1 bt302.2.1)))))) = some r:=H
  have A10 := Aside0.mk A100
  clear A100
  replace H := Option.bind_eq_some_iff.mp H
  obtain ⟨⟨t290, t293, t294, t295⟩, A110, H⟩ := H
  replace H : ((laws_toPool.f k l0_0 a0_1).bind fun bt297 => ((impl_PoolTake.f k bt297.1 bt297.2 a1 a2 a3).bind fun bt302 => ((laws_eqPool.f k bt302.1 bt302.2.1 t290 t293).bind fun t309 => (if t309 = true then (if bt302.2.2.1 = t294 then (laws_FnExactPoolTake.j0 k a1 a2 a3 t294 t295 bt302.2.2.1 bt302.2.2.2 (bt302.2.2.2 != t295) l0_0 a0_1 t290 t293 bt297.1 bt297.2 bt302.1 bt302.2.1) else (laws_FnExactPoolTake.j0 k a1 a2 a3 t294 t295 bt302.2.2.1 bt302.2.2.2 true l0_0 a0_1 t290 t293 bt297.1 bt297.2 bt302.1 bt302.2.1)) else (laws_FnExactPoolTake.j0 k a1 a2 a3 t294 t295 bt302.2.2.1 bt302.2.2.2 true l0_0 a0_1 t290 t293 bt297.1 bt297.2 bt302.1 bt302.2.1))))) = some r:=H
  have A11 := Aside0.mk A110
  clear A110
  replace H := Option.bind_eq_some_iff.mp H
  obtain ⟨⟨t297, t300⟩, A120, H⟩ := H
  replace H : ((impl_PoolTake.f k t297 t300 a1 a2 a3).bind fun bt302 => ((laws_eqPool.f k bt302.1 bt302.2.1 t290 t293).bind fun t309 => (if t309 = true then (if bt302.2.2.1 = t294 then (laws_FnExactPoolTake.j0 k a1 a2 a3 t294 t295 bt302.2.2.1 bt302.2.2.2 (bt302.2.2.2 != t295) l0_0 a0_1 t290 t293 t297 t300 bt302.1 bt302.2.1) else (laws_FnExactPoolTake.j0 k a1 a2 a3 t294 t295 bt302.2.2.1 bt302.2.2.2 true l0_0 a0_1 t290 t293 t297 t300 bt302.1 bt302.2.1)) else (laws_FnExactPoolTake.j0 k a1 a2 a3 t294 t295 bt302.2.2.1 bt302.2.2.2 true l0_0 a0_1 t290 t293 t297 t300 bt302.1 bt302.2.1)))) = some r:=H
  have A12 := Aside0.mk A120
  clear A120
  replace H := Option.bind_eq_some_iff.mp H
  obtain ⟨⟨t302, t305, t306, t307⟩, A130, H⟩ := H
  replace H : ((laws_eqPool.f k t302 t305 t290 t293).bind fun t309 => (if t309 = true then (if t306 = t294 then (laws_FnExactPoolTake.j0 k a1 a2 a3 t294 t295 t306 t307 (t307 != t295) l0_0 a0_1 t290 t293 t297 t300 t302 t305) else (laws_FnExactPoolTake.j0 k a1 a2 a3 t294 t295 t306 t307 true l0_0 a0_1 t290 t293 t297 t300 t302 t305)) else (laws_FnExactPoolTake.j0 k a1 a2 a3 t294 t295 t306 t307 true l0_0 a0_1 t290 t293 t297 t300 t302 t305))) = some r:=H
  have A13 := Aside0.mk A130
  clear A130
  have HC14 := Aside0.mk H
  clear H
  go_enter Try.func13, Try.ntmps13
  go_upto_region 8 with (first|((with_reducible refine gate_dst (N:=4) rfl ?_);refine box_event ?hg (N:=4) ?hd (cs:=#[.slice A0_0 l0_0.length c0_0,.int .i64 a0_1]) (t:=24) ?hr ?_;(case hd => rfl);(case hg => rfl);(case hr => first|(go_simp;done)|(go_simp;rfl));intro gb284 hg w15 hbox hb;have n0_:=Aside0.mk (below_step (by repeat (first|(with_reducible first|exact HB.out|apply y_h|apply y_i|apply y_j)|exact HB.out)) hb);have n1_:=Aside0.mk (hbox);have n2_:=Aside0.mk ((by rw [hg];exact (below_size (by repeat (first|(with_reducible first|exact HB.out|apply y_h|apply y_i|apply y_j)|exact HB.out))) : w.heap.size ≤ gb284));have n3_:=Aside0.mk ((by rw [hg];exact (below_size (by repeat (first|(with_reducible first|exact HB.out|apply y_h|apply y_i|apply y_j)|exact HB.out))) : w.heap.size ≤ gb284));clear HB;have HB:=n0_;have BK284:=n1_;have GW284:=n2_;have GE284:=n3_;clear n0_ n1_ n2_ n3_;clear hb hbox hg;have hcz16_0 : w15.cell? ⟨gb284,0,none⟩ = some (.slice A0_0 l0_0.length c0_0):=(blk_cell BK284.out 0).trans rfl;have hcz16_1 : w15.cell? ⟨gb284,1,none⟩ = some (.int .i64 a0_1):=(blk_cell BK284.out 1).trans rfl;have hfz16_0:=blk_frozen BK284.out 0;have hfz16_1:=blk_frozen BK284.out 1)|((with_reducible refine gate_callee (f:=15) rfl ?_);refine goesL_ (some 25) rfl rfl Try.func15 (by kernel_rfl) rfl #[.agg #[.slice A0_0 l0_0.length c0_0,.int .i64 a0_1],.int .i64 1048576] rfl (by (try simp only [List.map_toArray,List.map_cons,List.map_nil]);first|done|rfl|(simp only [List.length_drop,List.length_take];rfl)) ?_;(with_reducible refine (laws_szPool.calls _ _ l0_0 a0_1 1048576 t285 _ ?side1 ?side2 A5.out).mono ?_);(case side1 => repeat (first|exact (Kd.C_below HR0_0.out HB.out)|(with_reducible refine y_k ?_ _)|(with_reducible refine y_l ?_ _)|(with_reducible refine y_m ?_)));(case side2 => exact HC0_0.out);rintro e w17 ⟨rfl,hb⟩;refine ⟨_,rfl,?_⟩;have n0_:=Aside0.mk (blk_below (g:=gb284) (o:=.cells #[.slice A0_0 l0_0.length c0_0,.int .i64 a0_1] 24 (0,0)) (by (with_reducible repeat (first|refine y_b ?_ _|refine y_c ?_|refine y_d ?_ _));exact BK284.out) hb);have n1_:=Aside0.mk (below_step (by repeat (first|(with_reducible first|exact HB.out|apply y_h|apply y_i|apply y_j|refine y_n ?_ GE284.out)|exact HB.out)) hb);clear BK284 HB;have BK284:=n0_;have HB:=n1_;clear n0_ n1_;(try clear hb);(try clear hb2);(try clear hk);(try clear hi);have hcz18_0 : w17.cell? ⟨gb284,0,none⟩ = some (.slice A0_0 l0_0.length c0_0):=(blk_cell BK284.out 0).trans rfl;have hcz18_1 : w17.cell? ⟨gb284,1,none⟩ = some (.int .i64 a0_1):=(blk_cell BK284.out 1).trans rfl;have hfz18_0:=blk_frozen BK284.out 0;have hfz18_1:=blk_frozen BK284.out 1)|((with_reducible refine gate_callee (f:=17) rfl ?_);refine goesL_ (some 30) rfl rfl Try.func17 (by kernel_rfl) rfl #[.agg #[.slice A0_0 l0_0.length c0_0,.int .i64 a0_1]] rfl (by (try simp only [List.map_toArray,List.map_cons,List.map_nil]);first|done|rfl|(simp only [List.length_drop,List.length_take];rfl)) ?_;(with_reducible refine (laws_toPool.calls k _ _ l0_0 a0_1 t286 t289 _ ?side1 ?side2 A10.out).mono ?_);(case side1 => repeat (first|exact (Kd.C_below HR0_0.out HB.out)|(with_reducible refine y_k ?_ _)|(with_reducible refine y_l ?_ _)|(with_reducible refine y_m ?_)));(case side2 => exact HC0_0.out);rintro e w19 ⟨v287,rfl,ho0,hb⟩;refine ⟨_,rfl,?_⟩;have n0_:=Aside0.mk (Kd.R_lower ho0 (below_size (by repeat (first|(with_reducible first|exact HB.out|apply y_h|apply y_i|apply y_j|refine y_n ?_ GE284.out)|exact HB.out))));have n1_:=Aside0.mk (blk_below (g:=gb284) (o:=.cells #[.slice A0_0 l0_0.length c0_0,.int .i64 a0_1] 24 (0,0)) (by (with_reducible repeat (first|refine y_b ?_ _|refine y_c ?_|refine y_d ?_ _));exact BK284.out) hb);have n2_:=Aside0.mk (below_step (by repeat (first|(with_reducible first|exact HB.out|apply y_h|apply y_i|apply y_j|refine y_n ?_ GE284.out)|exact HB.out)) hb);clear BK284 HB;have HO288:=n0_;have BK284:=n1_;have HB:=n2_;clear n0_ n1_ n2_;(try clear hb);(try clear hb2);(try clear hk);(try clear hi);(try clear ho0);obtain ⟨Ao20,co20,eo20⟩:=Kd.R_slice HO288.out;subst eo20)|((with_reducible refine gate_callee (f:=34) rfl ?_);refine goesL_ (some 34) rfl rfl Try.func34 (by kernel_rfl) rfl #[.agg #[.slice Ao20 t286.length co20,.int .i64 t289],.int .i64 a1,.int .i64 a2,.int .i64 a3] rfl (by (try simp only [List.map_toArray,List.map_cons,List.map_nil]);first|done|rfl|(simp only [List.length_drop,List.length_take];rfl)) ?_;(with_reducible refine (spec_PoolTake.calls k _ _ t286 t289 a1 a2 a3 t290 t293 t294 t295 _ ?side1 ?side2 A11.out).mono ?_);(case side1 => repeat (first|exact (Kd.R_reads' HO288.out).2.2|(with_reducible refine y_k ?_ _)|(with_reducible refine y_l ?_ _)|(with_reducible refine y_m ?_)));(case side2 => exact (Kd.R_reads' HO288.out).2.1);rintro e w21 ⟨v291,rfl,ho0,hb⟩;refine ⟨_,rfl,?_⟩;have n0_:=Aside0.mk (Kd.R_elder' (by (with_reducible repeat (first|apply y_e|apply y_f|apply y_g));exact HO288.out) (Kd.R_base ho0) hb);have n1_:=Aside0.mk (Kd.R_lower (Kd.R_new' ho0 (Kd.R_lt (by (with_reducible repeat (first|apply y_e|apply y_f|apply y_g));exact HO288.out))) (below_size (by repeat (first|(with_reducible first|exact HB.out|apply y_h|apply y_i|apply y_j|refine y_n ?_ GE284.out)|exact HB.out))));have n2_:=Aside0.mk (blk_below (g:=gb284) (o:=.cells #[.slice A0_0 l0_0.length c0_0,.int .i64 a0_1] 24 (0,0)) (by (with_reducible repeat (first|refine y_b ?_ _|refine y_c ?_|refine y_d ?_ _));exact BK284.out) hb);have n3_:=Aside0.mk (below_step (by repeat (first|(with_reducible first|exact HB.out|apply y_h|apply y_i|apply y_j|refine y_n ?_ GE284.out)|exact HB.out)) hb);clear HO288 BK284 HB;have HO288:=n0_;have HO292:=n1_;have BK284:=n2_;have HB:=n3_;clear n0_ n1_ n2_ n3_;(try clear hb);(try clear hb2);(try clear hk);(try clear hi);(try clear ho0))|((with_reducible refine gate_dst (N:=10) rfl ?_);refine box_event ?hg (N:=10) ?hd (cs:=#[.slice none 0 0,.int .i64 0]) (t:=29) ?hr ?_;(case hd => rfl);(case hg => rfl);(case hr => first|(go_simp;done)|(go_simp;rfl));intro gb296 hg w22 hbox hb;have n0_:=Aside0.mk (Kd.R_below (by (with_reducible repeat (first|apply y_e|apply y_f|apply y_g));exact HO288.out) hb);have n1_:=Aside0.mk (Kd.R_below (by (with_reducible repeat (first|apply y_e|apply y_f|apply y_g));exact HO292.out) hb);have n2_:=Aside0.mk (blk_below (g:=gb284) (o:=.cells #[.slice A0_0 l0_0.length c0_0,.int .i64 a0_1] 24 (0,0)) (by (with_reducible repeat (first|refine y_b ?_ _|refine y_c ?_|refine y_d ?_ _));exact BK284.out) hb);have n3_:=Aside0.mk (below_step (by repeat (first|(with_reducible first|exact HB.out|apply y_h|apply y_i|apply y_j|refine y_n ?_ GE284.out)|exact HB.out)) hb);have n4_:=Aside0.mk (hbox);have n5_:=Aside0.mk ((by rw [hg];exact (below_size (by repeat (first|(with_reducible first|exact HB.out|apply y_h|apply y_i|apply y_j|refine y_n ?_ GE284.out)|exact HB.out))) : w.heap.size ≤ gb296));have n6_:=Aside0.mk ((by rw [hg];exact (below_size (by repeat (first|(with_reducible first|exact HB.out|apply y_h|apply y_i|apply y_j|refine y_n ?_ GE284.out)|exact HB.out))) : w.heap.size ≤ gb296));have n7_:=Aside0.mk ((by rw [hg];exact Nat.ne_of_lt (blk_lt (g:=gb284) (o:=.cells #[.slice A0_0 l0_0.length c0_0,.int .i64 a0_1] 24 (0,0)) (by (with_reducible repeat (first|refine y_b ?_ _|refine y_c ?_|refine y_d ?_ _));exact BK284.out)) : gb284 ≠ gb296));have n8_:=Aside0.mk ((by rw [hg];exact Nat.ne_of_gt (blk_lt (g:=gb284) (o:=.cells #[.slice A0_0 l0_0.length c0_0,.int .i64 a0_1] 24 (0,0)) (by (with_reducible repeat (first|refine y_b ?_ _|refine y_c ?_|refine y_d ?_ _));exact BK284.out)) : gb296 ≠ gb284));clear HO288 HO292 BK284 HB;have HO288:=n0_;have HO292:=n1_;have BK284:=n2_;have HB:=n3_;have BK296:=n4_;have GW296:=n5_;have GE296:=n6_;have NB284_296:=n7_;have NB296_284:=n8_;clear n0_ n1_ n2_ n3_ n4_ n5_ n6_ n7_ n8_;clear hb hbox hg;obtain ⟨Ao23,co23,eo23⟩:=Kd.R_slice HO292.out;subst eo23;have hnb24:=NB296_284.out;have hnc24:=NB284_296.out;have hcz25_0 : w22.cell? ⟨gb296,0,none⟩ = some (.slice none 0 0):=(blk_cell BK296.out 0).trans rfl;have hcz25_1 : w22.cell? ⟨gb296,1,none⟩ = some (.int .i64 0):=(blk_cell BK296.out 1).trans rfl;have hfz25_0:=blk_frozen BK296.out 0;have hfz25_1:=blk_frozen BK296.out 1;have hcz26_0 : w22.cell? ⟨gb284,0,none⟩ = some (.slice A0_0 l0_0.length c0_0):=(blk_cell BK284.out 0).trans rfl;have hcz26_1 : w22.cell? ⟨gb284,1,none⟩ = some (.int .i64 a0_1):=(blk_cell BK284.out 1).trans rfl;have hfz26_0:=blk_frozen BK284.out 0;have hfz26_1:=blk_frozen BK284.out 1)|((with_reducible refine gate_callee (f:=17) rfl ?_);refine goesL_ (some 39) rfl rfl Try.func17 (by kernel_rfl) rfl #[.agg #[.slice A0_0 l0_0.length c0_0,.int .i64 a0_1]] rfl (by (try simp only [List.map_toArray,List.map_cons,List.map_nil]);first|done|rfl|(simp only [List.length_drop,List.length_take];rfl)) ?_;(with_reducible refine (laws_toPool.calls k _ _ l0_0 a0_1 t297 t300 _ ?side1 ?side2 A12.out).mono ?_);(case side1 => exact Kd.C_below HR0_0.out (by repeat (first|(with_reducible first|exact HB.out|apply y_h|apply y_i|apply y_j|refine y_n ?_ GE284.out|refine y_n ?_ GE296.out)|exact HB.out)));(case side2 => exact HC0_0.out);rintro e w27 ⟨v298,rfl,ho0,hb⟩;refine ⟨_,rfl,?_⟩;have n0_:=Aside0.mk (Kd.R_elder' (by (with_reducible repeat (first|apply y_e|apply y_f|apply y_g));exact (y_o (Kd.R_far (p:=⟨gb296,1,none⟩) (Kd.R_far (p:=⟨gb296,0,none⟩) (Kd.R_types HO288.out BK296.out (by decide)) (fun _ hk => hk.2) (.slice Ao23 t290.length co23)) (fun _ hk => hk.2) (.int .i64 t293)) (fun _ h_ => h_.1))) (Kd.R_base ho0) hb);have n1_:=Aside0.mk (Kd.R_elder' (by (with_reducible repeat (first|apply y_e|apply y_f|apply y_g));exact (y_o (Kd.R_far (p:=⟨gb296,1,none⟩) (Kd.R_far (p:=⟨gb296,0,none⟩) (Kd.R_types HO292.out BK296.out (by decide)) (fun _ hk => hk.2) (.slice Ao23 t290.length co23)) (fun _ hk => hk.2) (.int .i64 t293)) (fun _ h_ => h_.1))) (Kd.R_base ho0) hb);have n2_:=Aside0.mk (Kd.R_lower (Kd.R_new' (Kd.R_new' ho0 (Kd.R_lt (by (with_reducible repeat (first|apply y_e|apply y_f|apply y_g));exact (y_o (Kd.R_far (p:=⟨gb296,1,none⟩) (Kd.R_far (p:=⟨gb296,0,none⟩) (Kd.R_types HO288.out BK296.out (by decide)) (fun _ hk => hk.2) (.slice Ao23 t290.length co23)) (fun _ hk => hk.2) (.int .i64 t293)) (fun _ h_ => h_.1))))) (Kd.R_lt (by (with_reducible repeat (first|apply y_e|apply y_f|apply y_g));exact (y_o (Kd.R_far (p:=⟨gb296,1,none⟩) (Kd.R_far (p:=⟨gb296,0,none⟩) (Kd.R_types HO292.out BK296.out (by decide)) (fun _ hk => hk.2) (.slice Ao23 t290.length co23)) (fun _ hk => hk.2) (.int .i64 t293)) (fun _ h_ => h_.1))))) (below_size (by repeat (first|(with_reducible first|exact HB.out|apply y_h|apply y_i|apply y_j|refine y_n ?_ GE284.out|refine y_n ?_ GE296.out)|exact HB.out))));have n3_:=Aside0.mk (blk_below (g:=gb284) (o:=.cells #[.slice A0_0 l0_0.length c0_0,.int .i64 a0_1] 24 (0,0)) (by (with_reducible repeat (first|refine y_b ?_ _|refine y_c ?_|refine y_d ?_ _));refine blk_far ?_ NB284_296.out _;(with_reducible repeat (first|refine y_b ?_ _|refine y_c ?_|refine y_d ?_ _));refine blk_far ?_ NB284_296.out _;(with_reducible repeat (first|refine y_b ?_ _|refine y_c ?_|refine y_d ?_ _));exact BK284.out) hb);have n4_:=Aside0.mk (blk_below (g:=gb296) (o:=.cells #[.slice Ao23 t290.length co23,.int .i64 t293] 29 (0,0)) (by (with_reducible repeat (first|refine y_b ?_ _|refine y_c ?_|refine y_d ?_ _));refine blk_put (cs:=#[.slice Ao23 t290.length co23,.int .i64 0]) ?_ 1 _ rfl;(with_reducible repeat (first|refine y_b ?_ _|refine y_c ?_|refine y_d ?_ _));refine blk_put (cs:=#[.slice none 0 0,.int .i64 0]) ?_ 0 _ rfl;(with_reducible repeat (first|refine y_b ?_ _|refine y_c ?_|refine y_d ?_ _));exact BK296.out) hb);have n5_:=Aside0.mk (below_step (by repeat (first|(with_reducible first|exact HB.out|apply y_h|apply y_i|apply y_j|refine y_n ?_ GE284.out|refine y_n ?_ GE296.out)|exact HB.out)) hb);clear HO288 HO292 BK284 BK296 HB;have HO288:=n0_;have HO292:=n1_;have HO299:=n2_;have BK284:=n3_;have BK296:=n4_;have HB:=n5_;clear n0_ n1_ n2_ n3_ n4_ n5_;(try clear hb);(try clear hb2);(try clear hk);(try clear hi);(try clear ho0))|((with_reducible refine gate_dst (N:=13) rfl ?_);refine box_event ?hg (N:=13) ?hd (cs:=#[.slice none 0 0,.int .i64 0]) (t:=29) ?hr ?_;(case hd => rfl);(case hg => rfl);(case hr => first|(go_simp;done)|(go_simp;rfl));intro gb301 hg w28 hbox hb;have n0_:=Aside0.mk (Kd.R_below (by (with_reducible repeat (first|apply y_e|apply y_f|apply y_g));exact HO288.out) hb);have n1_:=Aside0.mk (Kd.R_below (by (with_reducible repeat (first|apply y_e|apply y_f|apply y_g));exact HO292.out) hb);have n2_:=Aside0.mk (Kd.R_below (by (with_reducible repeat (first|apply y_e|apply y_f|apply y_g));exact HO299.out) hb);have n3_:=Aside0.mk (blk_below (g:=gb284) (o:=.cells #[.slice A0_0 l0_0.length c0_0,.int .i64 a0_1] 24 (0,0)) (by (with_reducible repeat (first|refine y_b ?_ _|refine y_c ?_|refine y_d ?_ _));exact BK284.out) hb);have n4_:=Aside0.mk (blk_below (g:=gb296) (o:=.cells #[.slice Ao23 t290.length co23,.int .i64 t293] 29 (0,0)) (by (with_reducible repeat (first|refine y_b ?_ _|refine y_c ?_|refine y_d ?_ _));exact BK296.out) hb);have n5_:=Aside0.mk (below_step (by repeat (first|(with_reducible first|exact HB.out|apply y_h|apply y_i|apply y_j|refine y_n ?_ GE284.out|refine y_n ?_ GE296.out)|exact HB.out)) hb);have n6_:=Aside0.mk (hbox);have n7_:=Aside0.mk ((by rw [hg];exact (below_size (by repeat (first|(with_reducible first|exact HB.out|apply y_h|apply y_i|apply y_j|refine y_n ?_ GE284.out|refine y_n ?_ GE296.out)|exact HB.out))) : w.heap.size ≤ gb301));have n8_:=Aside0.mk ((by rw [hg];exact (below_size (by repeat (first|(with_reducible first|exact HB.out|apply y_h|apply y_i|apply y_j|refine y_n ?_ GE284.out|refine y_n ?_ GE296.out)|exact HB.out))) : w.heap.size ≤ gb301));have n9_:=Aside0.mk ((by rw [hg];exact Nat.ne_of_lt (blk_lt (g:=gb284) (o:=.cells #[.slice A0_0 l0_0.length c0_0,.int .i64 a0_1] 24 (0,0)) (by (with_reducible repeat (first|refine y_b ?_ _|refine y_c ?_|refine y_d ?_ _));exact BK284.out)) : gb284 ≠ gb301));have n10_:=Aside0.mk ((by rw [hg];exact Nat.ne_of_gt (blk_lt (g:=gb284) (o:=.cells #[.slice A0_0 l0_0.length c0_0,.int .i64 a0_1] 24 (0,0)) (by (with_reducible repeat (first|refine y_b ?_ _|refine y_c ?_|refine y_d ?_ _));exact BK284.out)) : gb301 ≠ gb284));have n11_:=Aside0.mk ((by rw [hg];exact Nat.ne_of_lt (blk_lt (g:=gb296) (o:=.cells #[.slice Ao23 t290.length co23,.int .i64 t293] 29 (0,0)) (by (with_reducible repeat (first|refine y_b ?_ _|refine y_c ?_|refine y_d ?_ _));exact BK296.out)) : gb296 ≠ gb301));have n12_:=Aside0.mk ((by rw [hg];exact Nat.ne_of_gt (blk_lt (g:=gb296) (o:=.cells #[.slice Ao23 t290.length co23,.int .i64 t293] 29 (0,0)) (by (with_reducible repeat (first|refine y_b ?_ _|refine y_c ?_|refine y_d ?_ _));exact BK296.out)) : gb301 ≠ gb296));clear HO288 HO292 HO299 BK284 BK296 HB;have HO288:=n0_;have HO292:=n1_;have HO299:=n2_;have BK284:=n3_;have BK296:=n4_;have HB:=n5_;have BK301:=n6_;have GW301:=n7_;have GE301:=n8_;have NB284_301:=n9_;have NB301_284:=n10_;have NB296_301:=n11_;have NB301_296:=n12_;clear n0_ n1_ n2_ n3_ n4_ n5_ n6_ n7_ n8_ n9_ n10_ n11_ n12_;clear hb hbox hg;obtain ⟨Ao29,co29,eo29⟩:=Kd.R_slice HO299.out;subst eo29;have hnb30:=NB301_284.out;have hnc30:=NB284_301.out;have hnb31:=NB301_296.out;have hnc31:=NB296_301.out;have hcz32_0 : w28.cell? ⟨gb301,0,none⟩ = some (.slice none 0 0):=(blk_cell BK301.out 0).trans rfl;have hcz32_1 : w28.cell? ⟨gb301,1,none⟩ = some (.int .i64 0):=(blk_cell BK301.out 1).trans rfl;have hfz32_0:=blk_frozen BK301.out 0;have hfz32_1:=blk_frozen BK301.out 1)|((with_reducible refine gate_callee (f:=32) rfl ?_);refine goesL_ (some 45) rfl rfl Try.func32 (by kernel_rfl) rfl #[.agg #[.slice Ao29 t297.length co29,.int .i64 t300],.int .i64 a1,.int .i64 a2,.int .i64 a3] rfl (by (try simp only [List.map_toArray,List.map_cons,List.map_nil]);first|done|rfl|(simp only [List.length_drop,List.length_take];rfl)) ?_;(with_reducible refine (impl_PoolTake.calls k _ _ t297 t300 a1 a2 a3 t302 t305 t306 t307 _ ?side1 ?side2 A13.out).mono ?_);(case side1 => refine (Kd.R_reads' (e:=41) (base:=w.heap.size) (ok:=fun k_ => ((True ∧ some k_ ≠ (.slice Ao20 t286.length co20 : Value).ownBlock) ∧ some k_ ≠ (.slice Ao23 t290.length co23 : Value).ownBlock)) (n:=t297.length) (c:=co29) ?_).2.2;exact (by (with_reducible repeat (first|apply y_e|apply y_f|apply y_g));exact (y_o (Kd.R_far (p:=⟨gb301,1,none⟩) (Kd.R_far (p:=⟨gb301,0,none⟩) (Kd.R_types HO299.out BK301.out (by decide)) (fun _ hk => hk.2) (.slice Ao29 t297.length co29)) (fun _ hk => hk.2) (.int .i64 t300)) (fun _ h_ => h_.1))));(case side2 => exact (Kd.R_reads' HO299.out).2.1);rintro e w33 ⟨v303,rfl,ho0,hb⟩;refine ⟨_,rfl,?_⟩;have n0_:=Aside0.mk (Kd.R_elder' (by (with_reducible repeat (first|apply y_e|apply y_f|apply y_g));exact (y_o (Kd.R_far (p:=⟨gb301,1,none⟩) (Kd.R_far (p:=⟨gb301,0,none⟩) (Kd.R_types HO288.out BK301.out (by decide)) (fun _ hk => hk.2) (.slice Ao29 t297.length co29)) (fun _ hk => hk.2) (.int .i64 t300)) (fun _ h_ => h_.1))) (Kd.R_base ho0) hb);have n1_:=Aside0.mk (Kd.R_elder' (by (with_reducible repeat (first|apply y_e|apply y_f|apply y_g));exact (y_o (Kd.R_far (p:=⟨gb301,1,none⟩) (Kd.R_far (p:=⟨gb301,0,none⟩) (Kd.R_types HO292.out BK301.out (by decide)) (fun _ hk => hk.2) (.slice Ao29 t297.length co29)) (fun _ hk => hk.2) (.int .i64 t300)) (fun _ h_ => h_.1))) (Kd.R_base ho0) hb);have n2_:=Aside0.mk (Kd.R_elder' (by (with_reducible repeat (first|apply y_e|apply y_f|apply y_g));exact (y_o (Kd.R_far (p:=⟨gb301,1,none⟩) (Kd.R_far (p:=⟨gb301,0,none⟩) (Kd.R_types HO299.out BK301.out (by decide)) (fun _ hk => hk.2) (.slice Ao29 t297.length co29)) (fun _ hk => hk.2) (.int .i64 t300)) (fun _ h_ => h_.1))) (Kd.R_base ho0) hb);have n3_:=Aside0.mk (Kd.R_lower (Kd.R_new' (Kd.R_new' (Kd.R_new' ho0 (Kd.R_lt (by (with_reducible repeat (first|apply y_e|apply y_f|apply y_g));exact (y_o (Kd.R_far (p:=⟨gb301,1,none⟩) (Kd.R_far (p:=⟨gb301,0,none⟩) (Kd.R_types HO288.out BK301.out (by decide)) (fun _ hk => hk.2) (.slice Ao29 t297.length co29)) (fun _ hk => hk.2) (.int .i64 t300)) (fun _ h_ => h_.1))))) (Kd.R_lt (by (with_reducible repeat (first|apply y_e|apply y_f|apply y_g));exact (y_o (Kd.R_far (p:=⟨gb301,1,none⟩) (Kd.R_far (p:=⟨gb301,0,none⟩) (Kd.R_types HO292.out BK301.out (by decide)) (fun _ hk => hk.2) (.slice Ao29 t297.length co29)) (fun _ hk => hk.2) (.int .i64 t300)) (fun _ h_ => h_.1))))) (Kd.R_lt (by (with_reducible repeat (first|apply y_e|apply y_f|apply y_g));exact (y_o (Kd.R_far (p:=⟨gb301,1,none⟩) (Kd.R_far (p:=⟨gb301,0,none⟩) (Kd.R_types HO299.out BK301.out (by decide)) (fun _ hk => hk.2) (.slice Ao29 t297.length co29)) (fun _ hk => hk.2) (.int .i64 t300)) (fun _ h_ => h_.1))))) (below_size (by repeat (first|(with_reducible first|exact HB.out|apply y_h|apply y_i|apply y_j|refine y_n ?_ GE284.out|refine y_n ?_ GE296.out|refine y_n ?_ GE301.out)|exact HB.out))));have n4_:=Aside0.mk (blk_below (g:=gb284) (o:=.cells #[.slice A0_0 l0_0.length c0_0,.int .i64 a0_1] 24 (0,0)) (by (with_reducible repeat (first|refine y_b ?_ _|refine y_c ?_|refine y_d ?_ _));refine blk_far ?_ NB284_301.out _;(with_reducible repeat (first|refine y_b ?_ _|refine y_c ?_|refine y_d ?_ _));refine blk_far ?_ NB284_301.out _;(with_reducible repeat (first|refine y_b ?_ _|refine y_c ?_|refine y_d ?_ _));exact BK284.out) hb);have n5_:=Aside0.mk (blk_below (g:=gb296) (o:=.cells #[.slice Ao23 t290.length co23,.int .i64 t293] 29 (0,0)) (by (with_reducible repeat (first|refine y_b ?_ _|refine y_c ?_|refine y_d ?_ _));refine blk_far ?_ NB296_301.out _;(with_reducible repeat (first|refine y_b ?_ _|refine y_c ?_|refine y_d ?_ _));refine blk_far ?_ NB296_301.out _;(with_reducible repeat (first|refine y_b ?_ _|refine y_c ?_|refine y_d ?_ _));exact BK296.out) hb);have n6_:=Aside0.mk (blk_below (g:=gb301) (o:=.cells #[.slice Ao29 t297.length co29,.int .i64 t300] 29 (0,0)) (by (with_reducible repeat (first|refine y_b ?_ _|refine y_c ?_|refine y_d ?_ _));refine blk_put (cs:=#[.slice Ao29 t297.length co29,.int .i64 0]) ?_ 1 _ rfl;(with_reducible repeat (first|refine y_b ?_ _|refine y_c ?_|refine y_d ?_ _));refine blk_put (cs:=#[.slice none 0 0,.int .i64 0]) ?_ 0 _ rfl;(with_reducible repeat (first|refine y_b ?_ _|refine y_c ?_|refine y_d ?_ _));exact BK301.out) hb);have n7_:=Aside0.mk (below_step (by repeat (first|(with_reducible first|exact HB.out|apply y_h|apply y_i|apply y_j|refine y_n ?_ GE284.out|refine y_n ?_ GE296.out|refine y_n ?_ GE301.out)|exact HB.out)) hb);clear HO288 HO292 HO299 BK284 BK296 BK301 HB;have HO288:=n0_;have HO292:=n1_;have HO299:=n2_;have HO304:=n3_;have BK284:=n4_;have BK296:=n5_;have BK301:=n6_;have HB:=n7_;clear n0_ n1_ n2_ n3_ n4_ n5_ n6_ n7_;(try clear hb);(try clear hb2);(try clear hk);(try clear hi);(try clear ho0))|((with_reducible refine gate_dst (N:=14) rfl ?_);refine box_event ?hg (N:=14) ?hd (cs:=#[.slice none 0 0,.int .i64 0]) (t:=29) ?hr ?_;(case hd => rfl);(case hg => rfl);(case hr => first|(go_simp;done)|(go_simp;rfl));intro gb308 hg w34 hbox hb;have n0_:=Aside0.mk (Kd.R_below (by (with_reducible repeat (first|apply y_e|apply y_f|apply y_g));exact HO288.out) hb);have n1_:=Aside0.mk (Kd.R_below (by (with_reducible repeat (first|apply y_e|apply y_f|apply y_g));exact HO292.out) hb);have n2_:=Aside0.mk (Kd.R_below (by (with_reducible repeat (first|apply y_e|apply y_f|apply y_g));exact HO299.out) hb);have n3_:=Aside0.mk (Kd.R_below (by (with_reducible repeat (first|apply y_e|apply y_f|apply y_g));exact HO304.out) hb);have n4_:=Aside0.mk (blk_below (g:=gb284) (o:=.cells #[.slice A0_0 l0_0.length c0_0,.int .i64 a0_1] 24 (0,0)) (by (with_reducible repeat (first|refine y_b ?_ _|refine y_c ?_|refine y_d ?_ _));exact BK284.out) hb);have n5_:=Aside0.mk (blk_below (g:=gb296) (o:=.cells #[.slice Ao23 t290.length co23,.int .i64 t293] 29 (0,0)) (by (with_reducible repeat (first|refine y_b ?_ _|refine y_c ?_|refine y_d ?_ _));exact BK296.out) hb);have n6_:=Aside0.mk (blk_below (g:=gb301) (o:=.cells #[.slice Ao29 t297.length co29,.int .i64 t300] 29 (0,0)) (by (with_reducible repeat (first|refine y_b ?_ _|refine y_c ?_|refine y_d ?_ _));exact BK301.out) hb);have n7_:=Aside0.mk (below_step (by repeat (first|(with_reducible first|exact HB.out|apply y_h|apply y_i|apply y_j|refine y_n ?_ GE284.out|refine y_n ?_ GE296.out|refine y_n ?_ GE301.out)|exact HB.out)) hb);have n8_:=Aside0.mk (hbox);have n9_:=Aside0.mk ((by rw [hg];exact (below_size (by repeat (first|(with_reducible first|exact HB.out|apply y_h|apply y_i|apply y_j|refine y_n ?_ GE284.out|refine y_n ?_ GE296.out|refine y_n ?_ GE301.out)|exact HB.out))) : w.heap.size ≤ gb308));have n10_:=Aside0.mk ((by rw [hg];exact (below_size (by repeat (first|(with_reducible first|exact HB.out|apply y_h|apply y_i|apply y_j|refine y_n ?_ GE284.out|refine y_n ?_ GE296.out|refine y_n ?_ GE301.out)|exact HB.out))) : w.heap.size ≤ gb308));have n11_:=Aside0.mk ((by rw [hg];exact Nat.ne_of_lt (blk_lt (g:=gb284) (o:=.cells #[.slice A0_0 l0_0.length c0_0,.int .i64 a0_1] 24 (0,0)) (by (with_reducible repeat (first|refine y_b ?_ _|refine y_c ?_|refine y_d ?_ _));exact BK284.out)) : gb284 ≠ gb308));have n12_:=Aside0.mk ((by rw [hg];exact Nat.ne_of_gt (blk_lt (g:=gb284) (o:=.cells #[.slice A0_0 l0_0.length c0_0,.int .i64 a0_1] 24 (0,0)) (by (with_reducible repeat (first|refine y_b ?_ _|refine y_c ?_|refine y_d ?_ _));exact BK284.out)) : gb308 ≠ gb284));have n13_:=Aside0.mk ((by rw [hg];exact Nat.ne_of_lt (blk_lt (g:=gb296) (o:=.cells #[.slice Ao23 t290.length co23,.int .i64 t293] 29 (0,0)) (by (with_reducible repeat (first|refine y_b ?_ _|refine y_c ?_|refine y_d ?_ _));exact BK296.out)) : gb296 ≠ gb308));have n14_:=Aside0.mk ((by rw [hg];exact Nat.ne_of_gt (blk_lt (g:=gb296) (o:=.cells #[.slice Ao23 t290.length co23,.int .i64 t293] 29 (0,0)) (by (with_reducible repeat (first|refine y_b ?_ _|refine y_c ?_|refine y_d ?_ _));exact BK296.out)) : gb308 ≠ gb296));have n15_:=Aside0.mk ((by rw [hg];exact Nat.ne_of_lt (blk_lt (g:=gb301) (o:=.cells #[.slice Ao29 t297.length co29,.int .i64 t300] 29 (0,0)) (by (with_reducible repeat (first|refine y_b ?_ _|refine y_c ?_|refine y_d ?_ _));exact BK301.out)) : gb301 ≠ gb308));have n16_:=Aside0.mk ((by rw [hg];exact Nat.ne_of_gt (blk_lt (g:=gb301) (o:=.cells #[.slice Ao29 t297.length co29,.int .i64 t300] 29 (0,0)) (by (with_reducible repeat (first|refine y_b ?_ _|refine y_c ?_|refine y_d ?_ _));exact BK301.out)) : gb308 ≠ gb301));clear HO288 HO292 HO299 HO304 BK284 BK296 BK301 HB;have HO288:=n0_;have HO292:=n1_;have HO299:=n2_;have HO304:=n3_;have BK284:=n4_;have BK296:=n5_;have BK301:=n6_;have HB:=n7_;have BK308:=n8_;have GW308:=n9_;have GE308:=n10_;have NB284_308:=n11_;have NB308_284:=n12_;have NB296_308:=n13_;have NB308_296:=n14_;have NB301_308:=n15_;have NB308_301:=n16_;clear n0_ n1_ n2_ n3_ n4_ n5_ n6_ n7_ n8_ n9_ n10_ n11_ n12_ n13_ n14_ n15_ n16_;clear hb hbox hg;obtain ⟨Ao35,co35,eo35⟩:=Kd.R_slice HO304.out;subst eo35;have hnb36:=NB308_284.out;have hnc36:=NB284_308.out;have hnb37:=NB308_296.out;have hnc37:=NB296_308.out;have hnb38:=NB308_301.out;have hnc38:=NB301_308.out;have hcz39_0 : w34.cell? ⟨gb308,0,none⟩ = some (.slice none 0 0):=(blk_cell BK308.out 0).trans rfl;have hcz39_1 : w34.cell? ⟨gb308,1,none⟩ = some (.int .i64 0):=(blk_cell BK308.out 1).trans rfl;have hfz39_0:=blk_frozen BK308.out 0;have hfz39_1:=blk_frozen BK308.out 1))
  (try simp only [Act.put,List.setIfInBounds_toArray,List.set_cons_zero,List.set_cons_succ])
  go_cut [62] (fun v62 wc => ∃ (kq : Nat) (x62_13 : Bool),v62 = .bool x62_13 ∧ Aside0 (laws_FnExactPoolTake.j0 kq a1 a2 a3 t294 t295 t306 t307 x62_13 l0_0 a0_1 t290 t293 t297 t300 t302 t305 = some r) ∧ Aside0 (kq ≤ k) ∧ Aside0 (Kd.R k41 41 wc w.heap.size (fun k_ => some k_ ≠ ((.slice Ao29 t297.length co29) : Value).ownBlock ∧ some k_ ≠ ((.slice Ao35 t302.length co35) : Value).ownBlock) (.slice Ao23 t290.length co23) t290) ∧ Aside0 (Kd.R k41 41 wc w.heap.size (fun k_ => some k_ ≠ ((.slice Ao23 t290.length co23) : Value).ownBlock ∧ some k_ ≠ ((.slice Ao35 t302.length co35) : Value).ownBlock) (.slice Ao29 t297.length co29) t297) ∧ Aside0 (Kd.R k41 41 wc w.heap.size (fun k_ => some k_ ≠ ((.slice Ao23 t290.length co23) : Value).ownBlock ∧ some k_ ≠ ((.slice Ao29 t297.length co29) : Value).ownBlock) (.slice Ao35 t302.length co35) t302) ∧ Aside0 (wc.heap[gb284]? = some (.cells #[(.slice A0_0 l0_0.length c0_0),.int .i64 a0_1] 24 (0,0))) ∧ Aside0 (wc.heap[gb296]? = some (.cells #[(.slice Ao23 t290.length co23),.int .i64 t293] 29 (0,0))) ∧ Aside0 (wc.heap[gb301]? = some (.cells #[(.slice Ao29 t297.length co29),.int .i64 t300] 29 (0,0))) ∧ Aside0 (wc.heap[gb308]? = some (.cells #[(.slice Ao35 t302.length co35),.int .i64 t305] 29 (0,0))) ∧ Aside0 (Below w.heap.size w wc))
  case first =>
   have H := HC14.out
   clear HC14
   replace H := Option.bind_eq_some_iff.mp H
   obtain ⟨t309, A400, H⟩ := H
   replace H : (if t309 = true then (if t306 = t294 then (laws_FnExactPoolTake.j0 k a1 a2 a3 t294 t295 t306 t307 (t307 != t295) l0_0 a0_1 t290 t293 t297 t300 t302 t305) else (laws_FnExactPoolTake.j0 k a1 a2 a3 t294 t295 t306 t307 true l0_0 a0_1 t290 t293 t297 t300 t302 t305)) else (laws_FnExactPoolTake.j0 k a1 a2 a3 t294 t295 t306 t307 true l0_0 a0_1 t290 t293 t297 t300 t302 t305)) = some r:=H
   have A40 := Aside0.mk A400
   clear A400
   by_cases c41 : t309 = true
   ·subst c41
    have H1 : (if t306 = t294 then (laws_FnExactPoolTake.j0 k a1 a2 a3 t294 t295 t306 t307 (t307 != t295) l0_0 a0_1 t290 t293 t297 t300 t302 t305) else (laws_FnExactPoolTake.j0 k a1 a2 a3 t294 t295 t306 t307 true l0_0 a0_1 t290 t293 t297 t300 t302 t305)) = some r:=by rw [if_pos rfl] at H;exact H
    clear H
    have H := H1
    clear H1
    by_cases c42 : t306 = t294
    ·rw [if_pos c42] at H
     have c42b0 : (t306 == t294) = true := beq_iff_eq.mpr c42
     have c42b1 : (t306 != t294) = false:=bne_eq_false_iff_eq.mpr c42
     clear c42
     (first|rw [c42b0]|(simp only [i64_w,i32_w];rw [c42b0])|skip)
     have H' := Aside0.mk H
     clear H
     have hnb43 := NB308_284.out
     have hnc43 := NB284_308.out
     have hnb44 := NB308_296.out
     have hnc44 := NB296_308.out
     have hnb45 := NB308_301.out
     have hnc45 := NB301_308.out
     have hcz46_0 : w34.cell? ⟨gb308,0,none⟩ = some (.slice none 0 0):=(blk_cell BK308.out 0).trans rfl
     have hcz46_1 : w34.cell? ⟨gb308,1,none⟩ = some (.int .i64 0):=(blk_cell BK308.out 1).trans rfl
     have hfz46_0 := blk_frozen BK308.out 0
     have hfz46_1 := blk_frozen BK308.out 1
     have hnb47 := NB296_284.out
     have hnc47 := NB284_296.out
     have hnb48 := NB296_301.out
     have hnc48 := NB301_296.out
     have hcz49_0 : w34.cell? ⟨gb296,0,none⟩ = some (.slice Ao23 t290.length co23):=(blk_cell BK296.out 0).trans rfl
     have hcz49_1 : w34.cell? ⟨gb296,1,none⟩ = some (.int .i64 t293):=(blk_cell BK296.out 1).trans rfl
     have hfz49_0 := blk_frozen BK296.out 0
     have hfz49_1 := blk_frozen BK296.out 1
     go_wp2_with (first|((with_reducible refine gate_callee (f:=19) rfl ?_);refine goesL_ (some 51) rfl rfl Try.func19 (by kernel_rfl) rfl #[.agg #[.slice Ao35 t302.length co35,.int .i64 t305],.agg #[.slice Ao23 t290.length co23,.int .i64 t293]] rfl (by (try simp only [List.map_toArray,List.map_cons,List.map_nil]);first|done|rfl|(simp only [List.length_drop,List.length_take];rfl)) ?_;(with_reducible refine (laws_eqPool.calls k _ _ t302 t305 _ _ t290 t293 true _ ?side1 ?side2 ?side3 ?side4 A40.out).mono ?_);(case side1 => refine (Kd.R_reads' (e:=41) (base:=w.heap.size) (ok:=fun k_ => (((True ∧ some k_ ≠ (.slice Ao20 t286.length co20 : Value).ownBlock) ∧ some k_ ≠ (.slice Ao23 t290.length co23 : Value).ownBlock) ∧ some k_ ≠ (.slice Ao29 t297.length co29 : Value).ownBlock)) (n:=t302.length) (c:=co35) ?_).2.2;exact (by (with_reducible repeat (first|apply y_e|apply y_f|apply y_g));exact (y_o (Kd.R_far (p:=⟨gb308,1,none⟩) (Kd.R_far (p:=⟨gb308,0,none⟩) (Kd.R_types HO304.out BK308.out (by decide)) (fun _ hk => hk.2) (.slice Ao35 t302.length co35)) (fun _ hk => hk.2) (.int .i64 t305)) (fun _ h_ => h_.1))));(case side2 => exact (Kd.R_reads' HO304.out).2.1);(case side3 => refine (Kd.R_reads' (e:=41) (base:=w.heap.size) (ok:=fun k_ => (((True ∧ some k_ ≠ (.slice Ao20 t286.length co20 : Value).ownBlock) ∧ some k_ ≠ (.slice Ao29 t297.length co29 : Value).ownBlock) ∧ some k_ ≠ (.slice Ao35 t302.length co35 : Value).ownBlock)) (n:=t290.length) (c:=co23) ?_).2.2;exact (by (with_reducible repeat (first|apply y_e|apply y_f|apply y_g));exact (y_o (Kd.R_far (p:=⟨gb308,1,none⟩) (Kd.R_far (p:=⟨gb308,0,none⟩) (Kd.R_types HO292.out BK308.out (by decide)) (fun _ hk => hk.2) (.slice Ao35 t302.length co35)) (fun _ hk => hk.2) (.int .i64 t305)) (fun _ h_ => h_.1))));(case side4 => exact (Kd.R_reads' HO292.out).2.1);rintro e w50 ⟨rfl,hb⟩;refine ⟨_,rfl,?_⟩;have n0_:=Aside0.mk (Kd.R_below (by (with_reducible repeat (first|apply y_e|apply y_f|apply y_g));exact (y_o (Kd.R_far (p:=⟨gb308,1,none⟩) (Kd.R_far (p:=⟨gb308,0,none⟩) (Kd.R_types HO288.out BK308.out (by decide)) (fun _ hk => hk.2) (.slice Ao35 t302.length co35)) (fun _ hk => hk.2) (.int .i64 t305)) (fun _ h_ => h_.1))) hb);have n1_:=Aside0.mk (Kd.R_below (by (with_reducible repeat (first|apply y_e|apply y_f|apply y_g));exact (y_o (Kd.R_far (p:=⟨gb308,1,none⟩) (Kd.R_far (p:=⟨gb308,0,none⟩) (Kd.R_types HO292.out BK308.out (by decide)) (fun _ hk => hk.2) (.slice Ao35 t302.length co35)) (fun _ hk => hk.2) (.int .i64 t305)) (fun _ h_ => h_.1))) hb);have n2_:=Aside0.mk (Kd.R_below (by (with_reducible repeat (first|apply y_e|apply y_f|apply y_g));exact (y_o (Kd.R_far (p:=⟨gb308,1,none⟩) (Kd.R_far (p:=⟨gb308,0,none⟩) (Kd.R_types HO299.out BK308.out (by decide)) (fun _ hk => hk.2) (.slice Ao35 t302.length co35)) (fun _ hk => hk.2) (.int .i64 t305)) (fun _ h_ => h_.1))) hb);have n3_:=Aside0.mk (Kd.R_below (by (with_reducible repeat (first|apply y_e|apply y_f|apply y_g));exact (y_o (Kd.R_far (p:=⟨gb308,1,none⟩) (Kd.R_far (p:=⟨gb308,0,none⟩) (Kd.R_types HO304.out BK308.out (by decide)) (fun _ hk => hk.2) (.slice Ao35 t302.length co35)) (fun _ hk => hk.2) (.int .i64 t305)) (fun _ h_ => h_.1))) hb);have n4_:=Aside0.mk (blk_below (g:=gb284) (o:=.cells #[.slice A0_0 l0_0.length c0_0,.int .i64 a0_1] 24 (0,0)) (by (with_reducible repeat (first|refine y_b ?_ _|refine y_c ?_|refine y_d ?_ _));refine blk_far ?_ NB284_308.out _;(with_reducible repeat (first|refine y_b ?_ _|refine y_c ?_|refine y_d ?_ _));refine blk_far ?_ NB284_308.out _;(with_reducible repeat (first|refine y_b ?_ _|refine y_c ?_|refine y_d ?_ _));exact BK284.out) hb);have n5_:=Aside0.mk (blk_below (g:=gb296) (o:=.cells #[.slice Ao23 t290.length co23,.int .i64 t293] 29 (0,0)) (by (with_reducible repeat (first|refine y_b ?_ _|refine y_c ?_|refine y_d ?_ _));refine blk_far ?_ NB296_308.out _;(with_reducible repeat (first|refine y_b ?_ _|refine y_c ?_|refine y_d ?_ _));refine blk_far ?_ NB296_308.out _;(with_reducible repeat (first|refine y_b ?_ _|refine y_c ?_|refine y_d ?_ _));exact BK296.out) hb);have n6_:=Aside0.mk (blk_below (g:=gb301) (o:=.cells #[.slice Ao29 t297.length co29,.int .i64 t300] 29 (0,0)) (by (with_reducible repeat (first|refine y_b ?_ _|refine y_c ?_|refine y_d ?_ _));refine blk_far ?_ NB301_308.out _;(with_reducible repeat (first|refine y_b ?_ _|refine y_c ?_|refine y_d ?_ _));refine blk_far ?_ NB301_308.out _;(with_reducible repeat (first|refine y_b ?_ _|refine y_c ?_|refine y_d ?_ _));exact BK301.out) hb);have n7_:=Aside0.mk (blk_below (g:=gb308) (o:=.cells #[.slice Ao35 t302.length co35,.int .i64 t305] 29 (0,0)) (by (with_reducible repeat (first|refine y_b ?_ _|refine y_c ?_|refine y_d ?_ _));refine blk_put (cs:=#[.slice Ao35 t302.length co35,.int .i64 0]) ?_ 1 _ rfl;(with_reducible repeat (first|refine y_b ?_ _|refine y_c ?_|refine y_d ?_ _));refine blk_put (cs:=#[.slice none 0 0,.int .i64 0]) ?_ 0 _ rfl;(with_reducible repeat (first|refine y_b ?_ _|refine y_c ?_|refine y_d ?_ _));exact BK308.out) hb);have n8_:=Aside0.mk (below_step (by repeat (first|(with_reducible first|exact HB.out|apply y_h|apply y_i|apply y_j|refine y_n ?_ GE284.out|refine y_n ?_ GE296.out|refine y_n ?_ GE301.out|refine y_n ?_ GE308.out)|exact HB.out)) hb);clear HO288 HO292 HO299 HO304 BK284 BK296 BK301 BK308 HB;have HO288:=n0_;have HO292:=n1_;have HO299:=n2_;have HO304:=n3_;have BK284:=n4_;have BK296:=n5_;have BK301:=n6_;have BK308:=n7_;have HB:=n8_;clear n0_ n1_ n2_ n3_ n4_ n5_ n6_ n7_ n8_;(try clear hb);(try clear hb2);(try clear hk);(try clear hi)))
     go_meet
     case rel => exact ⟨_,((t307 != t295)),(by first|rfl|(simp;done)|(simp [*];done)),H',⟨by first|omega|exact Nat.le_refl _⟩,⟨by (with_reducible repeat (first|apply y_e|apply y_f|apply y_g));exact y_o HO292.out (fun _ hk => ⟨hk.1.2,hk.2⟩)⟩,⟨by (with_reducible repeat (first|apply y_e|apply y_f|apply y_g));exact y_o HO299.out (fun _ hk => ⟨hk.1.2,hk.2⟩)⟩,⟨by (with_reducible repeat (first|apply y_e|apply y_f|apply y_g));exact y_o HO304.out (fun _ hk => ⟨hk.1.2,hk.2⟩)⟩,⟨by (with_reducible repeat (first|refine y_b ?_ _|refine y_c ?_|refine y_d ?_ _));exact BK284.out⟩,⟨by (with_reducible repeat (first|refine y_b ?_ _|refine y_c ?_|refine y_d ?_ _));exact BK296.out⟩,⟨by (with_reducible repeat (first|refine y_b ?_ _|refine y_c ?_|refine y_d ?_ _));exact BK301.out⟩,⟨by (with_reducible repeat (first|refine y_b ?_ _|refine y_c ?_|refine y_d ?_ _));exact BK308.out⟩,⟨by repeat (first|(with_reducible first|exact HB.out|apply y_h|apply y_i|apply y_j|refine y_n ?_ GE284.out|refine y_n ?_ GE296.out|refine y_n ?_ GE301.out|refine y_n ?_ GE308.out)|exact HB.out)⟩⟩
    ·rw [if_neg c42] at H
     have c42b0 : (t306 == t294) = false:=beq_eq_false_iff_ne.mpr c42
     have c42b1 : (t306 != t294) = true := bne_iff_ne.mpr c42
     (first|rw [c42b0]|(simp only [i64_w,i32_w];rw [c42b0])|skip)
     have H' := Aside0.mk H
     clear H
     have hnb51 := NB308_284.out
     have hnc51 := NB284_308.out
     have hnb52 := NB308_296.out
     have hnc52 := NB296_308.out
     have hnb53 := NB308_301.out
     have hnc53 := NB301_308.out
     have hcz54_0 : w34.cell? ⟨gb308,0,none⟩ = some (.slice none 0 0):=(blk_cell BK308.out 0).trans rfl
     have hcz54_1 : w34.cell? ⟨gb308,1,none⟩ = some (.int .i64 0):=(blk_cell BK308.out 1).trans rfl
     have hfz54_0 := blk_frozen BK308.out 0
     have hfz54_1 := blk_frozen BK308.out 1
     have hnb55 := NB296_284.out
     have hnc55 := NB284_296.out
     have hnb56 := NB296_301.out
     have hnc56 := NB301_296.out
     have hcz57_0 : w34.cell? ⟨gb296,0,none⟩ = some (.slice Ao23 t290.length co23):=(blk_cell BK296.out 0).trans rfl
     have hcz57_1 : w34.cell? ⟨gb296,1,none⟩ = some (.int .i64 t293):=(blk_cell BK296.out 1).trans rfl
     have hfz57_0 := blk_frozen BK296.out 0
     have hfz57_1 := blk_frozen BK296.out 1
     go_wp2_with (first|((with_reducible refine gate_callee (f:=19) rfl ?_);refine goesL_ (some 51) rfl rfl Try.func19 (by kernel_rfl) rfl #[.agg #[.slice Ao35 t302.length co35,.int .i64 t305],.agg #[.slice Ao23 t290.length co23,.int .i64 t293]] rfl (by (try simp only [List.map_toArray,List.map_cons,List.map_nil]);first|done|rfl|(simp only [List.length_drop,List.length_take];rfl)) ?_;(with_reducible refine (laws_eqPool.calls k _ _ t302 t305 _ _ t290 t293 true _ ?side1 ?side2 ?side3 ?side4 A40.out).mono ?_);(case side1 => refine (Kd.R_reads' (e:=41) (base:=w.heap.size) (ok:=fun k_ => (((True ∧ some k_ ≠ (.slice Ao20 t286.length co20 : Value).ownBlock) ∧ some k_ ≠ (.slice Ao23 t290.length co23 : Value).ownBlock) ∧ some k_ ≠ (.slice Ao29 t297.length co29 : Value).ownBlock)) (n:=t302.length) (c:=co35) ?_).2.2;exact (by (with_reducible repeat (first|apply y_e|apply y_f|apply y_g));exact (y_o (Kd.R_far (p:=⟨gb308,1,none⟩) (Kd.R_far (p:=⟨gb308,0,none⟩) (Kd.R_types HO304.out BK308.out (by decide)) (fun _ hk => hk.2) (.slice Ao35 t302.length co35)) (fun _ hk => hk.2) (.int .i64 t305)) (fun _ h_ => h_.1))));(case side2 => exact (Kd.R_reads' HO304.out).2.1);(case side3 => refine (Kd.R_reads' (e:=41) (base:=w.heap.size) (ok:=fun k_ => (((True ∧ some k_ ≠ (.slice Ao20 t286.length co20 : Value).ownBlock) ∧ some k_ ≠ (.slice Ao29 t297.length co29 : Value).ownBlock) ∧ some k_ ≠ (.slice Ao35 t302.length co35 : Value).ownBlock)) (n:=t290.length) (c:=co23) ?_).2.2;exact (by (with_reducible repeat (first|apply y_e|apply y_f|apply y_g));exact (y_o (Kd.R_far (p:=⟨gb308,1,none⟩) (Kd.R_far (p:=⟨gb308,0,none⟩) (Kd.R_types HO292.out BK308.out (by decide)) (fun _ hk => hk.2) (.slice Ao35 t302.length co35)) (fun _ hk => hk.2) (.int .i64 t305)) (fun _ h_ => h_.1))));(case side4 => exact (Kd.R_reads' HO292.out).2.1);rintro e w58 ⟨rfl,hb⟩;refine ⟨_,rfl,?_⟩;have n0_:=Aside0.mk (Kd.R_below (by (with_reducible repeat (first|apply y_e|apply y_f|apply y_g));exact (y_o (Kd.R_far (p:=⟨gb308,1,none⟩) (Kd.R_far (p:=⟨gb308,0,none⟩) (Kd.R_types HO288.out BK308.out (by decide)) (fun _ hk => hk.2) (.slice Ao35 t302.length co35)) (fun _ hk => hk.2) (.int .i64 t305)) (fun _ h_ => h_.1))) hb);have n1_:=Aside0.mk (Kd.R_below (by (with_reducible repeat (first|apply y_e|apply y_f|apply y_g));exact (y_o (Kd.R_far (p:=⟨gb308,1,none⟩) (Kd.R_far (p:=⟨gb308,0,none⟩) (Kd.R_types HO292.out BK308.out (by decide)) (fun _ hk => hk.2) (.slice Ao35 t302.length co35)) (fun _ hk => hk.2) (.int .i64 t305)) (fun _ h_ => h_.1))) hb);have n2_:=Aside0.mk (Kd.R_below (by (with_reducible repeat (first|apply y_e|apply y_f|apply y_g));exact (y_o (Kd.R_far (p:=⟨gb308,1,none⟩) (Kd.R_far (p:=⟨gb308,0,none⟩) (Kd.R_types HO299.out BK308.out (by decide)) (fun _ hk => hk.2) (.slice Ao35 t302.length co35)) (fun _ hk => hk.2) (.int .i64 t305)) (fun _ h_ => h_.1))) hb);have n3_:=Aside0.mk (Kd.R_below (by (with_reducible repeat (first|apply y_e|apply y_f|apply y_g));exact (y_o (Kd.R_far (p:=⟨gb308,1,none⟩) (Kd.R_far (p:=⟨gb308,0,none⟩) (Kd.R_types HO304.out BK308.out (by decide)) (fun _ hk => hk.2) (.slice Ao35 t302.length co35)) (fun _ hk => hk.2) (.int .i64 t305)) (fun _ h_ => h_.1))) hb);have n4_:=Aside0.mk (blk_below (g:=gb284) (o:=.cells #[.slice A0_0 l0_0.length c0_0,.int .i64 a0_1] 24 (0,0)) (by (with_reducible repeat (first|refine y_b ?_ _|refine y_c ?_|refine y_d ?_ _));refine blk_far ?_ NB284_308.out _;(with_reducible repeat (first|refine y_b ?_ _|refine y_c ?_|refine y_d ?_ _));refine blk_far ?_ NB284_308.out _;(with_reducible repeat (first|refine y_b ?_ _|refine y_c ?_|refine y_d ?_ _));exact BK284.out) hb);have n5_:=Aside0.mk (blk_below (g:=gb296) (o:=.cells #[.slice Ao23 t290.length co23,.int .i64 t293] 29 (0,0)) (by (with_reducible repeat (first|refine y_b ?_ _|refine y_c ?_|refine y_d ?_ _));refine blk_far ?_ NB296_308.out _;(with_reducible repeat (first|refine y_b ?_ _|refine y_c ?_|refine y_d ?_ _));refine blk_far ?_ NB296_308.out _;(with_reducible repeat (first|refine y_b ?_ _|refine y_c ?_|refine y_d ?_ _));exact BK296.out) hb);have n6_:=Aside0.mk (blk_below (g:=gb301) (o:=.cells #[.slice Ao29 t297.length co29,.int .i64 t300] 29 (0,0)) (by (with_reducible repeat (first|refine y_b ?_ _|refine y_c ?_|refine y_d ?_ _));refine blk_far ?_ NB301_308.out _;(with_reducible repeat (first|refine y_b ?_ _|refine y_c ?_|refine y_d ?_ _));refine blk_far ?_ NB301_308.out _;(with_reducible repeat (first|refine y_b ?_ _|refine y_c ?_|refine y_d ?_ _));exact BK301.out) hb);have n7_:=Aside0.mk (blk_below (g:=gb308) (o:=.cells #[.slice Ao35 t302.length co35,.int .i64 t305] 29 (0,0)) (by (with_reducible repeat (first|refine y_b ?_ _|refine y_c ?_|refine y_d ?_ _));refine blk_put (cs:=#[.slice Ao35 t302.length co35,.int .i64 0]) ?_ 1 _ rfl;(with_reducible repeat (first|refine y_b ?_ _|refine y_c ?_|refine y_d ?_ _));refine blk_put (cs:=#[.slice none 0 0,.int .i64 0]) ?_ 0 _ rfl;(with_reducible repeat (first|refine y_b ?_ _|refine y_c ?_|refine y_d ?_ _));exact BK308.out) hb);have n8_:=Aside0.mk (below_step (by repeat (first|(with_reducible first|exact HB.out|apply y_h|apply y_i|apply y_j|refine y_n ?_ GE284.out|refine y_n ?_ GE296.out|refine y_n ?_ GE301.out|refine y_n ?_ GE308.out)|exact HB.out)) hb);clear HO288 HO292 HO299 HO304 BK284 BK296 BK301 BK308 HB;have HO288:=n0_;have HO292:=n1_;have HO299:=n2_;have HO304:=n3_;have BK284:=n4_;have BK296:=n5_;have BK301:=n6_;have BK308:=n7_;have HB:=n8_;clear n0_ n1_ n2_ n3_ n4_ n5_ n6_ n7_ n8_;(try clear hb);(try clear hb2);(try clear hk);(try clear hi)))
     go_meet
     case rel => exact ⟨_,(true),(by first|rfl|(simp;done)|(simp [*];done)),H',⟨by first|omega|exact Nat.le_refl _⟩,⟨by (with_reducible repeat (first|apply y_e|apply y_f|apply y_g));exact y_o HO292.out (fun _ hk => ⟨hk.1.2,hk.2⟩)⟩,⟨by (with_reducible repeat (first|apply y_e|apply y_f|apply y_g));exact y_o HO299.out (fun _ hk => ⟨hk.1.2,hk.2⟩)⟩,⟨by (with_reducible repeat (first|apply y_e|apply y_f|apply y_g));exact y_o HO304.out (fun _ hk => ⟨hk.1.2,hk.2⟩)⟩,⟨by (with_reducible repeat (first|refine y_b ?_ _|refine y_c ?_|refine y_d ?_ _));exact BK284.out⟩,⟨by (with_reducible repeat (first|refine y_b ?_ _|refine y_c ?_|refine y_d ?_ _));exact BK296.out⟩,⟨by (with_reducible repeat (first|refine y_b ?_ _|refine y_c ?_|refine y_d ?_ _));exact BK301.out⟩,⟨by (with_reducible repeat (first|refine y_b ?_ _|refine y_c ?_|refine y_d ?_ _));exact BK308.out⟩,⟨by repeat (first|(with_reducible first|exact HB.out|apply y_h|apply y_i|apply y_j|refine y_n ?_ GE284.out|refine y_n ?_ GE296.out|refine y_n ?_ GE301.out|refine y_n ?_ GE308.out)|exact HB.out)⟩⟩
   ·replace c41 := Bool.eq_false_iff.mpr c41
    subst c41
    have H1 : (laws_FnExactPoolTake.j0 k a1 a2 a3 t294 t295 t306 t307 true l0_0 a0_1 t290 t293 t297 t300 t302 t305) = some r:=by rw [if_neg (show ¬ (false = true) by decide)] at H;exact H
    clear H
    have H := H1
    clear H1
    have H' := Aside0.mk H
    clear H
    have hnb59 := NB308_284.out
    have hnc59 := NB284_308.out
    have hnb60 := NB308_296.out
    have hnc60 := NB296_308.out
    have hnb61 := NB308_301.out
    have hnc61 := NB301_308.out
    have hcz62_0 : w34.cell? ⟨gb308,0,none⟩ = some (.slice none 0 0):=(blk_cell BK308.out 0).trans rfl
    have hcz62_1 : w34.cell? ⟨gb308,1,none⟩ = some (.int .i64 0):=(blk_cell BK308.out 1).trans rfl
    have hfz62_0 := blk_frozen BK308.out 0
    have hfz62_1 := blk_frozen BK308.out 1
    have hnb63 := NB296_284.out
    have hnc63 := NB284_296.out
    have hnb64 := NB296_301.out
    have hnc64 := NB301_296.out
    have hcz65_0 : w34.cell? ⟨gb296,0,none⟩ = some (.slice Ao23 t290.length co23):=(blk_cell BK296.out 0).trans rfl
    have hcz65_1 : w34.cell? ⟨gb296,1,none⟩ = some (.int .i64 t293):=(blk_cell BK296.out 1).trans rfl
    have hfz65_0 := blk_frozen BK296.out 0
    have hfz65_1 := blk_frozen BK296.out 1
    go_wp2_with (first|((with_reducible refine gate_callee (f:=19) rfl ?_);refine goesL_ (some 51) rfl rfl Try.func19 (by kernel_rfl) rfl #[.agg #[.slice Ao35 t302.length co35,.int .i64 t305],.agg #[.slice Ao23 t290.length co23,.int .i64 t293]] rfl (by (try simp only [List.map_toArray,List.map_cons,List.map_nil]);first|done|rfl|(simp only [List.length_drop,List.length_take];rfl)) ?_;(with_reducible refine (laws_eqPool.calls k _ _ t302 t305 _ _ t290 t293 false _ ?side1 ?side2 ?side3 ?side4 A40.out).mono ?_);(case side1 => refine (Kd.R_reads' (e:=41) (base:=w.heap.size) (ok:=fun k_ => (((True ∧ some k_ ≠ (.slice Ao20 t286.length co20 : Value).ownBlock) ∧ some k_ ≠ (.slice Ao23 t290.length co23 : Value).ownBlock) ∧ some k_ ≠ (.slice Ao29 t297.length co29 : Value).ownBlock)) (n:=t302.length) (c:=co35) ?_).2.2;exact (by (with_reducible repeat (first|apply y_e|apply y_f|apply y_g));exact (y_o (Kd.R_far (p:=⟨gb308,1,none⟩) (Kd.R_far (p:=⟨gb308,0,none⟩) (Kd.R_types HO304.out BK308.out (by decide)) (fun _ hk => hk.2) (.slice Ao35 t302.length co35)) (fun _ hk => hk.2) (.int .i64 t305)) (fun _ h_ => h_.1))));(case side2 => exact (Kd.R_reads' HO304.out).2.1);(case side3 => refine (Kd.R_reads' (e:=41) (base:=w.heap.size) (ok:=fun k_ => (((True ∧ some k_ ≠ (.slice Ao20 t286.length co20 : Value).ownBlock) ∧ some k_ ≠ (.slice Ao29 t297.length co29 : Value).ownBlock) ∧ some k_ ≠ (.slice Ao35 t302.length co35 : Value).ownBlock)) (n:=t290.length) (c:=co23) ?_).2.2;exact (by (with_reducible repeat (first|apply y_e|apply y_f|apply y_g));exact (y_o (Kd.R_far (p:=⟨gb308,1,none⟩) (Kd.R_far (p:=⟨gb308,0,none⟩) (Kd.R_types HO292.out BK308.out (by decide)) (fun _ hk => hk.2) (.slice Ao35 t302.length co35)) (fun _ hk => hk.2) (.int .i64 t305)) (fun _ h_ => h_.1))));(case side4 => exact (Kd.R_reads' HO292.out).2.1);rintro e w66 ⟨rfl,hb⟩;refine ⟨_,rfl,?_⟩;have n0_:=Aside0.mk (Kd.R_below (by (with_reducible repeat (first|apply y_e|apply y_f|apply y_g));exact (y_o (Kd.R_far (p:=⟨gb308,1,none⟩) (Kd.R_far (p:=⟨gb308,0,none⟩) (Kd.R_types HO288.out BK308.out (by decide)) (fun _ hk => hk.2) (.slice Ao35 t302.length co35)) (fun _ hk => hk.2) (.int .i64 t305)) (fun _ h_ => h_.1))) hb);have n1_:=Aside0.mk (Kd.R_below (by (with_reducible repeat (first|apply y_e|apply y_f|apply y_g));exact (y_o (Kd.R_far (p:=⟨gb308,1,none⟩) (Kd.R_far (p:=⟨gb308,0,none⟩) (Kd.R_types HO292.out BK308.out (by decide)) (fun _ hk => hk.2) (.slice Ao35 t302.length co35)) (fun _ hk => hk.2) (.int .i64 t305)) (fun _ h_ => h_.1))) hb);have n2_:=Aside0.mk (Kd.R_below (by (with_reducible repeat (first|apply y_e|apply y_f|apply y_g));exact (y_o (Kd.R_far (p:=⟨gb308,1,none⟩) (Kd.R_far (p:=⟨gb308,0,none⟩) (Kd.R_types HO299.out BK308.out (by decide)) (fun _ hk => hk.2) (.slice Ao35 t302.length co35)) (fun _ hk => hk.2) (.int .i64 t305)) (fun _ h_ => h_.1))) hb);have n3_:=Aside0.mk (Kd.R_below (by (with_reducible repeat (first|apply y_e|apply y_f|apply y_g));exact (y_o (Kd.R_far (p:=⟨gb308,1,none⟩) (Kd.R_far (p:=⟨gb308,0,none⟩) (Kd.R_types HO304.out BK308.out (by decide)) (fun _ hk => hk.2) (.slice Ao35 t302.length co35)) (fun _ hk => hk.2) (.int .i64 t305)) (fun _ h_ => h_.1))) hb);have n4_:=Aside0.mk (blk_below (g:=gb284) (o:=.cells #[.slice A0_0 l0_0.length c0_0,.int .i64 a0_1] 24 (0,0)) (by (with_reducible repeat (first|refine y_b ?_ _|refine y_c ?_|refine y_d ?_ _));refine blk_far ?_ NB284_308.out _;(with_reducible repeat (first|refine y_b ?_ _|refine y_c ?_|refine y_d ?_ _));refine blk_far ?_ NB284_308.out _;(with_reducible repeat (first|refine y_b ?_ _|refine y_c ?_|refine y_d ?_ _));exact BK284.out) hb);have n5_:=Aside0.mk (blk_below (g:=gb296) (o:=.cells #[.slice Ao23 t290.length co23,.int .i64 t293] 29 (0,0)) (by (with_reducible repeat (first|refine y_b ?_ _|refine y_c ?_|refine y_d ?_ _));refine blk_far ?_ NB296_308.out _;(with_reducible repeat (first|refine y_b ?_ _|refine y_c ?_|refine y_d ?_ _));refine blk_far ?_ NB296_308.out _;(with_reducible repeat (first|refine y_b ?_ _|refine y_c ?_|refine y_d ?_ _));exact BK296.out) hb);have n6_:=Aside0.mk (blk_below (g:=gb301) (o:=.cells #[.slice Ao29 t297.length co29,.int .i64 t300] 29 (0,0)) (by (with_reducible repeat (first|refine y_b ?_ _|refine y_c ?_|refine y_d ?_ _));refine blk_far ?_ NB301_308.out _;(with_reducible repeat (first|refine y_b ?_ _|refine y_c ?_|refine y_d ?_ _));refine blk_far ?_ NB301_308.out _;(with_reducible repeat (first|refine y_b ?_ _|refine y_c ?_|refine y_d ?_ _));exact BK301.out) hb);have n7_:=Aside0.mk (blk_below (g:=gb308) (o:=.cells #[.slice Ao35 t302.length co35,.int .i64 t305] 29 (0,0)) (by (with_reducible repeat (first|refine y_b ?_ _|refine y_c ?_|refine y_d ?_ _));refine blk_put (cs:=#[.slice Ao35 t302.length co35,.int .i64 0]) ?_ 1 _ rfl;(with_reducible repeat (first|refine y_b ?_ _|refine y_c ?_|refine y_d ?_ _));refine blk_put (cs:=#[.slice none 0 0,.int .i64 0]) ?_ 0 _ rfl;(with_reducible repeat (first|refine y_b ?_ _|refine y_c ?_|refine y_d ?_ _));exact BK308.out) hb);have n8_:=Aside0.mk (below_step (by repeat (first|(with_reducible first|exact HB.out|apply y_h|apply y_i|apply y_j|refine y_n ?_ GE284.out|refine y_n ?_ GE296.out|refine y_n ?_ GE301.out|refine y_n ?_ GE308.out)|exact HB.out)) hb);clear HO288 HO292 HO299 HO304 BK284 BK296 BK301 BK308 HB;have HO288:=n0_;have HO292:=n1_;have HO299:=n2_;have HO304:=n3_;have BK284:=n4_;have BK296:=n5_;have BK301:=n6_;have BK308:=n7_;have HB:=n8_;clear n0_ n1_ n2_ n3_ n4_ n5_ n6_ n7_ n8_;(try clear hb);(try clear hb2);(try clear hk);(try clear hi)))
    go_meet
    case rel => exact ⟨_,(true),(by first|rfl|(simp;done)|(simp [*];done)),H',⟨by first|omega|exact Nat.le_refl _⟩,⟨by (with_reducible repeat (first|apply y_e|apply y_f|apply y_g));exact y_o HO292.out (fun _ hk => ⟨hk.1.2,hk.2⟩)⟩,⟨by (with_reducible repeat (first|apply y_e|apply y_f|apply y_g));exact y_o HO299.out (fun _ hk => ⟨hk.1.2,hk.2⟩)⟩,⟨by (with_reducible repeat (first|apply y_e|apply y_f|apply y_g));exact y_o HO304.out (fun _ hk => ⟨hk.1.2,hk.2⟩)⟩,⟨by (with_reducible repeat (first|refine y_b ?_ _|refine y_c ?_|refine y_d ?_ _));exact BK284.out⟩,⟨by (with_reducible repeat (first|refine y_b ?_ _|refine y_c ?_|refine y_d ?_ _));exact BK296.out⟩,⟨by (with_reducible repeat (first|refine y_b ?_ _|refine y_c ?_|refine y_d ?_ _));exact BK301.out⟩,⟨by (with_reducible repeat (first|refine y_b ?_ _|refine y_c ?_|refine y_d ?_ _));exact BK308.out⟩,⟨by repeat (first|(with_reducible first|exact HB.out|apply y_h|apply y_i|apply y_j|refine y_n ?_ GE284.out|refine y_n ?_ GE296.out|refine y_n ?_ GE301.out|refine y_n ?_ GE308.out)|exact HB.out)⟩⟩
  case rest =>
   clear HC14
   try clear c1
   try clear c2
   try clear p2
   try clear c3
   try clear c4
   try clear c5
   try clear c6
   try clear c6b0
   try clear c13
   try clear c15
   try clear c17
   try clear c19
   try clear c24
   try clear c30
   try clear c31
   try clear c32
   try clear c34
   try clear c36
   try clear c37
   try clear c38
   try clear c41
   try clear c42
   try clear c42b0
   try clear c42b1
   try clear c43
   try clear c44
   try clear c45
   try clear c47
   try clear c48
   try clear c51
   try clear c52
   try clear c53
   try clear c55
   try clear c56
   try clear c59
   try clear c60
   try clear c61
   try clear c63
   try clear c64
   try clear hcz16_0
   try clear hcz16_1
   try clear hcz18_0
   try clear hcz18_1
   try clear hcz25_0
   try clear hcz25_1
   try clear hcz26_0
   try clear hcz26_1
   try clear hcz32_0
   try clear hcz32_1
   try clear hcz39_0
   try clear hcz39_1
   try clear hcz46_0
   try clear hcz46_1
   try clear hcz49_0
   try clear hcz49_1
   try clear hcz54_0
   try clear hcz54_1
   try clear hcz57_0
   try clear hcz57_1
   try clear hcz62_0
   try clear hcz62_1
   try clear hcz65_0
   try clear hcz65_1
   try clear hcz8_0
   try clear hcz8_1
   try clear hfz16_0
   try clear hfz16_1
   try clear hfz18_0
   try clear hfz18_1
   try clear hfz25_0
   try clear hfz25_1
   try clear hfz26_0
   try clear hfz26_1
   try clear hfz32_0
   try clear hfz32_1
   try clear hfz39_0
   try clear hfz39_1
   try clear hfz46_0
   try clear hfz46_1
   try clear hfz49_0
   try clear hfz49_1
   try clear hfz54_0
   try clear hfz54_1
   try clear hfz57_0
   try clear hfz57_1
   try clear hfz62_0
   try clear hfz62_1
   try clear hfz65_0
   try clear hfz65_1
   try clear hfz8_0
   try clear hfz8_1
   obtain ⟨kq,x62_13,rfl,HA,HJ13,HO_297000,HO_302000,HO_309000,BK284,BK296,BK301,BK308,HB⟩:=hcut
   cases kq with
   | zero => exact absurd HA.out (by simp [laws_FnExactPoolTake.j0])
   | succ kj13 =>
    have H := HA.out
    clear HA
    simp only [laws_FnExactPoolTake.j0] at H
    by_cases c67 : x62_13 = true
    ·subst c67
     have H1 : (some false) = some r:=by rw [if_pos rfl] at H;exact H
     clear H
     have H := H1
     clear H1
     obtain rfl := Option.some.inj H
     go_wp2
     go_ret
     exact ⟨by first|rfl|(simp [errW_none,errW_some] <;> rfl)|(simp [*,errW_none,errW_some] <;> rfl),by repeat (first|(with_reducible first|exact HB.out|apply y_h|apply y_i|apply y_j|refine y_n ?_ GE284.out|refine y_n ?_ GE296.out|refine y_n ?_ GE301.out|refine y_n ?_ GE308.out)|exact HB.out)⟩
    ·replace c67 := Bool.eq_false_iff.mpr c67
     subst c67
     have H1 : ((laws_toPool.f kj13 l0_0 a0_1).bind fun bt310 => ((laws_eqPool.f kj13 t297 t300 bt310.1 bt310.2).bind fun t314 => (if t314 = true then ((laws_markPool.f kj13 t297 t300 1).bind fun bt315 => (if bt315.1 < 0 then (laws_FnExactPoolTake.j1 kj13 a1 a2 a3 t294 t295 true l0_0 a0_1 t290 t293 t302 t305) else ((laws_eqPool.f kj13 t302 t305 t290 t293).bind fun t317 => (if t317 = true then (if t306 = t294 then (laws_FnExactPoolTake.j1 kj13 a1 a2 a3 t294 t295 (t307 != t295) l0_0 a0_1 t290 t293 t302 t305) else (laws_FnExactPoolTake.j1 kj13 a1 a2 a3 t294 t295 true l0_0 a0_1 t290 t293 t302 t305)) else (laws_FnExactPoolTake.j1 kj13 a1 a2 a3 t294 t295 true l0_0 a0_1 t290 t293 t302 t305))))) else (some false)))) = some r:=by rw [if_neg (show ¬ (false = true) by decide)] at H;exact H
     clear H
     have H := H1
     clear H1
     replace H := Option.bind_eq_some_iff.mp H
     obtain ⟨⟨t310, t313⟩, A680, H⟩ := H
     replace H : ((laws_eqPool.f kj13 t297 t300 t310 t313).bind fun t314 => (if t314 = true then ((laws_markPool.f kj13 t297 t300 1).bind fun bt315 => (if bt315.1 < 0 then (laws_FnExactPoolTake.j1 kj13 a1 a2 a3 t294 t295 true l0_0 a0_1 t290 t293 t302 t305) else ((laws_eqPool.f kj13 t302 t305 t290 t293).bind fun t317 => (if t317 = true then (if t306 = t294 then (laws_FnExactPoolTake.j1 kj13 a1 a2 a3 t294 t295 (t307 != t295) l0_0 a0_1 t290 t293 t302 t305) else (laws_FnExactPoolTake.j1 kj13 a1 a2 a3 t294 t295 true l0_0 a0_1 t290 t293 t302 t305)) else (laws_FnExactPoolTake.j1 kj13 a1 a2 a3 t294 t295 true l0_0 a0_1 t290 t293 t302 t305))))) else (some false))) = some r:=H
     have A68 := Aside0.mk A680
     clear A680
     replace H := Option.bind_eq_some_iff.mp H
     obtain ⟨t314, A690, H⟩ := H
     replace H : (if t314 = true then ((laws_markPool.f kj13 t297 t300 1).bind fun bt315 => (if bt315.1 < 0 then (laws_FnExactPoolTake.j1 kj13 a1 a2 a3 t294 t295 true l0_0 a0_1 t290 t293 t302 t305) else ((laws_eqPool.f kj13 t302 t305 t290 t293).bind fun t317 => (if t317 = true then (if t306 = t294 then (laws_FnExactPoolTake.j1 kj13 a1 a2 a3 t294 t295 (t307 != t295) l0_0 a0_1 t290 t293 t302 t305) else (laws_FnExactPoolTake.j1 kj13 a1 a2 a3 t294 t295 true l0_0 a0_1 t290 t293 t302 t305)) else (laws_FnExactPoolTake.j1 kj13 a1 a2 a3 t294 t295 true l0_0 a0_1 t290 t293 t302 t305))))) else (some false)) = some r:=H
     have A69 := Aside0.mk A690
     clear A690
     by_cases c70 : t314 = true
     ·subst c70
      have H1 : ((laws_markPool.f kj13 t297 t300 1).bind fun bt315 => (if bt315.1 < 0 then (laws_FnExactPoolTake.j1 kj13 a1 a2 a3 t294 t295 true l0_0 a0_1 t290 t293 t302 t305) else ((laws_eqPool.f kj13 t302 t305 t290 t293).bind fun t317 => (if t317 = true then (if t306 = t294 then (laws_FnExactPoolTake.j1 kj13 a1 a2 a3 t294 t295 (t307 != t295) l0_0 a0_1 t290 t293 t302 t305) else (laws_FnExactPoolTake.j1 kj13 a1 a2 a3 t294 t295 true l0_0 a0_1 t290 t293 t302 t305)) else (laws_FnExactPoolTake.j1 kj13 a1 a2 a3 t294 t295 true l0_0 a0_1 t290 t293 t302 t305))))) = some r:=by rw [if_pos rfl] at H;exact H
      clear H
      have H := H1
      clear H1
      replace H := Option.bind_eq_some_iff.mp H
      obtain ⟨⟨t315, t316⟩, A710, H⟩ := H
      replace H : (if t315 < 0 then (laws_FnExactPoolTake.j1 kj13 a1 a2 a3 t294 t295 true l0_0 a0_1 t290 t293 t302 t305) else ((laws_eqPool.f kj13 t302 t305 t290 t293).bind fun t317 => (if t317 = true then (if t306 = t294 then (laws_FnExactPoolTake.j1 kj13 a1 a2 a3 t294 t295 (t307 != t295) l0_0 a0_1 t290 t293 t302 t305) else (laws_FnExactPoolTake.j1 kj13 a1 a2 a3 t294 t295 true l0_0 a0_1 t290 t293 t302 t305)) else (laws_FnExactPoolTake.j1 kj13 a1 a2 a3 t294 t295 true l0_0 a0_1 t290 t293 t302 t305)))) = some r:=H
      have A71 := Aside0.mk A710
      clear A710
      have HC72 := Aside0.mk H
      clear H
      try go_wp2
      have n0_ := Aside0.mk (y_g HO_297000.out)
      have n1_ := Aside0.mk (y_g HO_302000.out)
      have n2_ := Aside0.mk (y_g HO_309000.out)
      have n3_ := Aside0.mk (y_c BK284.out)
      have n4_ := Aside0.mk (y_c BK296.out)
      have n5_ := Aside0.mk (y_c BK301.out)
      have n6_ := Aside0.mk (y_c BK308.out)
      have n7_ := Aside0.mk (y_j HB.out)
      clear HO_297000
      clear HO_302000
      clear HO_309000
      clear BK284
      clear BK296
      clear BK301
      clear BK308
      clear HB
      have HO_297000 := n0_
      have HO_302000 := n1_
      have HO_309000 := n2_
      have BK284 := n3_
      have BK296 := n4_
      have BK301 := n5_
      have BK308 := n6_
      have HB := n7_
      clear n0_ n1_ n2_ n3_ n4_ n5_ n6_ n7_
      refine start_ (n:=5) (S:=fun w' => w'.cell? ⟨gb301,0,none⟩ = some (.slice Ao29 t297.length co29) ∧ w'.cell? ⟨gb301,1,none⟩ = some (.int .i64 t300) ∧ w'.cell? ⟨gb284,0,none⟩ = some (.slice A0_0 l0_0.length c0_0) ∧ w'.cell? ⟨gb284,1,none⟩ = some (.int .i64 a0_1)) (ds:=[]) #[false,false,false,false,false] (by kernel_rfl) rfl rfl ⟨(blk_cell BK301.out 0).trans rfl,(blk_cell BK301.out 1).trans rfl,(blk_cell BK284.out 0).trans rfl,(blk_cell BK284.out 1).trans rfl⟩ (fun hHeld => ?_)
      generalize wc.drew = w73 at HO_297000 HO_302000 HO_309000 BK284 BK296 BK301 BK308 HB hHeld ⊢
      refine take_ (i:=0) (N:=some 63) (v:=?_) (a':=?_) #[true,false,false,false,false] rfl rfl (by kernel_rfl) (fun _ _ _ h => h) (Or.inl ⟨by rfl,?_⟩) hHeld ?_ ?_
      rotate_left
      ·rintro w' ⟨s0, s1, s2, s3⟩
       go_simp
       with_reducible rfl
      rotate_left
      ·simp only [Act.put,List.setIfInBounds_toArray,List.set_cons_zero,List.set_cons_succ,i64_w,i32_w]
       rfl
      refine take_ (i:=1) (N:=some 64) (v:=?_) (a':=?_) #[true,true,false,false,false] rfl rfl (by kernel_rfl) (fun _ _ _ h => h) (Or.inl ⟨by rfl,?_⟩) hHeld ?_ ?_
      rotate_left
      ·rintro w' ⟨s0, s1, s2, s3⟩
       go_simp
       with_reducible rfl
      rotate_left
      ·simp only [Act.put,List.setIfInBounds_toArray,List.set_cons_zero,List.set_cons_succ,i64_w,i32_w]
       rfl
      refine one_ (i:=2) (N:=some 65) #[true,true,true,false,false] rfl rfl (by kernel_rfl) (by decide) (fun K hK => ?_)
      refine goes_ Try.func17 (by kernel_rfl) rfl #[.agg #[.slice A0_0 l0_0.length c0_0,.int .i64 a0_1]] (by rfl) rfl rfl (by (try simp only [List.map_toArray,List.map_cons,List.map_nil]);first|done|rfl|(simp only [List.length_drop,List.length_take];rfl)) ?_
      with_reducible refine (laws_toPool.calls kj13 _ _ l0_0 a0_1 t310 t313 _ ?side1 ?side2 A68.out).mono ?_
      (case side1 => repeat (first|exact (Kd.C_below HR0_0.out HB.out)|(with_reducible refine y_k ?_ _)|(with_reducible refine y_l ?_ _)|(with_reducible refine y_m ?_)))
      (case side2 => exact HC0_0.out)
      rintro e w74 ⟨v311, rfl, ho0, hb⟩
      refine ⟨_, rfl, ?_⟩
      have n0_:=Aside0.mk (Kd.R_elder' (by (with_reducible repeat (first|apply y_e|apply y_f|apply y_g));exact HO_297000.out) (Kd.R_base ho0) hb)
      have n1_:=Aside0.mk (Kd.R_elder' (by (with_reducible repeat (first|apply y_e|apply y_f|apply y_g));exact HO_302000.out) (Kd.R_base ho0) hb)
      have n2_:=Aside0.mk (Kd.R_elder' (by (with_reducible repeat (first|apply y_e|apply y_f|apply y_g));exact HO_309000.out) (Kd.R_base ho0) hb)
      have n3_:=Aside0.mk (Kd.R_lower (Kd.R_new' (Kd.R_new' (Kd.R_new' ho0 (Kd.R_lt (by (with_reducible repeat (first|apply y_e|apply y_f|apply y_g));exact HO_297000.out))) (Kd.R_lt (by (with_reducible repeat (first|apply y_e|apply y_f|apply y_g));exact HO_302000.out))) (Kd.R_lt (by (with_reducible repeat (first|apply y_e|apply y_f|apply y_g));exact HO_309000.out))) (below_size (by repeat (first|(with_reducible first|exact HB.out|apply y_h|apply y_i|apply y_j|refine y_n ?_ GE284.out|refine y_n ?_ GE296.out|refine y_n ?_ GE301.out|refine y_n ?_ GE308.out)|exact HB.out))))
      have n4_:=Aside0.mk (blk_below (g:=gb284) (o:=.cells #[.slice A0_0 l0_0.length c0_0,.int .i64 a0_1] 24 (0,0)) (by (with_reducible repeat (first|refine y_b ?_ _|refine y_c ?_|refine y_d ?_ _));exact BK284.out) hb)
      have n5_:=Aside0.mk (blk_below (g:=gb296) (o:=.cells #[.slice Ao23 t290.length co23,.int .i64 t293] 29 (0,0)) (by (with_reducible repeat (first|refine y_b ?_ _|refine y_c ?_|refine y_d ?_ _));exact BK296.out) hb)
      have n6_:=Aside0.mk (blk_below (g:=gb301) (o:=.cells #[.slice Ao29 t297.length co29,.int .i64 t300] 29 (0,0)) (by (with_reducible repeat (first|refine y_b ?_ _|refine y_c ?_|refine y_d ?_ _));exact BK301.out) hb)
      have n7_:=Aside0.mk (blk_below (g:=gb308) (o:=.cells #[.slice Ao35 t302.length co35,.int .i64 t305] 29 (0,0)) (by (with_reducible repeat (first|refine y_b ?_ _|refine y_c ?_|refine y_d ?_ _));exact BK308.out) hb)
      have n8_:=Aside0.mk (below_step (by repeat (first|(with_reducible first|exact HB.out|apply y_h|apply y_i|apply y_j|refine y_n ?_ GE284.out|refine y_n ?_ GE296.out|refine y_n ?_ GE301.out|refine y_n ?_ GE308.out)|exact HB.out)) hb)
      clear HO_297000
      clear HO_302000
      clear HO_309000
      clear BK284
      clear BK296
      clear BK301
      clear BK308
      clear HB
      have HO_297000 := n0_
      have HO_302000 := n1_
      have HO_309000 := n2_
      have HO312 := n3_
      have BK284 := n4_
      have BK296 := n5_
      have BK301 := n6_
      have BK308 := n7_
      have HB := n8_
      clear n0_ n1_ n2_ n3_ n4_ n5_ n6_ n7_ n8_
      (try clear hb)
      (try clear hb2)
      (try clear hk)
      (try clear hi)
      (try clear ho0)
      obtain ⟨Ao75, co75, eo75⟩ := Kd.R_slice HO312.out
      (first|subst eo75|(injection eo75 with f1_ f2_ f3_;have f4_:=f1_.symm;have f5_:=f3_.symm;clear f1_ f2_ f3_;subst f4_;subst f5_))
      refine hK.out _ _ ⟨(blk_cell BK301.out 0).trans rfl,(blk_cell BK301.out 1).trans rfl,(blk_cell BK284.out 0).trans rfl,(blk_cell BK284.out 1).trans rfl⟩ (fun hHeld => ?_)
      clear hK K
      refine norm_ (a' := ?_) ?_ ?_
      rotate_left
      ·show Act.put _ (some 65) _ = _
       simp only [Act.put,List.setIfInBounds_toArray,List.set_cons_zero,List.set_cons_succ,i64_w,i32_w]
       rfl
      refine one_ (i:=3) (N:=some 66) #[true,true,true,true,false] rfl rfl (by kernel_rfl) (by decide) (fun K hK => ?_)
      refine goes_ Try.func19 (by kernel_rfl) rfl #[.agg #[.slice Ao29 t297.length co29,.int .i64 t300],.agg #[.slice Ao75 t310.length co75,.int .i64 t313]] (by rfl) rfl rfl (by (try simp only [List.map_toArray,List.map_cons,List.map_nil]);first|done|rfl|(simp only [List.length_drop,List.length_take];rfl)) ?_
      with_reducible refine (laws_eqPool.calls kj13 _ _ t297 t300 _ _ t310 t313 true _ ?side1 ?side2 ?side3 ?side4 A69.out).mono ?_
      (case side1 => repeat (first|exact (Kd.R_reads' HO_302000.out).2.2|(with_reducible refine y_k ?_ _)|(with_reducible refine y_l ?_ _)|(with_reducible refine y_m ?_)))
      (case side2 => exact (Kd.R_reads' HO_302000.out).2.1)
      (case side3 => repeat (first|exact (Kd.R_reads' HO312.out).2.2|(with_reducible refine y_k ?_ _)|(with_reducible refine y_l ?_ _)|(with_reducible refine y_m ?_)))
      (case side4 => exact (Kd.R_reads' HO312.out).2.1)
      rintro e w76 ⟨rfl, hb⟩
      refine ⟨_, rfl, ?_⟩
      have n0_:=Aside0.mk (Kd.R_below (by (with_reducible repeat (first|apply y_e|apply y_f|apply y_g));exact HO_297000.out) hb)
      have n1_:=Aside0.mk (Kd.R_below (by (with_reducible repeat (first|apply y_e|apply y_f|apply y_g));exact HO_302000.out) hb)
      have n2_:=Aside0.mk (Kd.R_below (by (with_reducible repeat (first|apply y_e|apply y_f|apply y_g));exact HO_309000.out) hb)
      have n3_:=Aside0.mk (Kd.R_below (by (with_reducible repeat (first|apply y_e|apply y_f|apply y_g));exact HO312.out) hb)
      have n4_:=Aside0.mk (blk_below (g:=gb284) (o:=.cells #[.slice A0_0 l0_0.length c0_0,.int .i64 a0_1] 24 (0,0)) (by (with_reducible repeat (first|refine y_b ?_ _|refine y_c ?_|refine y_d ?_ _));exact BK284.out) hb)
      have n5_:=Aside0.mk (blk_below (g:=gb296) (o:=.cells #[.slice Ao23 t290.length co23,.int .i64 t293] 29 (0,0)) (by (with_reducible repeat (first|refine y_b ?_ _|refine y_c ?_|refine y_d ?_ _));exact BK296.out) hb)
      have n6_:=Aside0.mk (blk_below (g:=gb301) (o:=.cells #[.slice Ao29 t297.length co29,.int .i64 t300] 29 (0,0)) (by (with_reducible repeat (first|refine y_b ?_ _|refine y_c ?_|refine y_d ?_ _));exact BK301.out) hb)
      have n7_:=Aside0.mk (blk_below (g:=gb308) (o:=.cells #[.slice Ao35 t302.length co35,.int .i64 t305] 29 (0,0)) (by (with_reducible repeat (first|refine y_b ?_ _|refine y_c ?_|refine y_d ?_ _));exact BK308.out) hb)
      have n8_:=Aside0.mk (below_step (by repeat (first|(with_reducible first|exact HB.out|apply y_h|apply y_i|apply y_j|refine y_n ?_ GE284.out|refine y_n ?_ GE296.out|refine y_n ?_ GE301.out|refine y_n ?_ GE308.out)|exact HB.out)) hb)
      clear HO_297000
      clear HO_302000
      clear HO_309000
      clear HO312
      clear BK284
      clear BK296
      clear BK301
      clear BK308
      clear HB
      have HO_297000 := n0_
      have HO_302000 := n1_
      have HO_309000 := n2_
      have HO312 := n3_
      have BK284 := n4_
      have BK296 := n5_
      have BK301 := n6_
      have BK308 := n7_
      have HB := n8_
      clear n0_ n1_ n2_ n3_ n4_ n5_ n6_ n7_ n8_
      (try clear hb)
      (try clear hb2)
      (try clear hk)
      (try clear hi)
      refine hK.out _ _ ⟨(blk_cell BK301.out 0).trans rfl,(blk_cell BK301.out 1).trans rfl,(blk_cell BK284.out 0).trans rfl,(blk_cell BK284.out 1).trans rfl⟩ (fun hHeld => ?_)
      clear hK K
      refine norm_ (a' := ?_) ?_ ?_
      rotate_left
      ·show Act.put _ (some 66) _ = _
       simp only [Act.put,List.setIfInBounds_toArray,List.set_cons_zero,List.set_cons_succ,i64_w,i32_w]
       rfl
      refine pure_ (i:=4) (N:=some 67) (v:=?_) (a':=?_) #[true,true,true,true,true] rfl rfl (by kernel_rfl) (fun _ _ _ h => h) (Or.inl ⟨by rfl,?_⟩) ?_ ?_
      rotate_left
      ·intro w'
       go_simp
       with_reducible rfl
      rotate_left
      ·simp only [Act.put,List.setIfInBounds_toArray,List.set_cons_zero,List.set_cons_succ,i64_w,i32_w]
       rfl
      refine done_ (by kernel_rfl) ?_
      have hnb77 := NB301_284.out
      have hnc77 := NB284_301.out
      have hnb78 := NB301_296.out
      have hnc78 := NB296_301.out
      have hnb79 := NB301_308.out
      have hnc79 := NB308_301.out
      have hcz80_0 : w76.cell? ⟨gb301,0,none⟩ = some (.slice Ao29 t297.length co29):=(blk_cell BK301.out 0).trans rfl
      have hcz80_1 : w76.cell? ⟨gb301,1,none⟩ = some (.int .i64 t300):=(blk_cell BK301.out 1).trans rfl
      have hfz80_0 := blk_frozen BK301.out 0
      have hfz80_1 := blk_frozen BK301.out 1
      go_upto_region 14 with (first|((with_reducible refine gate_callee (f:=26) rfl ?_);refine goesL_ (some 70) rfl rfl Try.func26 (by kernel_rfl) rfl #[.agg #[.slice Ao29 t297.length co29,.int .i64 t300],.int .i64 1] rfl (by (try simp only [List.map_toArray,List.map_cons,List.map_nil]);first|done|rfl|(simp only [List.length_drop,List.length_take];rfl)) ?_;(with_reducible refine (laws_markPool.calls kj13 (fun k_ => some k_ = (.slice Ao29 t297.length co29 : Value).ownBlock) (.slice Ao29 t297.length co29) t297 t300 1 t315 t316 w _ ?side1 ?side2 A71.out).mono ?_);(case side1 => repeat (first|(with_reducible first|exact HB.out|apply y_h|apply y_i|apply y_j|refine y_n ?_ GE284.out|refine y_n ?_ GE296.out|refine y_n ?_ GE301.out|refine y_n ?_ GE308.out)|exact HB.out));(case side2 => exact Kd.R_tight rfl HO_302000.out);rintro e w81 ⟨rfl,hy0,hb,hkp⟩;refine ⟨_,rfl,?_⟩;have n0_:=Aside0.mk (y_o (ok':=fun k_ => some k_ ≠ (.slice Ao29 t297.length co29 : Value).ownBlock ∧ some k_ ≠ (.slice Ao35 t302.length co35 : Value).ownBlock ∧ some k_ ≠ (.slice Ao75 t310.length co75 : Value).ownBlock) (Kd.R_keptB (HO_297000.out) hkp (fun k_ hk_ hs_ => (hk_.1.1) hs_)) (fun k_ hk_ => ⟨hk_.1.1.1,hk_.1.1.2,hk_.1.2⟩));have n1_:=Aside0.mk (Kd.R_reok rfl hy0 (fun k_ e_ => HO_302000.out.1 k_ e_));have n2_:=Aside0.mk (y_o (ok':=fun k_ => some k_ ≠ (.slice Ao23 t290.length co23 : Value).ownBlock ∧ some k_ ≠ (.slice Ao29 t297.length co29 : Value).ownBlock ∧ some k_ ≠ (.slice Ao75 t310.length co75 : Value).ownBlock) (Kd.R_keptB (HO_309000.out) hkp (fun k_ hk_ hs_ => (hk_.1.2) hs_)) (fun k_ hk_ => ⟨hk_.1.1.1,hk_.1.1.2,hk_.1.2⟩));have n3_:=Aside0.mk (blk_kept (by (with_reducible repeat (first|refine y_b ?_ _|refine y_c ?_|refine y_d ?_ _));exact BK284.out) hkp (fun hs_ => (fun e_ => (Kd.R_ne HO_302000.out BK284.out (by decide)) e_) hs_));have n4_:=Aside0.mk (blk_kept (by (with_reducible repeat (first|refine y_b ?_ _|refine y_c ?_|refine y_d ?_ _));exact BK296.out) hkp (fun hs_ => (fun e_ => (Kd.R_ne HO_302000.out BK296.out (by decide)) e_) hs_));have n5_:=Aside0.mk (blk_kept (by (with_reducible repeat (first|refine y_b ?_ _|refine y_c ?_|refine y_d ?_ _));exact BK301.out) hkp (fun hs_ => (fun e_ => (Kd.R_ne HO_302000.out BK301.out (by decide)) e_) hs_));have n6_:=Aside0.mk (blk_kept (by (with_reducible repeat (first|refine y_b ?_ _|refine y_c ?_|refine y_d ?_ _));exact BK308.out) hkp (fun hs_ => (fun e_ => (Kd.R_ne HO_302000.out BK308.out (by decide)) e_) hs_));have n7_:=Aside0.mk (y_o (ok':=fun k_ => some k_ ≠ (.slice Ao23 t290.length co23 : Value).ownBlock ∧ some k_ ≠ (.slice Ao29 t297.length co29 : Value).ownBlock ∧ some k_ ≠ (.slice Ao35 t302.length co35 : Value).ownBlock) (Kd.R_keptB (HO312.out) hkp (fun k_ hk_ hs_ => (hk_.1.2) hs_)) (fun k_ hk_ => ⟨hk_.1.1.1.2,hk_.1.1.2,hk_.1.2⟩));have n8_:=Aside0.mk (hb);clear HO_297000 HO_302000 HO_309000 BK284 BK296 BK301 BK308 HO312 HB;have HO_297000:=n0_;have HO_302000:=n1_;have HO_309000:=n2_;have BK284:=n3_;have BK296:=n4_;have BK301:=n5_;have BK308:=n6_;have HO312:=n7_;have HB:=n8_;clear n0_ n1_ n2_ n3_ n4_ n5_ n6_ n7_ n8_;(try clear hb);(try clear hkp);(try clear hy0)))
      (try simp only [Act.put,List.setIfInBounds_toArray,List.set_cons_zero,List.set_cons_succ])
      go_cut [88] (fun v88 wc => ∃ (kq : Nat) (x88_71 : Bool),v88 = .bool x88_71 ∧ Aside0 (laws_FnExactPoolTake.j1 kq a1 a2 a3 t294 t295 x88_71 l0_0 a0_1 t290 t293 t302 t305 = some r) ∧ Aside0 (kq ≤ kj13) ∧ Aside0 (Kd.R k41 41 wc w.heap.size (fun k_ => some k_ ≠ ((.slice Ao29 t297.length co29) : Value).ownBlock ∧ some k_ ≠ ((.slice Ao35 t302.length co35) : Value).ownBlock) (.slice Ao23 t290.length co23) t290) ∧ Aside0 (Kd.R k41 41 wc w.heap.size (fun k_ => some k_ ≠ ((.slice Ao23 t290.length co23) : Value).ownBlock ∧ some k_ ≠ ((.slice Ao35 t302.length co35) : Value).ownBlock) (.slice Ao29 t297.length co29) t316) ∧ Aside0 (Kd.R k41 41 wc w.heap.size (fun k_ => some k_ ≠ ((.slice Ao23 t290.length co23) : Value).ownBlock ∧ some k_ ≠ ((.slice Ao29 t297.length co29) : Value).ownBlock) (.slice Ao35 t302.length co35) t302) ∧ Aside0 (wc.heap[gb284]? = some (.cells #[(.slice A0_0 l0_0.length c0_0),.int .i64 a0_1] 24 (0,0))) ∧ Aside0 (wc.heap[gb296]? = some (.cells #[(.slice Ao23 t290.length co23),.int .i64 t293] 29 (0,0))) ∧ Aside0 (wc.heap[gb301]? = some (.cells #[(.slice Ao29 t297.length co29),.int .i64 t300] 29 (0,0))) ∧ Aside0 (wc.heap[gb308]? = some (.cells #[(.slice Ao35 t302.length co35),.int .i64 t305] 29 (0,0))) ∧ Aside0 (Below w.heap.size w wc))
      case first =>
       have H := HC72.out
       clear HC72
       by_cases c82 : t315 < 0
       ·rw [if_pos c82] at H
        have c82b0 : decide (t315 < 0) = true := decide_eq_true c82
        clear c82
        (first|rw [c82b0]|(simp only [i64_w,i32_w];rw [c82b0])|skip)
        have H' := Aside0.mk H
        clear H
        go_wp2
        go_meet
        case rel => exact ⟨_,(true),(by first|rfl|(simp;done)|(simp [*];done)),H',⟨by have:=HJ13.out;first|omega|exact Nat.le_refl _⟩,⟨by (with_reducible repeat (first|apply y_e|apply y_f|apply y_g));exact y_o HO_297000.out (fun _ hk => ⟨hk.1,hk.2.1⟩)⟩,⟨by (with_reducible repeat (first|apply y_e|apply y_f|apply y_g));exact y_o HO_302000.out (fun _ hk => ⟨hk.1.1,hk.1.2⟩)⟩,⟨by (with_reducible repeat (first|apply y_e|apply y_f|apply y_g));exact y_o HO_309000.out (fun _ hk => ⟨hk.1,hk.2.1⟩)⟩,⟨by (with_reducible repeat (first|refine y_b ?_ _|refine y_c ?_|refine y_d ?_ _));exact BK284.out⟩,⟨by (with_reducible repeat (first|refine y_b ?_ _|refine y_c ?_|refine y_d ?_ _));exact BK296.out⟩,⟨by (with_reducible repeat (first|refine y_b ?_ _|refine y_c ?_|refine y_d ?_ _));exact BK301.out⟩,⟨by (with_reducible repeat (first|refine y_b ?_ _|refine y_c ?_|refine y_d ?_ _));exact BK308.out⟩,⟨by repeat (first|(with_reducible first|exact HB.out|apply y_h|apply y_i|apply y_j|refine y_n ?_ GE284.out|refine y_n ?_ GE296.out|refine y_n ?_ GE301.out|refine y_n ?_ GE308.out)|exact HB.out)⟩⟩
       ·rw [if_neg c82] at H
        have c82b0 : decide (t315 < 0) = false:=decide_eq_false c82
        clear c82
        (first|rw [c82b0]|(simp only [i64_w,i32_w];rw [c82b0])|skip)
        replace H := Option.bind_eq_some_iff.mp H
        obtain ⟨t317, A830, H⟩ := H
        replace H : (if t317 = true then (if t306 = t294 then (laws_FnExactPoolTake.j1 kj13 a1 a2 a3 t294 t295 (t307 != t295) l0_0 a0_1 t290 t293 t302 t305) else (laws_FnExactPoolTake.j1 kj13 a1 a2 a3 t294 t295 true l0_0 a0_1 t290 t293 t302 t305)) else (laws_FnExactPoolTake.j1 kj13 a1 a2 a3 t294 t295 true l0_0 a0_1 t290 t293 t302 t305)) = some r:=H
        have A83 := Aside0.mk A830
        clear A830
        by_cases c84 : t317 = true
        ·subst c84
         have H1 : (if t306 = t294 then (laws_FnExactPoolTake.j1 kj13 a1 a2 a3 t294 t295 (t307 != t295) l0_0 a0_1 t290 t293 t302 t305) else (laws_FnExactPoolTake.j1 kj13 a1 a2 a3 t294 t295 true l0_0 a0_1 t290 t293 t302 t305)) = some r:=by rw [if_pos rfl] at H;exact H
         clear H
         have H := H1
         clear H1
         by_cases c85 : t306 = t294
         ·rw [if_pos c85] at H
          have c85b0 : (t306 == t294) = true := beq_iff_eq.mpr c85
          have c85b1 : (t306 != t294) = false:=bne_eq_false_iff_eq.mpr c85
          clear c85
          have H' := Aside0.mk H
          clear H
          have hnb86 := NB308_284.out
          have hnc86 := NB284_308.out
          have hnb87 := NB308_296.out
          have hnc87 := NB296_308.out
          have hnb88 := NB308_301.out
          have hnc88 := NB301_308.out
          have hcz89_0 : w81.cell? ⟨gb308,0,none⟩ = some (.slice Ao35 t302.length co35):=(blk_cell BK308.out 0).trans rfl
          have hcz89_1 : w81.cell? ⟨gb308,1,none⟩ = some (.int .i64 t305):=(blk_cell BK308.out 1).trans rfl
          have hfz89_0 := blk_frozen BK308.out 0
          have hfz89_1 := blk_frozen BK308.out 1
          have hnb90 := NB296_284.out
          have hnc90 := NB284_296.out
          have hnb91 := NB296_301.out
          have hnc91 := NB301_296.out
          have hcz92_0 : w81.cell? ⟨gb296,0,none⟩ = some (.slice Ao23 t290.length co23):=(blk_cell BK296.out 0).trans rfl
          have hcz92_1 : w81.cell? ⟨gb296,1,none⟩ = some (.int .i64 t293):=(blk_cell BK296.out 1).trans rfl
          have hfz92_0 := blk_frozen BK296.out 0
          have hfz92_1 := blk_frozen BK296.out 1
          go_wp2_with (first|(go_at_call 19;(with_reducible refine (laws_eqPool.calls kj13 _ _ t302 t305 _ _ t290 t293 true _ ?side1 ?side2 ?side3 ?side4 A83.out).mono ?_);(case side1 => repeat (first|exact (Kd.R_reads' HO_309000.out).2.2|(with_reducible refine y_k ?_ _)|(with_reducible refine y_l ?_ _)|(with_reducible refine y_m ?_)));(case side2 => exact (Kd.R_reads' HO_309000.out).2.1);(case side3 => repeat (first|exact (Kd.R_reads' HO_297000.out).2.2|(with_reducible refine y_k ?_ _)|(with_reducible refine y_l ?_ _)|(with_reducible refine y_m ?_)));(case side4 => exact (Kd.R_reads' HO_297000.out).2.1);rintro e w93 ⟨rfl,hb⟩;have n0_:=Aside0.mk (Kd.R_below (by (with_reducible repeat (first|apply y_e|apply y_f|apply y_g));exact HO_297000.out) hb);have n1_:=Aside0.mk (Kd.R_below (by (with_reducible repeat (first|apply y_e|apply y_f|apply y_g));exact HO_302000.out) hb);have n2_:=Aside0.mk (Kd.R_below (by (with_reducible repeat (first|apply y_e|apply y_f|apply y_g));exact HO_309000.out) hb);have n3_:=Aside0.mk (Kd.R_below (by (with_reducible repeat (first|apply y_e|apply y_f|apply y_g));exact HO312.out) hb);have n4_:=Aside0.mk (blk_below (g:=gb284) (o:=.cells #[.slice A0_0 l0_0.length c0_0,.int .i64 a0_1] 24 (0,0)) (by (with_reducible repeat (first|refine y_b ?_ _|refine y_c ?_|refine y_d ?_ _));exact BK284.out) hb);have n5_:=Aside0.mk (blk_below (g:=gb296) (o:=.cells #[.slice Ao23 t290.length co23,.int .i64 t293] 29 (0,0)) (by (with_reducible repeat (first|refine y_b ?_ _|refine y_c ?_|refine y_d ?_ _));exact BK296.out) hb);have n6_:=Aside0.mk (blk_below (g:=gb301) (o:=.cells #[.slice Ao29 t297.length co29,.int .i64 t300] 29 (0,0)) (by (with_reducible repeat (first|refine y_b ?_ _|refine y_c ?_|refine y_d ?_ _));exact BK301.out) hb);have n7_:=Aside0.mk (blk_below (g:=gb308) (o:=.cells #[.slice Ao35 t302.length co35,.int .i64 t305] 29 (0,0)) (by (with_reducible repeat (first|refine y_b ?_ _|refine y_c ?_|refine y_d ?_ _));exact BK308.out) hb);have n8_:=Aside0.mk (below_step (by repeat (first|(with_reducible first|exact HB.out|apply y_h|apply y_i|apply y_j|refine y_n ?_ GE284.out|refine y_n ?_ GE296.out|refine y_n ?_ GE301.out|refine y_n ?_ GE308.out)|exact HB.out)) hb);clear HO_297000 HO_302000 HO_309000 HO312 BK284 BK296 BK301 BK308 HB;have HO_297000:=n0_;have HO_302000:=n1_;have HO_309000:=n2_;have HO312:=n3_;have BK284:=n4_;have BK296:=n5_;have BK301:=n6_;have BK308:=n7_;have HB:=n8_;clear n0_ n1_ n2_ n3_ n4_ n5_ n6_ n7_ n8_;(try clear hb);(try clear hb2);(try clear hk);(try clear hi)))
          go_meet
          case rel => exact ⟨_,((t307 != t295)),(by first|rfl|(simp;done)|(simp [*];done)),H',⟨by have:=HJ13.out;first|omega|exact Nat.le_refl _⟩,⟨by (with_reducible repeat (first|apply y_e|apply y_f|apply y_g));exact y_o HO_297000.out (fun _ hk => ⟨hk.1,hk.2.1⟩)⟩,⟨by (with_reducible repeat (first|apply y_e|apply y_f|apply y_g));exact y_o HO_302000.out (fun _ hk => ⟨hk.1.1,hk.1.2⟩)⟩,⟨by (with_reducible repeat (first|apply y_e|apply y_f|apply y_g));exact y_o HO_309000.out (fun _ hk => ⟨hk.1,hk.2.1⟩)⟩,⟨by (with_reducible repeat (first|refine y_b ?_ _|refine y_c ?_|refine y_d ?_ _));exact BK284.out⟩,⟨by (with_reducible repeat (first|refine y_b ?_ _|refine y_c ?_|refine y_d ?_ _));exact BK296.out⟩,⟨by (with_reducible repeat (first|refine y_b ?_ _|refine y_c ?_|refine y_d ?_ _));exact BK301.out⟩,⟨by (with_reducible repeat (first|refine y_b ?_ _|refine y_c ?_|refine y_d ?_ _));exact BK308.out⟩,⟨by repeat (first|(with_reducible first|exact HB.out|apply y_h|apply y_i|apply y_j|refine y_n ?_ GE284.out|refine y_n ?_ GE296.out|refine y_n ?_ GE301.out|refine y_n ?_ GE308.out)|exact HB.out)⟩⟩
         ·rw [if_neg c85] at H
          have c85b0 : (t306 == t294) = false:=beq_eq_false_iff_ne.mpr c85
          have c85b1 : (t306 != t294) = true := bne_iff_ne.mpr c85
          have H' := Aside0.mk H
          clear H
          have hnb94 := NB308_284.out
          have hnc94 := NB284_308.out
          have hnb95 := NB308_296.out
          have hnc95 := NB296_308.out
          have hnb96 := NB308_301.out
          have hnc96 := NB301_308.out
          have hcz97_0 : w81.cell? ⟨gb308,0,none⟩ = some (.slice Ao35 t302.length co35):=(blk_cell BK308.out 0).trans rfl
          have hcz97_1 : w81.cell? ⟨gb308,1,none⟩ = some (.int .i64 t305):=(blk_cell BK308.out 1).trans rfl
          have hfz97_0 := blk_frozen BK308.out 0
          have hfz97_1 := blk_frozen BK308.out 1
          have hnb98 := NB296_284.out
          have hnc98 := NB284_296.out
          have hnb99 := NB296_301.out
          have hnc99 := NB301_296.out
          have hcz100_0 : w81.cell? ⟨gb296,0,none⟩ = some (.slice Ao23 t290.length co23):=(blk_cell BK296.out 0).trans rfl
          have hcz100_1 : w81.cell? ⟨gb296,1,none⟩ = some (.int .i64 t293):=(blk_cell BK296.out 1).trans rfl
          have hfz100_0 := blk_frozen BK296.out 0
          have hfz100_1 := blk_frozen BK296.out 1
          go_wp2_with (first|(go_at_call 19;(with_reducible refine (laws_eqPool.calls kj13 _ _ t302 t305 _ _ t290 t293 true _ ?side1 ?side2 ?side3 ?side4 A83.out).mono ?_);(case side1 => repeat (first|exact (Kd.R_reads' HO_309000.out).2.2|(with_reducible refine y_k ?_ _)|(with_reducible refine y_l ?_ _)|(with_reducible refine y_m ?_)));(case side2 => exact (Kd.R_reads' HO_309000.out).2.1);(case side3 => repeat (first|exact (Kd.R_reads' HO_297000.out).2.2|(with_reducible refine y_k ?_ _)|(with_reducible refine y_l ?_ _)|(with_reducible refine y_m ?_)));(case side4 => exact (Kd.R_reads' HO_297000.out).2.1);rintro e w101 ⟨rfl,hb⟩;have n0_:=Aside0.mk (Kd.R_below (by (with_reducible repeat (first|apply y_e|apply y_f|apply y_g));exact HO_297000.out) hb);have n1_:=Aside0.mk (Kd.R_below (by (with_reducible repeat (first|apply y_e|apply y_f|apply y_g));exact HO_302000.out) hb);have n2_:=Aside0.mk (Kd.R_below (by (with_reducible repeat (first|apply y_e|apply y_f|apply y_g));exact HO_309000.out) hb);have n3_:=Aside0.mk (Kd.R_below (by (with_reducible repeat (first|apply y_e|apply y_f|apply y_g));exact HO312.out) hb);have n4_:=Aside0.mk (blk_below (g:=gb284) (o:=.cells #[.slice A0_0 l0_0.length c0_0,.int .i64 a0_1] 24 (0,0)) (by (with_reducible repeat (first|refine y_b ?_ _|refine y_c ?_|refine y_d ?_ _));exact BK284.out) hb);have n5_:=Aside0.mk (blk_below (g:=gb296) (o:=.cells #[.slice Ao23 t290.length co23,.int .i64 t293] 29 (0,0)) (by (with_reducible repeat (first|refine y_b ?_ _|refine y_c ?_|refine y_d ?_ _));exact BK296.out) hb);have n6_:=Aside0.mk (blk_below (g:=gb301) (o:=.cells #[.slice Ao29 t297.length co29,.int .i64 t300] 29 (0,0)) (by (with_reducible repeat (first|refine y_b ?_ _|refine y_c ?_|refine y_d ?_ _));exact BK301.out) hb);have n7_:=Aside0.mk (blk_below (g:=gb308) (o:=.cells #[.slice Ao35 t302.length co35,.int .i64 t305] 29 (0,0)) (by (with_reducible repeat (first|refine y_b ?_ _|refine y_c ?_|refine y_d ?_ _));exact BK308.out) hb);have n8_:=Aside0.mk (below_step (by repeat (first|(with_reducible first|exact HB.out|apply y_h|apply y_i|apply y_j|refine y_n ?_ GE284.out|refine y_n ?_ GE296.out|refine y_n ?_ GE301.out|refine y_n ?_ GE308.out)|exact HB.out)) hb);clear HO_297000 HO_302000 HO_309000 HO312 BK284 BK296 BK301 BK308 HB;have HO_297000:=n0_;have HO_302000:=n1_;have HO_309000:=n2_;have HO312:=n3_;have BK284:=n4_;have BK296:=n5_;have BK301:=n6_;have BK308:=n7_;have HB:=n8_;clear n0_ n1_ n2_ n3_ n4_ n5_ n6_ n7_ n8_;(try clear hb);(try clear hb2);(try clear hk);(try clear hi)))
          go_meet
          case rel => exact ⟨_,(true),(by first|rfl|(simp;done)|(simp [*];done)),H',⟨by have:=HJ13.out;first|omega|exact Nat.le_refl _⟩,⟨by (with_reducible repeat (first|apply y_e|apply y_f|apply y_g));exact y_o HO_297000.out (fun _ hk => ⟨hk.1,hk.2.1⟩)⟩,⟨by (with_reducible repeat (first|apply y_e|apply y_f|apply y_g));exact y_o HO_302000.out (fun _ hk => ⟨hk.1.1,hk.1.2⟩)⟩,⟨by (with_reducible repeat (first|apply y_e|apply y_f|apply y_g));exact y_o HO_309000.out (fun _ hk => ⟨hk.1,hk.2.1⟩)⟩,⟨by (with_reducible repeat (first|refine y_b ?_ _|refine y_c ?_|refine y_d ?_ _));exact BK284.out⟩,⟨by (with_reducible repeat (first|refine y_b ?_ _|refine y_c ?_|refine y_d ?_ _));exact BK296.out⟩,⟨by (with_reducible repeat (first|refine y_b ?_ _|refine y_c ?_|refine y_d ?_ _));exact BK301.out⟩,⟨by (with_reducible repeat (first|refine y_b ?_ _|refine y_c ?_|refine y_d ?_ _));exact BK308.out⟩,⟨by repeat (first|(with_reducible first|exact HB.out|apply y_h|apply y_i|apply y_j|refine y_n ?_ GE284.out|refine y_n ?_ GE296.out|refine y_n ?_ GE301.out|refine y_n ?_ GE308.out)|exact HB.out)⟩⟩
        ·replace c84 := Bool.eq_false_iff.mpr c84
         subst c84
         have H1 : (laws_FnExactPoolTake.j1 kj13 a1 a2 a3 t294 t295 true l0_0 a0_1 t290 t293 t302 t305) = some r:=by rw [if_neg (show ¬ (false = true) by decide)] at H;exact H
         clear H
         have H := H1
         clear H1
         have H' := Aside0.mk H
         clear H
         have hnb102 := NB308_284.out
         have hnc102 := NB284_308.out
         have hnb103 := NB308_296.out
         have hnc103 := NB296_308.out
         have hnb104 := NB308_301.out
         have hnc104 := NB301_308.out
         have hcz105_0 : w81.cell? ⟨gb308,0,none⟩ = some (.slice Ao35 t302.length co35):=(blk_cell BK308.out 0).trans rfl
         have hcz105_1 : w81.cell? ⟨gb308,1,none⟩ = some (.int .i64 t305):=(blk_cell BK308.out 1).trans rfl
         have hfz105_0 := blk_frozen BK308.out 0
         have hfz105_1 := blk_frozen BK308.out 1
         have hnb106 := NB296_284.out
         have hnc106 := NB284_296.out
         have hnb107 := NB296_301.out
         have hnc107 := NB301_296.out
         have hcz108_0 : w81.cell? ⟨gb296,0,none⟩ = some (.slice Ao23 t290.length co23):=(blk_cell BK296.out 0).trans rfl
         have hcz108_1 : w81.cell? ⟨gb296,1,none⟩ = some (.int .i64 t293):=(blk_cell BK296.out 1).trans rfl
         have hfz108_0 := blk_frozen BK296.out 0
         have hfz108_1 := blk_frozen BK296.out 1
         go_wp2_with (first|(go_at_call 19;(with_reducible refine (laws_eqPool.calls kj13 _ _ t302 t305 _ _ t290 t293 false _ ?side1 ?side2 ?side3 ?side4 A83.out).mono ?_);(case side1 => repeat (first|exact (Kd.R_reads' HO_309000.out).2.2|(with_reducible refine y_k ?_ _)|(with_reducible refine y_l ?_ _)|(with_reducible refine y_m ?_)));(case side2 => exact (Kd.R_reads' HO_309000.out).2.1);(case side3 => repeat (first|exact (Kd.R_reads' HO_297000.out).2.2|(with_reducible refine y_k ?_ _)|(with_reducible refine y_l ?_ _)|(with_reducible refine y_m ?_)));(case side4 => exact (Kd.R_reads' HO_297000.out).2.1);rintro e w109 ⟨rfl,hb⟩;have n0_:=Aside0.mk (Kd.R_below (by (with_reducible repeat (first|apply y_e|apply y_f|apply y_g));exact HO_297000.out) hb);have n1_:=Aside0.mk (Kd.R_below (by (with_reducible repeat (first|apply y_e|apply y_f|apply y_g));exact HO_302000.out) hb);have n2_:=Aside0.mk (Kd.R_below (by (with_reducible repeat (first|apply y_e|apply y_f|apply y_g));exact HO_309000.out) hb);have n3_:=Aside0.mk (Kd.R_below (by (with_reducible repeat (first|apply y_e|apply y_f|apply y_g));exact HO312.out) hb);have n4_:=Aside0.mk (blk_below (g:=gb284) (o:=.cells #[.slice A0_0 l0_0.length c0_0,.int .i64 a0_1] 24 (0,0)) (by (with_reducible repeat (first|refine y_b ?_ _|refine y_c ?_|refine y_d ?_ _));exact BK284.out) hb);have n5_:=Aside0.mk (blk_below (g:=gb296) (o:=.cells #[.slice Ao23 t290.length co23,.int .i64 t293] 29 (0,0)) (by (with_reducible repeat (first|refine y_b ?_ _|refine y_c ?_|refine y_d ?_ _));exact BK296.out) hb);have n6_:=Aside0.mk (blk_below (g:=gb301) (o:=.cells #[.slice Ao29 t297.length co29,.int .i64 t300] 29 (0,0)) (by (with_reducible repeat (first|refine y_b ?_ _|refine y_c ?_|refine y_d ?_ _));exact BK301.out) hb);have n7_:=Aside0.mk (blk_below (g:=gb308) (o:=.cells #[.slice Ao35 t302.length co35,.int .i64 t305] 29 (0,0)) (by (with_reducible repeat (first|refine y_b ?_ _|refine y_c ?_|refine y_d ?_ _));exact BK308.out) hb);have n8_:=Aside0.mk (below_step (by repeat (first|(with_reducible first|exact HB.out|apply y_h|apply y_i|apply y_j|refine y_n ?_ GE284.out|refine y_n ?_ GE296.out|refine y_n ?_ GE301.out|refine y_n ?_ GE308.out)|exact HB.out)) hb);clear HO_297000 HO_302000 HO_309000 HO312 BK284 BK296 BK301 BK308 HB;have HO_297000:=n0_;have HO_302000:=n1_;have HO_309000:=n2_;have HO312:=n3_;have BK284:=n4_;have BK296:=n5_;have BK301:=n6_;have BK308:=n7_;have HB:=n8_;clear n0_ n1_ n2_ n3_ n4_ n5_ n6_ n7_ n8_;(try clear hb);(try clear hb2);(try clear hk);(try clear hi)))
         go_meet
         case rel => exact ⟨_,(true),(by first|rfl|(simp;done)|(simp [*];done)),H',⟨by have:=HJ13.out;first|omega|exact Nat.le_refl _⟩,⟨by (with_reducible repeat (first|apply y_e|apply y_f|apply y_g));exact y_o HO_297000.out (fun _ hk => ⟨hk.1,hk.2.1⟩)⟩,⟨by (with_reducible repeat (first|apply y_e|apply y_f|apply y_g));exact y_o HO_302000.out (fun _ hk => ⟨hk.1.1,hk.1.2⟩)⟩,⟨by (with_reducible repeat (first|apply y_e|apply y_f|apply y_g));exact y_o HO_309000.out (fun _ hk => ⟨hk.1,hk.2.1⟩)⟩,⟨by (with_reducible repeat (first|refine y_b ?_ _|refine y_c ?_|refine y_d ?_ _));exact BK284.out⟩,⟨by (with_reducible repeat (first|refine y_b ?_ _|refine y_c ?_|refine y_d ?_ _));exact BK296.out⟩,⟨by (with_reducible repeat (first|refine y_b ?_ _|refine y_c ?_|refine y_d ?_ _));exact BK301.out⟩,⟨by (with_reducible repeat (first|refine y_b ?_ _|refine y_c ?_|refine y_d ?_ _));exact BK308.out⟩,⟨by repeat (first|(with_reducible first|exact HB.out|apply y_h|apply y_i|apply y_j|refine y_n ?_ GE284.out|refine y_n ?_ GE296.out|refine y_n ?_ GE301.out|refine y_n ?_ GE308.out)|exact HB.out)⟩⟩
      case rest =>
       clear HC72
       try clear c1
       try clear c2
       try clear p2
       try clear c3
       try clear c4
       try clear c5
       try clear c6
       try clear c6b0
       try clear c7
       try clear c8
       try clear c9
       try clear c10
       try clear c13
       try clear c15
       try clear c17
       try clear c19
       try clear c24
       try clear c26
       try clear c30
       try clear c31
       try clear c32
       try clear c34
       try clear c36
       try clear c37
       try clear c38
       try clear c41
       try clear c42
       try clear c42b0
       try clear c42b1
       try clear c43
       try clear c44
       try clear c45
       try clear c47
       try clear c48
       try clear c51
       try clear c52
       try clear c53
       try clear c55
       try clear c56
       try clear c59
       try clear c60
       try clear c61
       try clear c63
       try clear c64
       try clear c67
       try clear c70
       try clear c77
       try clear c78
       try clear c79
       try clear c82
       try clear c82b0
       try clear c84
       try clear c85
       try clear c85b0
       try clear c85b1
       try clear c86
       try clear c87
       try clear c88
       try clear c90
       try clear c91
       try clear c94
       try clear c95
       try clear c96
       try clear c98
       try clear c99
       try clear c102
       try clear c103
       try clear c104
       try clear c106
       try clear c107
       try clear hcz100_0
       try clear hcz100_1
       try clear hcz105_0
       try clear hcz105_1
       try clear hcz108_0
       try clear hcz108_1
       try clear hcz16_0
       try clear hcz16_1
       try clear hcz18_0
       try clear hcz18_1
       try clear hcz25_0
       try clear hcz25_1
       try clear hcz26_0
       try clear hcz26_1
       try clear hcz32_0
       try clear hcz32_1
       try clear hcz39_0
       try clear hcz39_1
       try clear hcz46_0
       try clear hcz46_1
       try clear hcz49_0
       try clear hcz49_1
       try clear hcz54_0
       try clear hcz54_1
       try clear hcz57_0
       try clear hcz57_1
       try clear hcz62_0
       try clear hcz62_1
       try clear hcz65_0
       try clear hcz65_1
       try clear hcz80_0
       try clear hcz80_1
       try clear hcz89_0
       try clear hcz89_1
       try clear hcz8_0
       try clear hcz8_1
       try clear hcz92_0
       try clear hcz92_1
       try clear hcz97_0
       try clear hcz97_1
       try clear hfz100_0
       try clear hfz100_1
       try clear hfz105_0
       try clear hfz105_1
       try clear hfz108_0
       try clear hfz108_1
       try clear hfz16_0
       try clear hfz16_1
       try clear hfz18_0
       try clear hfz18_1
       try clear hfz25_0
       try clear hfz25_1
       try clear hfz26_0
       try clear hfz26_1
       try clear hfz32_0
       try clear hfz32_1
       try clear hfz39_0
       try clear hfz39_1
       try clear hfz46_0
       try clear hfz46_1
       try clear hfz49_0
       try clear hfz49_1
       try clear hfz54_0
       try clear hfz54_1
       try clear hfz57_0
       try clear hfz57_1
       try clear hfz62_0
       try clear hfz62_1
       try clear hfz65_0
       try clear hfz65_1
       try clear hfz80_0
       try clear hfz80_1
       try clear hfz89_0
       try clear hfz89_1
       try clear hfz8_0
       try clear hfz8_1
       try clear hfz92_0
       try clear hfz92_1
       try clear hfz97_0
       try clear hfz97_1
       try clear p2
       obtain ⟨kq,x88_71,rfl,HA,HJ71,HO_297000,HO_302000,HO_309000,BK284,BK296,BK301,BK308,HB⟩:=hcut
       have hl302000_71 := (Kd.R_reads' HO_302000.out).1
       rw [hl302000_71] at HO_302000
       (try simp only [hl302000_71])
       (try simp only [hl302000_71] at BK284)
       (try simp only [hl302000_71] at BK296)
       (try simp only [hl302000_71] at BK301)
       (try simp only [hl302000_71] at BK308)
       (try simp only [hl302000_71] at HO_297000)
       (try simp only [hl302000_71] at HO_309000)
       cases kq with
       | zero => exact absurd HA.out (by simp [laws_FnExactPoolTake.j1])
       | succ kj71 =>
        have H := HA.out
        clear HA
        simp only [laws_FnExactPoolTake.j1] at H
        by_cases c110 : x88_71 = true
        ·subst c110
         have H1 : (some false) = some r:=by rw [if_pos rfl] at H;exact H
         clear H
         have H := H1
         clear H1
         obtain rfl := Option.some.inj H
         go_wp2
         go_ret
         exact ⟨by first|rfl|(simp [errW_none,errW_some] <;> rfl)|(simp [*,errW_none,errW_some] <;> rfl),by repeat (first|(with_reducible first|exact HB.out|apply y_h|apply y_i|apply y_j|refine y_n ?_ GE284.out|refine y_n ?_ GE296.out|refine y_n ?_ GE301.out|refine y_n ?_ GE308.out)|exact HB.out)⟩
        ·replace c110 := Bool.eq_false_iff.mpr c110
         subst c110
         have H1 : ((laws_markPool.f kj71 t302 t305 1).bind fun bt318 => ((laws_heldPool.f kj71 bt318.2 t305 1).bind fun t320 => (if t320 < 0 then (some false) else (if t320 = bt318.1 then ((laws_toPool.f kj71 l0_0 a0_1).bind fun bt321 => ((impl_PoolTake.f kj71 bt321.1 bt321.2 a1 a2 a3).bind fun bt325 => ((laws_eqPool.f kj71 bt325.1 bt325.2.1 t290 t293).bind fun t332 => (if t332 = true then (if bt325.2.2.1 = t294 then (laws_FnExactPoolTake.j2 kj71 bt318.1 (bt325.2.2.2 != t295) bt318.2 t305) else (laws_FnExactPoolTake.j2 kj71 bt318.1 true bt318.2 t305)) else (laws_FnExactPoolTake.j2 kj71 bt318.1 true bt318.2 t305))))) else (some false))))) = some r:=by rw [if_neg (show ¬ (false = true) by decide)] at H;exact H
         clear H
         have H := H1
         clear H1
         replace H := Option.bind_eq_some_iff.mp H
         obtain ⟨⟨t318, t319⟩, A1110, H⟩ := H
         replace H : ((laws_heldPool.f kj71 t319 t305 1).bind fun t320 => (if t320 < 0 then (some false) else (if t320 = t318 then ((laws_toPool.f kj71 l0_0 a0_1).bind fun bt321 => ((impl_PoolTake.f kj71 bt321.1 bt321.2 a1 a2 a3).bind fun bt325 => ((laws_eqPool.f kj71 bt325.1 bt325.2.1 t290 t293).bind fun t332 => (if t332 = true then (if bt325.2.2.1 = t294 then (laws_FnExactPoolTake.j2 kj71 t318 (bt325.2.2.2 != t295) t319 t305) else (laws_FnExactPoolTake.j2 kj71 t318 true t319 t305)) else (laws_FnExactPoolTake.j2 kj71 t318 true t319 t305))))) else (some false)))) = some r:=H
         have A111 := Aside0.mk A1110
         clear A1110
         replace H := Option.bind_eq_some_iff.mp H
         obtain ⟨t320, A1120, H⟩ := H
         replace H : (if t320 < 0 then (some false) else (if t320 = t318 then ((laws_toPool.f kj71 l0_0 a0_1).bind fun bt321 => ((impl_PoolTake.f kj71 bt321.1 bt321.2 a1 a2 a3).bind fun bt325 => ((laws_eqPool.f kj71 bt325.1 bt325.2.1 t290 t293).bind fun t332 => (if t332 = true then (if bt325.2.2.1 = t294 then (laws_FnExactPoolTake.j2 kj71 t318 (bt325.2.2.2 != t295) t319 t305) else (laws_FnExactPoolTake.j2 kj71 t318 true t319 t305)) else (laws_FnExactPoolTake.j2 kj71 t318 true t319 t305))))) else (some false))) = some r:=H
         have A112 := Aside0.mk A1120
         clear A1120
         by_cases c113 : t320 < 0
         ·rw [if_pos c113] at H
          have c113b0 : decide (t320 < 0) = true:=decide_eq_true c113
          clear c113
          obtain rfl := Option.some.inj H
          have hnb114 := NB308_284.out
          have hnc114 := NB284_308.out
          have hnb115 := NB308_296.out
          have hnc115 := NB296_308.out
          have hnb116 := NB308_301.out
          have hnc116 := NB301_308.out
          have hcz117_0 : wc.cell? ⟨gb308,0,none⟩ = some (.slice Ao35 t302.length co35):=(blk_cell BK308.out 0).trans rfl
          have hcz117_1 : wc.cell? ⟨gb308,1,none⟩ = some (.int .i64 t305):=(blk_cell BK308.out 1).trans rfl
          have hfz117_0 := blk_frozen BK308.out 0
          have hfz117_1 := blk_frozen BK308.out 1
          go_wp2_with (first|((with_reducible refine gate_callee (f:=26) rfl ?_);refine goesL_ (some 91) rfl rfl Try.func26 (by kernel_rfl) rfl #[.agg #[.slice Ao35 t302.length co35,.int .i64 t305],.int .i64 1] rfl (by (try simp only [List.map_toArray,List.map_cons,List.map_nil]);first|done|rfl|(simp only [List.length_drop,List.length_take];rfl)) ?_;(with_reducible refine (laws_markPool.calls kj71 (fun k_ => some k_ = (.slice Ao35 t302.length co35 : Value).ownBlock) (.slice Ao35 t302.length co35) t302 t305 1 t318 t319 w _ ?side1 ?side2 A111.out).mono ?_);(case side1 => repeat (first|(with_reducible first|exact HB.out|apply y_h|apply y_i|apply y_j|refine y_n ?_ GE284.out|refine y_n ?_ GE296.out|refine y_n ?_ GE301.out|refine y_n ?_ GE308.out)|exact HB.out));(case side2 => exact Kd.R_tight rfl HO_309000.out);rintro e w118 ⟨rfl,hy0,hb,hkp⟩;refine ⟨_,rfl,?_⟩;have n0_:=Aside0.mk (y_o (ok':=fun k_ => some k_ ≠ (.slice Ao29 t316.length co29 : Value).ownBlock ∧ some k_ ≠ (.slice Ao35 t302.length co35 : Value).ownBlock) (Kd.R_keptB (HO_297000.out) hkp (fun k_ hk_ hs_ => (hk_.2) hs_)) (fun k_ hk_ => ⟨hk_.1.1,hk_.1.2⟩));have n1_:=Aside0.mk (y_o (ok':=fun k_ => some k_ ≠ (.slice Ao23 t290.length co23 : Value).ownBlock ∧ some k_ ≠ (.slice Ao35 t302.length co35 : Value).ownBlock) (Kd.R_keptB (HO_302000.out) hkp (fun k_ hk_ hs_ => (hk_.2) hs_)) (fun k_ hk_ => ⟨hk_.1.1,hk_.1.2⟩));have n2_:=Aside0.mk (Kd.R_reok rfl hy0 (fun k_ e_ => HO_309000.out.1 k_ e_));have n3_:=Aside0.mk (blk_kept (by (with_reducible repeat (first|refine y_b ?_ _|refine y_c ?_|refine y_d ?_ _));exact BK284.out) hkp (fun hs_ => (fun e_ => (Kd.R_ne HO_309000.out BK284.out (by decide)) e_) hs_));have n4_:=Aside0.mk (blk_kept (by (with_reducible repeat (first|refine y_b ?_ _|refine y_c ?_|refine y_d ?_ _));exact BK296.out) hkp (fun hs_ => (fun e_ => (Kd.R_ne HO_309000.out BK296.out (by decide)) e_) hs_));have n5_:=Aside0.mk (blk_kept (by (with_reducible repeat (first|refine y_b ?_ _|refine y_c ?_|refine y_d ?_ _));exact BK301.out) hkp (fun hs_ => (fun e_ => (Kd.R_ne HO_309000.out BK301.out (by decide)) e_) hs_));have n6_:=Aside0.mk (blk_kept (by (with_reducible repeat (first|refine y_b ?_ _|refine y_c ?_|refine y_d ?_ _));exact BK308.out) hkp (fun hs_ => (fun e_ => (Kd.R_ne HO_309000.out BK308.out (by decide)) e_) hs_));have n7_:=Aside0.mk (hb);clear HO_297000 HO_302000 HO_309000 BK284 BK296 BK301 BK308 HB;have HO_297000:=n0_;have HO_302000:=n1_;have HO_309000:=n2_;have BK284:=n3_;have BK296:=n4_;have BK301:=n5_;have BK308:=n6_;have HB:=n7_;clear n0_ n1_ n2_ n3_ n4_ n5_ n6_ n7_;(try clear hb);(try clear hkp);(try clear hy0);have hcz119_0 : w118.cell? ⟨gb308,0,none⟩ = some (.slice Ao35 t302.length co35):=(blk_cell BK308.out 0).trans rfl;have hcz119_1 : w118.cell? ⟨gb308,1,none⟩ = some (.int .i64 t305):=(blk_cell BK308.out 1).trans rfl;have hfz119_0:=blk_frozen BK308.out 0;have hfz119_1:=blk_frozen BK308.out 1)|((with_reducible refine gate_callee (f:=27) rfl ?_);refine goesL_ (some 94) rfl rfl Try.func27 (by kernel_rfl) rfl #[.agg #[.slice Ao35 t319.length co35,.int .i64 t305],.int .i64 1] rfl (by (try simp only [List.map_toArray,List.map_cons,List.map_nil]);first|done|(rw [show t319.length = t302.length from (Kd.R_reads' HO_309000.out).1.symm] <;> rfl)|rfl|(simp only [List.length_drop,List.length_take];rfl)) ?_;(with_reducible refine (laws_heldPool.calls kj71 _ _ t319 t305 1 t320 _ ?side1 ?side2 A112.out).mono ?_);(case side1 => repeat (first|exact (Kd.R_reads' HO_309000.out).2.2|(with_reducible refine y_k ?_ _)|(with_reducible refine y_l ?_ _)|(with_reducible refine y_m ?_)));(case side2 => rw [show t319.length = t302.length from (Kd.R_reads' HO_309000.out).1.symm];exact (Kd.R_reads' HO_309000.out).2.1);rintro e w120 ⟨rfl,hb⟩;refine ⟨_,rfl,?_⟩;have n0_:=Aside0.mk (Kd.R_below (by (with_reducible repeat (first|apply y_e|apply y_f|apply y_g));exact HO_297000.out) hb);have n1_:=Aside0.mk (Kd.R_below (by (with_reducible repeat (first|apply y_e|apply y_f|apply y_g));exact HO_302000.out) hb);have n2_:=Aside0.mk (Kd.R_below (by (with_reducible repeat (first|apply y_e|apply y_f|apply y_g));exact HO_309000.out) hb);have n3_:=Aside0.mk (blk_below (g:=gb284) (o:=.cells #[.slice A0_0 l0_0.length c0_0,.int .i64 a0_1] 24 (0,0)) (by (with_reducible repeat (first|refine y_b ?_ _|refine y_c ?_|refine y_d ?_ _));exact BK284.out) hb);have n4_:=Aside0.mk (blk_below (g:=gb296) (o:=.cells #[.slice Ao23 t290.length co23,.int .i64 t293] 29 (0,0)) (by (with_reducible repeat (first|refine y_b ?_ _|refine y_c ?_|refine y_d ?_ _));exact BK296.out) hb);have n5_:=Aside0.mk (blk_below (g:=gb301) (o:=.cells #[.slice Ao29 t316.length co29,.int .i64 t300] 29 (0,0)) (by (with_reducible repeat (first|refine y_b ?_ _|refine y_c ?_|refine y_d ?_ _));exact BK301.out) hb);have n6_:=Aside0.mk (blk_below (g:=gb308) (o:=.cells #[.slice Ao35 t302.length co35,.int .i64 t305] 29 (0,0)) (by (with_reducible repeat (first|refine y_b ?_ _|refine y_c ?_|refine y_d ?_ _));exact BK308.out) hb);have n7_:=Aside0.mk (below_step (by repeat (first|(with_reducible first|exact HB.out|apply y_h|apply y_i|apply y_j|refine y_n ?_ GE284.out|refine y_n ?_ GE296.out|refine y_n ?_ GE301.out|refine y_n ?_ GE308.out)|exact HB.out)) hb);clear HO_297000 HO_302000 HO_309000 BK284 BK296 BK301 BK308 HB;have HO_297000:=n0_;have HO_302000:=n1_;have HO_309000:=n2_;have BK284:=n3_;have BK296:=n4_;have BK301:=n5_;have BK308:=n6_;have HB:=n7_;clear n0_ n1_ n2_ n3_ n4_ n5_ n6_ n7_;(try clear hb);(try clear hb2);(try clear hk);(try clear hi)))
          go_ret
          exact ⟨by first|rfl|(simp [errW_none,errW_some] <;> rfl)|(simp [*,errW_none,errW_some] <;> rfl),by repeat (first|(with_reducible first|exact HB.out|apply y_h|apply y_i|apply y_j|refine y_n ?_ GE284.out|refine y_n ?_ GE296.out|refine y_n ?_ GE301.out|refine y_n ?_ GE308.out)|exact HB.out)⟩
         ·rw [if_neg c113] at H
          have c113b0 : decide (t320 < 0) = false:=decide_eq_false c113
          clear c113
          by_cases c121 : t320 = t318
          ·rw [if_pos c121] at H
           have c121b0 : (t320 == t318) = true := beq_iff_eq.mpr c121
           have c121b1 : (t320 != t318) = false:=bne_eq_false_iff_eq.mpr c121
           clear c121
           replace H := Option.bind_eq_some_iff.mp H
           obtain ⟨⟨t321, t324⟩, A1220, H⟩ := H
           replace H : ((impl_PoolTake.f kj71 t321 t324 a1 a2 a3).bind fun bt325 => ((laws_eqPool.f kj71 bt325.1 bt325.2.1 t290 t293).bind fun t332 => (if t332 = true then (if bt325.2.2.1 = t294 then (laws_FnExactPoolTake.j2 kj71 t318 (bt325.2.2.2 != t295) t319 t305) else (laws_FnExactPoolTake.j2 kj71 t318 true t319 t305)) else (laws_FnExactPoolTake.j2 kj71 t318 true t319 t305)))) = some r:=H
           have A122 := Aside0.mk A1220
           clear A1220
           replace H := Option.bind_eq_some_iff.mp H
           obtain ⟨⟨t325, t328, t329, t330⟩, A1230, H⟩ := H
           replace H : ((laws_eqPool.f kj71 t325 t328 t290 t293).bind fun t332 => (if t332 = true then (if t329 = t294 then (laws_FnExactPoolTake.j2 kj71 t318 (t330 != t295) t319 t305) else (laws_FnExactPoolTake.j2 kj71 t318 true t319 t305)) else (laws_FnExactPoolTake.j2 kj71 t318 true t319 t305))) = some r:=H
           have A123 := Aside0.mk A1230
           clear A1230
           have HC124 := Aside0.mk H
           clear H
           have hnb125 := NB308_284.out
           have hnc125 := NB284_308.out
           have hnb126 := NB308_296.out
           have hnc126 := NB296_308.out
           have hnb127 := NB308_301.out
           have hnc127 := NB301_308.out
           have hcz128_0 : wc.cell? ⟨gb308,0,none⟩ = some (.slice Ao35 t302.length co35):=(blk_cell BK308.out 0).trans rfl
           have hcz128_1 : wc.cell? ⟨gb308,1,none⟩ = some (.int .i64 t305):=(blk_cell BK308.out 1).trans rfl
           have hfz128_0 := blk_frozen BK308.out 0
           have hfz128_1 := blk_frozen BK308.out 1
           go_upto_region 25 with (first|((with_reducible refine gate_callee (f:=26) rfl ?_);refine goesL_ (some 91) rfl rfl Try.func26 (by kernel_rfl) rfl #[.agg #[.slice Ao35 t302.length co35,.int .i64 t305],.int .i64 1] rfl (by (try simp only [List.map_toArray,List.map_cons,List.map_nil]);first|done|rfl|(simp only [List.length_drop,List.length_take];rfl)) ?_;(with_reducible refine (laws_markPool.calls kj71 (fun k_ => some k_ = (.slice Ao35 t302.length co35 : Value).ownBlock) (.slice Ao35 t302.length co35) t302 t305 1 t318 t319 w _ ?side1 ?side2 A111.out).mono ?_);(case side1 => repeat (first|(with_reducible first|exact HB.out|apply y_h|apply y_i|apply y_j|refine y_n ?_ GE284.out|refine y_n ?_ GE296.out|refine y_n ?_ GE301.out|refine y_n ?_ GE308.out)|exact HB.out));(case side2 => exact Kd.R_tight rfl HO_309000.out);rintro e w129 ⟨rfl,hy0,hb,hkp⟩;refine ⟨_,rfl,?_⟩;have n0_:=Aside0.mk (y_o (ok':=fun k_ => some k_ ≠ (.slice Ao29 t316.length co29 : Value).ownBlock ∧ some k_ ≠ (.slice Ao35 t302.length co35 : Value).ownBlock) (Kd.R_keptB (HO_297000.out) hkp (fun k_ hk_ hs_ => (hk_.2) hs_)) (fun k_ hk_ => ⟨hk_.1.1,hk_.1.2⟩));have n1_:=Aside0.mk (y_o (ok':=fun k_ => some k_ ≠ (.slice Ao23 t290.length co23 : Value).ownBlock ∧ some k_ ≠ (.slice Ao35 t302.length co35 : Value).ownBlock) (Kd.R_keptB (HO_302000.out) hkp (fun k_ hk_ hs_ => (hk_.2) hs_)) (fun k_ hk_ => ⟨hk_.1.1,hk_.1.2⟩));have n2_:=Aside0.mk (Kd.R_reok rfl hy0 (fun k_ e_ => HO_309000.out.1 k_ e_));have n3_:=Aside0.mk (blk_kept (by (with_reducible repeat (first|refine y_b ?_ _|refine y_c ?_|refine y_d ?_ _));exact BK284.out) hkp (fun hs_ => (fun e_ => (Kd.R_ne HO_309000.out BK284.out (by decide)) e_) hs_));have n4_:=Aside0.mk (blk_kept (by (with_reducible repeat (first|refine y_b ?_ _|refine y_c ?_|refine y_d ?_ _));exact BK296.out) hkp (fun hs_ => (fun e_ => (Kd.R_ne HO_309000.out BK296.out (by decide)) e_) hs_));have n5_:=Aside0.mk (blk_kept (by (with_reducible repeat (first|refine y_b ?_ _|refine y_c ?_|refine y_d ?_ _));exact BK301.out) hkp (fun hs_ => (fun e_ => (Kd.R_ne HO_309000.out BK301.out (by decide)) e_) hs_));have n6_:=Aside0.mk (blk_kept (by (with_reducible repeat (first|refine y_b ?_ _|refine y_c ?_|refine y_d ?_ _));exact BK308.out) hkp (fun hs_ => (fun e_ => (Kd.R_ne HO_309000.out BK308.out (by decide)) e_) hs_));have n7_:=Aside0.mk (hb);clear HO_297000 HO_302000 HO_309000 BK284 BK296 BK301 BK308 HB;have HO_297000:=n0_;have HO_302000:=n1_;have HO_309000:=n2_;have BK284:=n3_;have BK296:=n4_;have BK301:=n5_;have BK308:=n6_;have HB:=n7_;clear n0_ n1_ n2_ n3_ n4_ n5_ n6_ n7_;(try clear hb);(try clear hkp);(try clear hy0);have hcz130_0 : w129.cell? ⟨gb308,0,none⟩ = some (.slice Ao35 t302.length co35):=(blk_cell BK308.out 0).trans rfl;have hcz130_1 : w129.cell? ⟨gb308,1,none⟩ = some (.int .i64 t305):=(blk_cell BK308.out 1).trans rfl;have hfz130_0:=blk_frozen BK308.out 0;have hfz130_1:=blk_frozen BK308.out 1)|((with_reducible refine gate_callee (f:=27) rfl ?_);refine goesL_ (some 94) rfl rfl Try.func27 (by kernel_rfl) rfl #[.agg #[.slice Ao35 t319.length co35,.int .i64 t305],.int .i64 1] rfl (by (try simp only [List.map_toArray,List.map_cons,List.map_nil]);first|done|(rw [show t319.length = t302.length from (Kd.R_reads' HO_309000.out).1.symm] <;> rfl)|rfl|(simp only [List.length_drop,List.length_take];rfl)) ?_;(with_reducible refine (laws_heldPool.calls kj71 _ _ t319 t305 1 t320 _ ?side1 ?side2 A112.out).mono ?_);(case side1 => repeat (first|exact (Kd.R_reads' HO_309000.out).2.2|(with_reducible refine y_k ?_ _)|(with_reducible refine y_l ?_ _)|(with_reducible refine y_m ?_)));(case side2 => rw [show t319.length = t302.length from (Kd.R_reads' HO_309000.out).1.symm];exact (Kd.R_reads' HO_309000.out).2.1);rintro e w131 ⟨rfl,hb⟩;refine ⟨_,rfl,?_⟩;have n0_:=Aside0.mk (Kd.R_below (by (with_reducible repeat (first|apply y_e|apply y_f|apply y_g));exact HO_297000.out) hb);have n1_:=Aside0.mk (Kd.R_below (by (with_reducible repeat (first|apply y_e|apply y_f|apply y_g));exact HO_302000.out) hb);have n2_:=Aside0.mk (Kd.R_below (by (with_reducible repeat (first|apply y_e|apply y_f|apply y_g));exact HO_309000.out) hb);have n3_:=Aside0.mk (blk_below (g:=gb284) (o:=.cells #[.slice A0_0 l0_0.length c0_0,.int .i64 a0_1] 24 (0,0)) (by (with_reducible repeat (first|refine y_b ?_ _|refine y_c ?_|refine y_d ?_ _));exact BK284.out) hb);have n4_:=Aside0.mk (blk_below (g:=gb296) (o:=.cells #[.slice Ao23 t290.length co23,.int .i64 t293] 29 (0,0)) (by (with_reducible repeat (first|refine y_b ?_ _|refine y_c ?_|refine y_d ?_ _));exact BK296.out) hb);have n5_:=Aside0.mk (blk_below (g:=gb301) (o:=.cells #[.slice Ao29 t316.length co29,.int .i64 t300] 29 (0,0)) (by (with_reducible repeat (first|refine y_b ?_ _|refine y_c ?_|refine y_d ?_ _));exact BK301.out) hb);have n6_:=Aside0.mk (blk_below (g:=gb308) (o:=.cells #[.slice Ao35 t302.length co35,.int .i64 t305] 29 (0,0)) (by (with_reducible repeat (first|refine y_b ?_ _|refine y_c ?_|refine y_d ?_ _));exact BK308.out) hb);have n7_:=Aside0.mk (below_step (by repeat (first|(with_reducible first|exact HB.out|apply y_h|apply y_i|apply y_j|refine y_n ?_ GE284.out|refine y_n ?_ GE296.out|refine y_n ?_ GE301.out|refine y_n ?_ GE308.out)|exact HB.out)) hb);clear HO_297000 HO_302000 HO_309000 BK284 BK296 BK301 BK308 HB;have HO_297000:=n0_;have HO_302000:=n1_;have HO_309000:=n2_;have BK284:=n3_;have BK296:=n4_;have BK301:=n5_;have BK308:=n6_;have HB:=n7_;clear n0_ n1_ n2_ n3_ n4_ n5_ n6_ n7_;(try clear hb);(try clear hb2);(try clear hk);(try clear hi);have hnb132:=NB284_296.out;have hnc132:=NB296_284.out;have hnb133:=NB284_301.out;have hnc133:=NB301_284.out;have hcz134_0 : w131.cell? ⟨gb284,0,none⟩ = some (.slice A0_0 l0_0.length c0_0):=(blk_cell BK284.out 0).trans rfl;have hcz134_1 : w131.cell? ⟨gb284,1,none⟩ = some (.int .i64 a0_1):=(blk_cell BK284.out 1).trans rfl;have hfz134_0:=blk_frozen BK284.out 0;have hfz134_1:=blk_frozen BK284.out 1)|((with_reducible refine gate_callee (f:=17) rfl ?_);refine goesL_ (some 102) rfl rfl Try.func17 (by kernel_rfl) rfl #[.agg #[.slice A0_0 l0_0.length c0_0,.int .i64 a0_1]] rfl (by (try simp only [List.map_toArray,List.map_cons,List.map_nil]);first|done|rfl|(simp only [List.length_drop,List.length_take];rfl)) ?_;(with_reducible refine (laws_toPool.calls kj71 _ _ l0_0 a0_1 t321 t324 _ ?side1 ?side2 A122.out).mono ?_);(case side1 => repeat (first|exact (Kd.C_below HR0_0.out HB.out)|(with_reducible refine y_k ?_ _)|(with_reducible refine y_l ?_ _)|(with_reducible refine y_m ?_)));(case side2 => exact HC0_0.out);rintro e w135 ⟨v322,rfl,ho0,hb⟩;refine ⟨_,rfl,?_⟩;have n0_:=Aside0.mk (Kd.R_elder' (by (with_reducible repeat (first|apply y_e|apply y_f|apply y_g));exact HO_297000.out) (Kd.R_base ho0) hb);have n1_:=Aside0.mk (Kd.R_elder' (by (with_reducible repeat (first|apply y_e|apply y_f|apply y_g));exact HO_302000.out) (Kd.R_base ho0) hb);have n2_:=Aside0.mk (Kd.R_elder' (by (with_reducible repeat (first|apply y_e|apply y_f|apply y_g));exact HO_309000.out) (Kd.R_base ho0) hb);have n3_:=Aside0.mk (Kd.R_lower (Kd.R_new' (Kd.R_new' (Kd.R_new' ho0 (Kd.R_lt (by (with_reducible repeat (first|apply y_e|apply y_f|apply y_g));exact HO_297000.out))) (Kd.R_lt (by (with_reducible repeat (first|apply y_e|apply y_f|apply y_g));exact HO_302000.out))) (Kd.R_lt (by (with_reducible repeat (first|apply y_e|apply y_f|apply y_g));exact HO_309000.out))) (below_size (by repeat (first|(with_reducible first|exact HB.out|apply y_h|apply y_i|apply y_j|refine y_n ?_ GE284.out|refine y_n ?_ GE296.out|refine y_n ?_ GE301.out|refine y_n ?_ GE308.out)|exact HB.out))));have n4_:=Aside0.mk (blk_below (g:=gb284) (o:=.cells #[.slice A0_0 l0_0.length c0_0,.int .i64 a0_1] 24 (0,0)) (by (with_reducible repeat (first|refine y_b ?_ _|refine y_c ?_|refine y_d ?_ _));exact BK284.out) hb);have n5_:=Aside0.mk (blk_below (g:=gb296) (o:=.cells #[.slice Ao23 t290.length co23,.int .i64 t293] 29 (0,0)) (by (with_reducible repeat (first|refine y_b ?_ _|refine y_c ?_|refine y_d ?_ _));exact BK296.out) hb);have n6_:=Aside0.mk (blk_below (g:=gb301) (o:=.cells #[.slice Ao29 t316.length co29,.int .i64 t300] 29 (0,0)) (by (with_reducible repeat (first|refine y_b ?_ _|refine y_c ?_|refine y_d ?_ _));exact BK301.out) hb);have n7_:=Aside0.mk (blk_below (g:=gb308) (o:=.cells #[.slice Ao35 t302.length co35,.int .i64 t305] 29 (0,0)) (by (with_reducible repeat (first|refine y_b ?_ _|refine y_c ?_|refine y_d ?_ _));exact BK308.out) hb);have n8_:=Aside0.mk (below_step (by repeat (first|(with_reducible first|exact HB.out|apply y_h|apply y_i|apply y_j|refine y_n ?_ GE284.out|refine y_n ?_ GE296.out|refine y_n ?_ GE301.out|refine y_n ?_ GE308.out)|exact HB.out)) hb);clear HO_297000 HO_302000 HO_309000 BK284 BK296 BK301 BK308 HB;have HO_297000:=n0_;have HO_302000:=n1_;have HO_309000:=n2_;have HO323:=n3_;have BK284:=n4_;have BK296:=n5_;have BK301:=n6_;have BK308:=n7_;have HB:=n8_;clear n0_ n1_ n2_ n3_ n4_ n5_ n6_ n7_ n8_;(try clear hb);(try clear hb2);(try clear hk);(try clear hi);(try clear ho0);obtain ⟨Ao136,co136,eo136⟩:=Kd.R_slice HO323.out;subst eo136)|((with_reducible refine gate_callee (f:=32) rfl ?_);refine goesL_ (some 106) rfl rfl Try.func32 (by kernel_rfl) rfl #[.agg #[.slice Ao136 t321.length co136,.int .i64 t324],.int .i64 a1,.int .i64 a2,.int .i64 a3] rfl (by (try simp only [List.map_toArray,List.map_cons,List.map_nil]);first|done|rfl|(simp only [List.length_drop,List.length_take];rfl)) ?_;(with_reducible refine (impl_PoolTake.calls kj71 _ _ t321 t324 a1 a2 a3 t325 t328 t329 t330 _ ?side1 ?side2 A123.out).mono ?_);(case side1 => repeat (first|exact (Kd.R_reads' HO323.out).2.2|(with_reducible refine y_k ?_ _)|(with_reducible refine y_l ?_ _)|(with_reducible refine y_m ?_)));(case side2 => exact (Kd.R_reads' HO323.out).2.1);rintro e w137 ⟨v326,rfl,ho0,hb⟩;refine ⟨_,rfl,?_⟩;have n0_:=Aside0.mk (Kd.R_elder' (by (with_reducible repeat (first|apply y_e|apply y_f|apply y_g));exact HO_297000.out) (Kd.R_base ho0) hb);have n1_:=Aside0.mk (Kd.R_elder' (by (with_reducible repeat (first|apply y_e|apply y_f|apply y_g));exact HO_302000.out) (Kd.R_base ho0) hb);have n2_:=Aside0.mk (Kd.R_elder' (by (with_reducible repeat (first|apply y_e|apply y_f|apply y_g));exact HO_309000.out) (Kd.R_base ho0) hb);have n3_:=Aside0.mk (Kd.R_elder' (by (with_reducible repeat (first|apply y_e|apply y_f|apply y_g));exact HO323.out) (Kd.R_base ho0) hb);have n4_:=Aside0.mk (Kd.R_lower (Kd.R_new' (Kd.R_new' (Kd.R_new' (Kd.R_new' ho0 (Kd.R_lt (by (with_reducible repeat (first|apply y_e|apply y_f|apply y_g));exact HO_297000.out))) (Kd.R_lt (by (with_reducible repeat (first|apply y_e|apply y_f|apply y_g));exact HO_302000.out))) (Kd.R_lt (by (with_reducible repeat (first|apply y_e|apply y_f|apply y_g));exact HO_309000.out))) (Kd.R_lt (by (with_reducible repeat (first|apply y_e|apply y_f|apply y_g));exact HO323.out))) (below_size (by repeat (first|(with_reducible first|exact HB.out|apply y_h|apply y_i|apply y_j|refine y_n ?_ GE284.out|refine y_n ?_ GE296.out|refine y_n ?_ GE301.out|refine y_n ?_ GE308.out)|exact HB.out))));have n5_:=Aside0.mk (blk_below (g:=gb284) (o:=.cells #[.slice A0_0 l0_0.length c0_0,.int .i64 a0_1] 24 (0,0)) (by (with_reducible repeat (first|refine y_b ?_ _|refine y_c ?_|refine y_d ?_ _));exact BK284.out) hb);have n6_:=Aside0.mk (blk_below (g:=gb296) (o:=.cells #[.slice Ao23 t290.length co23,.int .i64 t293] 29 (0,0)) (by (with_reducible repeat (first|refine y_b ?_ _|refine y_c ?_|refine y_d ?_ _));exact BK296.out) hb);have n7_:=Aside0.mk (blk_below (g:=gb301) (o:=.cells #[.slice Ao29 t316.length co29,.int .i64 t300] 29 (0,0)) (by (with_reducible repeat (first|refine y_b ?_ _|refine y_c ?_|refine y_d ?_ _));exact BK301.out) hb);have n8_:=Aside0.mk (blk_below (g:=gb308) (o:=.cells #[.slice Ao35 t302.length co35,.int .i64 t305] 29 (0,0)) (by (with_reducible repeat (first|refine y_b ?_ _|refine y_c ?_|refine y_d ?_ _));exact BK308.out) hb);have n9_:=Aside0.mk (below_step (by repeat (first|(with_reducible first|exact HB.out|apply y_h|apply y_i|apply y_j|refine y_n ?_ GE284.out|refine y_n ?_ GE296.out|refine y_n ?_ GE301.out|refine y_n ?_ GE308.out)|exact HB.out)) hb);clear HO_297000 HO_302000 HO_309000 HO323 BK284 BK296 BK301 BK308 HB;have HO_297000:=n0_;have HO_302000:=n1_;have HO_309000:=n2_;have HO323:=n3_;have HO327:=n4_;have BK284:=n5_;have BK296:=n6_;have BK301:=n7_;have BK308:=n8_;have HB:=n9_;clear n0_ n1_ n2_ n3_ n4_ n5_ n6_ n7_ n8_ n9_;(try clear hb);(try clear hb2);(try clear hk);(try clear hi);(try clear ho0))|((with_reducible refine gate_dst (N:=20) rfl ?_);refine box_event ?hg (N:=20) ?hd (cs:=#[.slice none 0 0,.int .i64 0]) (t:=29) ?hr ?_;(case hd => rfl);(case hg => rfl);(case hr => first|(go_simp;done)|(go_simp;rfl));intro gb331 hg w138 hbox hb;have n0_:=Aside0.mk (Kd.R_below (by (with_reducible repeat (first|apply y_e|apply y_f|apply y_g));exact HO_297000.out) hb);have n1_:=Aside0.mk (Kd.R_below (by (with_reducible repeat (first|apply y_e|apply y_f|apply y_g));exact HO_302000.out) hb);have n2_:=Aside0.mk (Kd.R_below (by (with_reducible repeat (first|apply y_e|apply y_f|apply y_g));exact HO_309000.out) hb);have n3_:=Aside0.mk (Kd.R_below (by (with_reducible repeat (first|apply y_e|apply y_f|apply y_g));exact HO323.out) hb);have n4_:=Aside0.mk (Kd.R_below (by (with_reducible repeat (first|apply y_e|apply y_f|apply y_g));exact HO327.out) hb);have n5_:=Aside0.mk (blk_below (g:=gb284) (o:=.cells #[.slice A0_0 l0_0.length c0_0,.int .i64 a0_1] 24 (0,0)) (by (with_reducible repeat (first|refine y_b ?_ _|refine y_c ?_|refine y_d ?_ _));exact BK284.out) hb);have n6_:=Aside0.mk (blk_below (g:=gb296) (o:=.cells #[.slice Ao23 t290.length co23,.int .i64 t293] 29 (0,0)) (by (with_reducible repeat (first|refine y_b ?_ _|refine y_c ?_|refine y_d ?_ _));exact BK296.out) hb);have n7_:=Aside0.mk (blk_below (g:=gb301) (o:=.cells #[.slice Ao29 t316.length co29,.int .i64 t300] 29 (0,0)) (by (with_reducible repeat (first|refine y_b ?_ _|refine y_c ?_|refine y_d ?_ _));exact BK301.out) hb);have n8_:=Aside0.mk (blk_below (g:=gb308) (o:=.cells #[.slice Ao35 t302.length co35,.int .i64 t305] 29 (0,0)) (by (with_reducible repeat (first|refine y_b ?_ _|refine y_c ?_|refine y_d ?_ _));exact BK308.out) hb);have n9_:=Aside0.mk (below_step (by repeat (first|(with_reducible first|exact HB.out|apply y_h|apply y_i|apply y_j|refine y_n ?_ GE284.out|refine y_n ?_ GE296.out|refine y_n ?_ GE301.out|refine y_n ?_ GE308.out)|exact HB.out)) hb);have n10_:=Aside0.mk (hbox);have n11_:=Aside0.mk ((by rw [hg];exact (below_size (by repeat (first|(with_reducible first|exact HB.out|apply y_h|apply y_i|apply y_j|refine y_n ?_ GE284.out|refine y_n ?_ GE296.out|refine y_n ?_ GE301.out|refine y_n ?_ GE308.out)|exact HB.out))) : w.heap.size ≤ gb331));have n12_:=Aside0.mk ((by rw [hg];exact (below_size (by repeat (first|(with_reducible first|exact HB.out|apply y_h|apply y_i|apply y_j|refine y_n ?_ GE284.out|refine y_n ?_ GE296.out|refine y_n ?_ GE301.out|refine y_n ?_ GE308.out)|exact HB.out))) : w.heap.size ≤ gb331));have n13_:=Aside0.mk ((by rw [hg];exact Nat.ne_of_lt (blk_lt (g:=gb284) (o:=.cells #[.slice A0_0 l0_0.length c0_0,.int .i64 a0_1] 24 (0,0)) (by (with_reducible repeat (first|refine y_b ?_ _|refine y_c ?_|refine y_d ?_ _));exact BK284.out)) : gb284 ≠ gb331));have n14_:=Aside0.mk ((by rw [hg];exact Nat.ne_of_gt (blk_lt (g:=gb284) (o:=.cells #[.slice A0_0 l0_0.length c0_0,.int .i64 a0_1] 24 (0,0)) (by (with_reducible repeat (first|refine y_b ?_ _|refine y_c ?_|refine y_d ?_ _));exact BK284.out)) : gb331 ≠ gb284));have n15_:=Aside0.mk ((by rw [hg];exact Nat.ne_of_lt (blk_lt (g:=gb296) (o:=.cells #[.slice Ao23 t290.length co23,.int .i64 t293] 29 (0,0)) (by (with_reducible repeat (first|refine y_b ?_ _|refine y_c ?_|refine y_d ?_ _));exact BK296.out)) : gb296 ≠ gb331));have n16_:=Aside0.mk ((by rw [hg];exact Nat.ne_of_gt (blk_lt (g:=gb296) (o:=.cells #[.slice Ao23 t290.length co23,.int .i64 t293] 29 (0,0)) (by (with_reducible repeat (first|refine y_b ?_ _|refine y_c ?_|refine y_d ?_ _));exact BK296.out)) : gb331 ≠ gb296));have n17_:=Aside0.mk ((by rw [hg];exact Nat.ne_of_lt (blk_lt (g:=gb301) (o:=.cells #[.slice Ao29 t316.length co29,.int .i64 t300] 29 (0,0)) (by (with_reducible repeat (first|refine y_b ?_ _|refine y_c ?_|refine y_d ?_ _));exact BK301.out)) : gb301 ≠ gb331));have n18_:=Aside0.mk ((by rw [hg];exact Nat.ne_of_gt (blk_lt (g:=gb301) (o:=.cells #[.slice Ao29 t316.length co29,.int .i64 t300] 29 (0,0)) (by (with_reducible repeat (first|refine y_b ?_ _|refine y_c ?_|refine y_d ?_ _));exact BK301.out)) : gb331 ≠ gb301));have n19_:=Aside0.mk ((by rw [hg];exact Nat.ne_of_lt (blk_lt (g:=gb308) (o:=.cells #[.slice Ao35 t302.length co35,.int .i64 t305] 29 (0,0)) (by (with_reducible repeat (first|refine y_b ?_ _|refine y_c ?_|refine y_d ?_ _));exact BK308.out)) : gb308 ≠ gb331));have n20_:=Aside0.mk ((by rw [hg];exact Nat.ne_of_gt (blk_lt (g:=gb308) (o:=.cells #[.slice Ao35 t302.length co35,.int .i64 t305] 29 (0,0)) (by (with_reducible repeat (first|refine y_b ?_ _|refine y_c ?_|refine y_d ?_ _));exact BK308.out)) : gb331 ≠ gb308));clear HO_297000 HO_302000 HO_309000 HO323 HO327 BK284 BK296 BK301 BK308 HB;have HO_297000:=n0_;have HO_302000:=n1_;have HO_309000:=n2_;have HO323:=n3_;have HO327:=n4_;have BK284:=n5_;have BK296:=n6_;have BK301:=n7_;have BK308:=n8_;have HB:=n9_;have BK331:=n10_;have GW331:=n11_;have GE331:=n12_;have NB284_331:=n13_;have NB331_284:=n14_;have NB296_331:=n15_;have NB331_296:=n16_;have NB301_331:=n17_;have NB331_301:=n18_;have NB308_331:=n19_;have NB331_308:=n20_;clear n0_ n1_ n2_ n3_ n4_ n5_ n6_ n7_ n8_ n9_ n10_ n11_ n12_ n13_ n14_ n15_ n16_ n17_ n18_ n19_ n20_;clear hb hbox hg;obtain ⟨Ao139,co139,eo139⟩:=Kd.R_slice HO327.out;subst eo139;have hnb140:=NB331_284.out;have hnc140:=NB284_331.out;have hnb141:=NB331_296.out;have hnc141:=NB296_331.out;have hnb142:=NB331_301.out;have hnc142:=NB301_331.out;have hnb143:=NB331_308.out;have hnc143:=NB308_331.out;have hcz144_0 : w138.cell? ⟨gb331,0,none⟩ = some (.slice none 0 0):=(blk_cell BK331.out 0).trans rfl;have hcz144_1 : w138.cell? ⟨gb331,1,none⟩ = some (.int .i64 0):=(blk_cell BK331.out 1).trans rfl;have hfz144_0:=blk_frozen BK331.out 0;have hfz144_1:=blk_frozen BK331.out 1))
           (try simp only [Act.put,List.setIfInBounds_toArray,List.set_cons_zero,List.set_cons_succ])
           go_cut [123] (fun v123 wc => ∃ (kq : Nat) (x123_123 : Bool),v123 = .bool x123_123 ∧ Aside0 (laws_FnExactPoolTake.j2 kq t318 x123_123 t319 t305 = some r) ∧ Aside0 (kq ≤ kj71) ∧ Aside0 (Kd.R k41 41 wc w.heap.size (fun k_ => some k_ ≠ ((.slice Ao29 t316.length co29) : Value).ownBlock ∧ some k_ ≠ ((.slice Ao35 t302.length co35) : Value).ownBlock ∧ some k_ ≠ ((.slice Ao139 t325.length co139) : Value).ownBlock) (.slice Ao23 t290.length co23) t290) ∧ Aside0 (Kd.R k41 41 wc w.heap.size (fun k_ => some k_ ≠ ((.slice Ao23 t290.length co23) : Value).ownBlock ∧ some k_ ≠ ((.slice Ao35 t302.length co35) : Value).ownBlock ∧ some k_ ≠ ((.slice Ao139 t325.length co139) : Value).ownBlock) (.slice Ao29 t316.length co29) t316) ∧ Aside0 (Kd.R k41 41 wc w.heap.size (fun k_ => some k_ ≠ ((.slice Ao23 t290.length co23) : Value).ownBlock ∧ some k_ ≠ ((.slice Ao29 t316.length co29) : Value).ownBlock ∧ some k_ ≠ ((.slice Ao139 t325.length co139) : Value).ownBlock) (.slice Ao35 t302.length co35) t319) ∧ Aside0 (Kd.R k41 41 wc w.heap.size (fun k_ => some k_ ≠ ((.slice Ao23 t290.length co23) : Value).ownBlock ∧ some k_ ≠ ((.slice Ao29 t316.length co29) : Value).ownBlock ∧ some k_ ≠ ((.slice Ao35 t302.length co35) : Value).ownBlock) (.slice Ao139 t325.length co139) t325) ∧ Aside0 (wc.heap[gb284]? = some (.cells #[(.slice A0_0 l0_0.length c0_0),.int .i64 a0_1] 24 (0,0))) ∧ Aside0 (wc.heap[gb296]? = some (.cells #[(.slice Ao23 t290.length co23),.int .i64 t293] 29 (0,0))) ∧ Aside0 (wc.heap[gb301]? = some (.cells #[(.slice Ao29 t316.length co29),.int .i64 t300] 29 (0,0))) ∧ Aside0 (wc.heap[gb308]? = some (.cells #[(.slice Ao35 t302.length co35),.int .i64 t305] 29 (0,0))) ∧ Aside0 (wc.heap[gb331]? = some (.cells #[(.slice Ao139 t325.length co139),.int .i64 t328] 29 (0,0))) ∧ Aside0 (Below w.heap.size w wc))
           case first =>
            have H := HC124.out
            clear HC124
            replace H := Option.bind_eq_some_iff.mp H
            obtain ⟨t332, A1450, H⟩ := H
            replace H : (if t332 = true then (if t329 = t294 then (laws_FnExactPoolTake.j2 kj71 t318 (t330 != t295) t319 t305) else (laws_FnExactPoolTake.j2 kj71 t318 true t319 t305)) else (laws_FnExactPoolTake.j2 kj71 t318 true t319 t305)) = some r:=H
            have A145 := Aside0.mk A1450
            clear A1450
            by_cases c146 : t332 = true
            ·subst c146
             have H1 : (if t329 = t294 then (laws_FnExactPoolTake.j2 kj71 t318 (t330 != t295) t319 t305) else (laws_FnExactPoolTake.j2 kj71 t318 true t319 t305)) = some r:=by rw [if_pos rfl] at H;exact H
             clear H
             have H := H1
             clear H1
             by_cases c147 : t329 = t294
             ·rw [if_pos c147] at H
              have c147b0 : (t329 == t294) = true := beq_iff_eq.mpr c147
              have c147b1 : (t329 != t294) = false:=bne_eq_false_iff_eq.mpr c147
              clear c147
              (first|rw [c147b0]|(simp only [i64_w,i32_w];rw [c147b0])|skip)
              have H' := Aside0.mk H
              clear H
              have hnb148 := NB331_284.out
              have hnc148 := NB284_331.out
              have hnb149 := NB331_296.out
              have hnc149 := NB296_331.out
              have hnb150 := NB331_301.out
              have hnc150 := NB301_331.out
              have hnb151 := NB331_308.out
              have hnc151 := NB308_331.out
              have hcz152_0 : w138.cell? ⟨gb331,0,none⟩ = some (.slice none 0 0):=(blk_cell BK331.out 0).trans rfl
              have hcz152_1 : w138.cell? ⟨gb331,1,none⟩ = some (.int .i64 0):=(blk_cell BK331.out 1).trans rfl
              have hfz152_0 := blk_frozen BK331.out 0
              have hfz152_1 := blk_frozen BK331.out 1
              have hnb153 := NB296_284.out
              have hnc153 := NB284_296.out
              have hnb154 := NB296_301.out
              have hnc154 := NB301_296.out
              have hnb155 := NB296_308.out
              have hnc155 := NB308_296.out
              have hcz156_0 : w138.cell? ⟨gb296,0,none⟩ = some (.slice Ao23 t290.length co23):=(blk_cell BK296.out 0).trans rfl
              have hcz156_1 : w138.cell? ⟨gb296,1,none⟩ = some (.int .i64 t293):=(blk_cell BK296.out 1).trans rfl
              have hfz156_0 := blk_frozen BK296.out 0
              have hfz156_1 := blk_frozen BK296.out 1
              go_wp2_with (first|((with_reducible refine gate_callee (f:=19) rfl ?_);refine goesL_ (some 112) rfl rfl Try.func19 (by kernel_rfl) rfl #[.agg #[.slice Ao139 t325.length co139,.int .i64 t328],.agg #[.slice Ao23 t290.length co23,.int .i64 t293]] rfl (by (try simp only [List.map_toArray,List.map_cons,List.map_nil]);first|done|rfl|(simp only [List.length_drop,List.length_take];rfl)) ?_;(with_reducible refine (laws_eqPool.calls kj71 _ _ t325 t328 _ _ t290 t293 true _ ?side1 ?side2 ?side3 ?side4 A145.out).mono ?_);(case side1 => refine (Kd.R_reads' (e:=41) (base:=w.heap.size) (ok:=fun k_ => ((((True ∧ some k_ ≠ (.slice Ao23 t290.length co23 : Value).ownBlock) ∧ some k_ ≠ (.slice Ao29 t316.length co29 : Value).ownBlock) ∧ some k_ ≠ (.slice Ao35 t302.length co35 : Value).ownBlock) ∧ some k_ ≠ (.slice Ao136 t321.length co136 : Value).ownBlock)) (n:=t325.length) (c:=co139) ?_).2.2;exact (by (with_reducible repeat (first|apply y_e|apply y_f|apply y_g));exact (y_o (Kd.R_far (p:=⟨gb331,1,none⟩) (Kd.R_far (p:=⟨gb331,0,none⟩) (Kd.R_types HO327.out BK331.out (by decide)) (fun _ hk => hk.2) (.slice Ao139 t325.length co139)) (fun _ hk => hk.2) (.int .i64 t328)) (fun _ h_ => h_.1))));(case side2 => exact (Kd.R_reads' HO327.out).2.1);(case side3 => refine (Kd.R_reads' (e:=41) (base:=w.heap.size) (ok:=fun k_ => (((some k_ ≠ (.slice Ao29 t316.length co29 : Value).ownBlock ∧ some k_ ≠ (.slice Ao35 t302.length co35 : Value).ownBlock) ∧ some k_ ≠ (.slice Ao136 t321.length co136 : Value).ownBlock) ∧ some k_ ≠ (.slice Ao139 t325.length co139 : Value).ownBlock)) (n:=t290.length) (c:=co23) ?_).2.2;exact (by (with_reducible repeat (first|apply y_e|apply y_f|apply y_g));exact (y_o (Kd.R_far (p:=⟨gb331,1,none⟩) (Kd.R_far (p:=⟨gb331,0,none⟩) (Kd.R_types HO_297000.out BK331.out (by decide)) (fun _ hk => hk.2) (.slice Ao139 t325.length co139)) (fun _ hk => hk.2) (.int .i64 t328)) (fun _ h_ => h_.1))));(case side4 => exact (Kd.R_reads' HO_297000.out).2.1);rintro e w157 ⟨rfl,hb⟩;refine ⟨_,rfl,?_⟩;have n0_:=Aside0.mk (Kd.R_below (by (with_reducible repeat (first|apply y_e|apply y_f|apply y_g));exact (y_o (Kd.R_far (p:=⟨gb331,1,none⟩) (Kd.R_far (p:=⟨gb331,0,none⟩) (Kd.R_types HO_297000.out BK331.out (by decide)) (fun _ hk => hk.2) (.slice Ao139 t325.length co139)) (fun _ hk => hk.2) (.int .i64 t328)) (fun _ h_ => h_.1))) hb);have n1_:=Aside0.mk (Kd.R_below (by (with_reducible repeat (first|apply y_e|apply y_f|apply y_g));exact (y_o (Kd.R_far (p:=⟨gb331,1,none⟩) (Kd.R_far (p:=⟨gb331,0,none⟩) (Kd.R_types HO_302000.out BK331.out (by decide)) (fun _ hk => hk.2) (.slice Ao139 t325.length co139)) (fun _ hk => hk.2) (.int .i64 t328)) (fun _ h_ => h_.1))) hb);have n2_:=Aside0.mk (Kd.R_below (by (with_reducible repeat (first|apply y_e|apply y_f|apply y_g));exact (y_o (Kd.R_far (p:=⟨gb331,1,none⟩) (Kd.R_far (p:=⟨gb331,0,none⟩) (Kd.R_types HO_309000.out BK331.out (by decide)) (fun _ hk => hk.2) (.slice Ao139 t325.length co139)) (fun _ hk => hk.2) (.int .i64 t328)) (fun _ h_ => h_.1))) hb);have n3_:=Aside0.mk (Kd.R_below (by (with_reducible repeat (first|apply y_e|apply y_f|apply y_g));exact (y_o (Kd.R_far (p:=⟨gb331,1,none⟩) (Kd.R_far (p:=⟨gb331,0,none⟩) (Kd.R_types HO323.out BK331.out (by decide)) (fun _ hk => hk.2) (.slice Ao139 t325.length co139)) (fun _ hk => hk.2) (.int .i64 t328)) (fun _ h_ => h_.1))) hb);have n4_:=Aside0.mk (Kd.R_below (by (with_reducible repeat (first|apply y_e|apply y_f|apply y_g));exact (y_o (Kd.R_far (p:=⟨gb331,1,none⟩) (Kd.R_far (p:=⟨gb331,0,none⟩) (Kd.R_types HO327.out BK331.out (by decide)) (fun _ hk => hk.2) (.slice Ao139 t325.length co139)) (fun _ hk => hk.2) (.int .i64 t328)) (fun _ h_ => h_.1))) hb);have n5_:=Aside0.mk (blk_below (g:=gb284) (o:=.cells #[.slice A0_0 l0_0.length c0_0,.int .i64 a0_1] 24 (0,0)) (by (with_reducible repeat (first|refine y_b ?_ _|refine y_c ?_|refine y_d ?_ _));refine blk_far ?_ NB284_331.out _;(with_reducible repeat (first|refine y_b ?_ _|refine y_c ?_|refine y_d ?_ _));refine blk_far ?_ NB284_331.out _;(with_reducible repeat (first|refine y_b ?_ _|refine y_c ?_|refine y_d ?_ _));exact BK284.out) hb);have n6_:=Aside0.mk (blk_below (g:=gb296) (o:=.cells #[.slice Ao23 t290.length co23,.int .i64 t293] 29 (0,0)) (by (with_reducible repeat (first|refine y_b ?_ _|refine y_c ?_|refine y_d ?_ _));refine blk_far ?_ NB296_331.out _;(with_reducible repeat (first|refine y_b ?_ _|refine y_c ?_|refine y_d ?_ _));refine blk_far ?_ NB296_331.out _;(with_reducible repeat (first|refine y_b ?_ _|refine y_c ?_|refine y_d ?_ _));exact BK296.out) hb);have n7_:=Aside0.mk (blk_below (g:=gb301) (o:=.cells #[.slice Ao29 t316.length co29,.int .i64 t300] 29 (0,0)) (by (with_reducible repeat (first|refine y_b ?_ _|refine y_c ?_|refine y_d ?_ _));refine blk_far ?_ NB301_331.out _;(with_reducible repeat (first|refine y_b ?_ _|refine y_c ?_|refine y_d ?_ _));refine blk_far ?_ NB301_331.out _;(with_reducible repeat (first|refine y_b ?_ _|refine y_c ?_|refine y_d ?_ _));exact BK301.out) hb);have n8_:=Aside0.mk (blk_below (g:=gb308) (o:=.cells #[.slice Ao35 t302.length co35,.int .i64 t305] 29 (0,0)) (by (with_reducible repeat (first|refine y_b ?_ _|refine y_c ?_|refine y_d ?_ _));refine blk_far ?_ NB308_331.out _;(with_reducible repeat (first|refine y_b ?_ _|refine y_c ?_|refine y_d ?_ _));refine blk_far ?_ NB308_331.out _;(with_reducible repeat (first|refine y_b ?_ _|refine y_c ?_|refine y_d ?_ _));exact BK308.out) hb);have n9_:=Aside0.mk (blk_below (g:=gb331) (o:=.cells #[.slice Ao139 t325.length co139,.int .i64 t328] 29 (0,0)) (by (with_reducible repeat (first|refine y_b ?_ _|refine y_c ?_|refine y_d ?_ _));refine blk_put (cs:=#[.slice Ao139 t325.length co139,.int .i64 0]) ?_ 1 _ rfl;(with_reducible repeat (first|refine y_b ?_ _|refine y_c ?_|refine y_d ?_ _));refine blk_put (cs:=#[.slice none 0 0,.int .i64 0]) ?_ 0 _ rfl;(with_reducible repeat (first|refine y_b ?_ _|refine y_c ?_|refine y_d ?_ _));exact BK331.out) hb);have n10_:=Aside0.mk (below_step (by repeat (first|(with_reducible first|exact HB.out|apply y_h|apply y_i|apply y_j|refine y_n ?_ GE284.out|refine y_n ?_ GE296.out|refine y_n ?_ GE301.out|refine y_n ?_ GE308.out|refine y_n ?_ GE331.out)|exact HB.out)) hb);clear HO_297000 HO_302000 HO_309000 HO323 HO327 BK284 BK296 BK301 BK308 BK331 HB;have HO_297000:=n0_;have HO_302000:=n1_;have HO_309000:=n2_;have HO323:=n3_;have HO327:=n4_;have BK284:=n5_;have BK296:=n6_;have BK301:=n7_;have BK308:=n8_;have BK331:=n9_;have HB:=n10_;clear n0_ n1_ n2_ n3_ n4_ n5_ n6_ n7_ n8_ n9_ n10_;(try clear hb);(try clear hb2);(try clear hk);(try clear hi)))
              go_meet
              case rel => exact ⟨_,((t330 != t295)),(by first|rfl|(simp;done)|(simp [*];done)),H',⟨by have:=HJ13.out;have:=HJ71.out;first|omega|exact Nat.le_refl _⟩,⟨by (try simp only [hl302000_71]);(with_reducible repeat (first|apply y_e|apply y_f|apply y_g));exact y_o HO_297000.out (fun _ hk => ⟨hk.1.1.1,⟨hk.1.1.2,hk.2⟩⟩)⟩,⟨by (try simp only [hl302000_71]);(with_reducible repeat (first|apply y_e|apply y_f|apply y_g));exact y_o HO_302000.out (fun _ hk => ⟨hk.1.1.1,⟨hk.1.1.2,hk.2⟩⟩)⟩,⟨by (try simp only [hl302000_71]);(with_reducible repeat (first|apply y_e|apply y_f|apply y_g));exact y_o HO_309000.out (fun _ hk => ⟨hk.1.1.1,⟨hk.1.1.2,hk.2⟩⟩)⟩,⟨by (try simp only [hl302000_71]);(with_reducible repeat (first|apply y_e|apply y_f|apply y_g));exact y_o HO327.out (fun _ hk => ⟨hk.1.1.1.2,⟨hk.1.1.2,hk.1.2⟩⟩)⟩,⟨by (try simp only [hl302000_71]);(with_reducible repeat (first|refine y_b ?_ _|refine y_c ?_|refine y_d ?_ _));exact BK284.out⟩,⟨by (try simp only [hl302000_71]);(with_reducible repeat (first|refine y_b ?_ _|refine y_c ?_|refine y_d ?_ _));exact BK296.out⟩,⟨by (try simp only [hl302000_71]);(with_reducible repeat (first|refine y_b ?_ _|refine y_c ?_|refine y_d ?_ _));exact BK301.out⟩,⟨by (try simp only [hl302000_71]);(with_reducible repeat (first|refine y_b ?_ _|refine y_c ?_|refine y_d ?_ _));exact BK308.out⟩,⟨by (try simp only [hl302000_71]);(with_reducible repeat (first|refine y_b ?_ _|refine y_c ?_|refine y_d ?_ _));exact BK331.out⟩,⟨by repeat (first|(with_reducible first|exact HB.out|apply y_h|apply y_i|apply y_j|refine y_n ?_ GE284.out|refine y_n ?_ GE296.out|refine y_n ?_ GE301.out|refine y_n ?_ GE308.out|refine y_n ?_ GE331.out)|exact HB.out)⟩⟩
             ·rw [if_neg c147] at H
              have c147b0 : (t329 == t294) = false:=beq_eq_false_iff_ne.mpr c147
              have c147b1 : (t329 != t294) = true := bne_iff_ne.mpr c147
              (first|rw [c147b0]|(simp only [i64_w,i32_w];rw [c147b0])|skip)
              have H' := Aside0.mk H
              clear H
              have hnb158 := NB331_284.out
              have hnc158 := NB284_331.out
              have hnb159 := NB331_296.out
              have hnc159 := NB296_331.out
              have hnb160 := NB331_301.out
              have hnc160 := NB301_331.out
              have hnb161 := NB331_308.out
              have hnc161 := NB308_331.out
              have hcz162_0 : w138.cell? ⟨gb331,0,none⟩ = some (.slice none 0 0):=(blk_cell BK331.out 0).trans rfl
              have hcz162_1 : w138.cell? ⟨gb331,1,none⟩ = some (.int .i64 0):=(blk_cell BK331.out 1).trans rfl
              have hfz162_0 := blk_frozen BK331.out 0
              have hfz162_1 := blk_frozen BK331.out 1
              have hnb163 := NB296_284.out
              have hnc163 := NB284_296.out
              have hnb164 := NB296_301.out
              have hnc164 := NB301_296.out
              have hnb165 := NB296_308.out
              have hnc165 := NB308_296.out
              have hcz166_0 : w138.cell? ⟨gb296,0,none⟩ = some (.slice Ao23 t290.length co23):=(blk_cell BK296.out 0).trans rfl
              have hcz166_1 : w138.cell? ⟨gb296,1,none⟩ = some (.int .i64 t293):=(blk_cell BK296.out 1).trans rfl
              have hfz166_0 := blk_frozen BK296.out 0
              have hfz166_1 := blk_frozen BK296.out 1
              go_wp2_with (first|((with_reducible refine gate_callee (f:=19) rfl ?_);refine goesL_ (some 112) rfl rfl Try.func19 (by kernel_rfl) rfl #[.agg #[.slice Ao139 t325.length co139,.int .i64 t328],.agg #[.slice Ao23 t290.length co23,.int .i64 t293]] rfl (by (try simp only [List.map_toArray,List.map_cons,List.map_nil]);first|done|rfl|(simp only [List.length_drop,List.length_take];rfl)) ?_;(with_reducible refine (laws_eqPool.calls kj71 _ _ t325 t328 _ _ t290 t293 true _ ?side1 ?side2 ?side3 ?side4 A145.out).mono ?_);(case side1 => refine (Kd.R_reads' (e:=41) (base:=w.heap.size) (ok:=fun k_ => ((((True ∧ some k_ ≠ (.slice Ao23 t290.length co23 : Value).ownBlock) ∧ some k_ ≠ (.slice Ao29 t316.length co29 : Value).ownBlock) ∧ some k_ ≠ (.slice Ao35 t302.length co35 : Value).ownBlock) ∧ some k_ ≠ (.slice Ao136 t321.length co136 : Value).ownBlock)) (n:=t325.length) (c:=co139) ?_).2.2;exact (by (with_reducible repeat (first|apply y_e|apply y_f|apply y_g));exact (y_o (Kd.R_far (p:=⟨gb331,1,none⟩) (Kd.R_far (p:=⟨gb331,0,none⟩) (Kd.R_types HO327.out BK331.out (by decide)) (fun _ hk => hk.2) (.slice Ao139 t325.length co139)) (fun _ hk => hk.2) (.int .i64 t328)) (fun _ h_ => h_.1))));(case side2 => exact (Kd.R_reads' HO327.out).2.1);(case side3 => refine (Kd.R_reads' (e:=41) (base:=w.heap.size) (ok:=fun k_ => (((some k_ ≠ (.slice Ao29 t316.length co29 : Value).ownBlock ∧ some k_ ≠ (.slice Ao35 t302.length co35 : Value).ownBlock) ∧ some k_ ≠ (.slice Ao136 t321.length co136 : Value).ownBlock) ∧ some k_ ≠ (.slice Ao139 t325.length co139 : Value).ownBlock)) (n:=t290.length) (c:=co23) ?_).2.2;exact (by (with_reducible repeat (first|apply y_e|apply y_f|apply y_g));exact (y_o (Kd.R_far (p:=⟨gb331,1,none⟩) (Kd.R_far (p:=⟨gb331,0,none⟩) (Kd.R_types HO_297000.out BK331.out (by decide)) (fun _ hk => hk.2) (.slice Ao139 t325.length co139)) (fun _ hk => hk.2) (.int .i64 t328)) (fun _ h_ => h_.1))));(case side4 => exact (Kd.R_reads' HO_297000.out).2.1);rintro e w167 ⟨rfl,hb⟩;refine ⟨_,rfl,?_⟩;have n0_:=Aside0.mk (Kd.R_below (by (with_reducible repeat (first|apply y_e|apply y_f|apply y_g));exact (y_o (Kd.R_far (p:=⟨gb331,1,none⟩) (Kd.R_far (p:=⟨gb331,0,none⟩) (Kd.R_types HO_297000.out BK331.out (by decide)) (fun _ hk => hk.2) (.slice Ao139 t325.length co139)) (fun _ hk => hk.2) (.int .i64 t328)) (fun _ h_ => h_.1))) hb);have n1_:=Aside0.mk (Kd.R_below (by (with_reducible repeat (first|apply y_e|apply y_f|apply y_g));exact (y_o (Kd.R_far (p:=⟨gb331,1,none⟩) (Kd.R_far (p:=⟨gb331,0,none⟩) (Kd.R_types HO_302000.out BK331.out (by decide)) (fun _ hk => hk.2) (.slice Ao139 t325.length co139)) (fun _ hk => hk.2) (.int .i64 t328)) (fun _ h_ => h_.1))) hb);have n2_:=Aside0.mk (Kd.R_below (by (with_reducible repeat (first|apply y_e|apply y_f|apply y_g));exact (y_o (Kd.R_far (p:=⟨gb331,1,none⟩) (Kd.R_far (p:=⟨gb331,0,none⟩) (Kd.R_types HO_309000.out BK331.out (by decide)) (fun _ hk => hk.2) (.slice Ao139 t325.length co139)) (fun _ hk => hk.2) (.int .i64 t328)) (fun _ h_ => h_.1))) hb);have n3_:=Aside0.mk (Kd.R_below (by (with_reducible repeat (first|apply y_e|apply y_f|apply y_g));exact (y_o (Kd.R_far (p:=⟨gb331,1,none⟩) (Kd.R_far (p:=⟨gb331,0,none⟩) (Kd.R_types HO323.out BK331.out (by decide)) (fun _ hk => hk.2) (.slice Ao139 t325.length co139)) (fun _ hk => hk.2) (.int .i64 t328)) (fun _ h_ => h_.1))) hb);have n4_:=Aside0.mk (Kd.R_below (by (with_reducible repeat (first|apply y_e|apply y_f|apply y_g));exact (y_o (Kd.R_far (p:=⟨gb331,1,none⟩) (Kd.R_far (p:=⟨gb331,0,none⟩) (Kd.R_types HO327.out BK331.out (by decide)) (fun _ hk => hk.2) (.slice Ao139 t325.length co139)) (fun _ hk => hk.2) (.int .i64 t328)) (fun _ h_ => h_.1))) hb);have n5_:=Aside0.mk (blk_below (g:=gb284) (o:=.cells #[.slice A0_0 l0_0.length c0_0,.int .i64 a0_1] 24 (0,0)) (by (with_reducible repeat (first|refine y_b ?_ _|refine y_c ?_|refine y_d ?_ _));refine blk_far ?_ NB284_331.out _;(with_reducible repeat (first|refine y_b ?_ _|refine y_c ?_|refine y_d ?_ _));refine blk_far ?_ NB284_331.out _;(with_reducible repeat (first|refine y_b ?_ _|refine y_c ?_|refine y_d ?_ _));exact BK284.out) hb);have n6_:=Aside0.mk (blk_below (g:=gb296) (o:=.cells #[.slice Ao23 t290.length co23,.int .i64 t293] 29 (0,0)) (by (with_reducible repeat (first|refine y_b ?_ _|refine y_c ?_|refine y_d ?_ _));refine blk_far ?_ NB296_331.out _;(with_reducible repeat (first|refine y_b ?_ _|refine y_c ?_|refine y_d ?_ _));refine blk_far ?_ NB296_331.out _;(with_reducible repeat (first|refine y_b ?_ _|refine y_c ?_|refine y_d ?_ _));exact BK296.out) hb);have n7_:=Aside0.mk (blk_below (g:=gb301) (o:=.cells #[.slice Ao29 t316.length co29,.int .i64 t300] 29 (0,0)) (by (with_reducible repeat (first|refine y_b ?_ _|refine y_c ?_|refine y_d ?_ _));refine blk_far ?_ NB301_331.out _;(with_reducible repeat (first|refine y_b ?_ _|refine y_c ?_|refine y_d ?_ _));refine blk_far ?_ NB301_331.out _;(with_reducible repeat (first|refine y_b ?_ _|refine y_c ?_|refine y_d ?_ _));exact BK301.out) hb);have n8_:=Aside0.mk (blk_below (g:=gb308) (o:=.cells #[.slice Ao35 t302.length co35,.int .i64 t305] 29 (0,0)) (by (with_reducible repeat (first|refine y_b ?_ _|refine y_c ?_|refine y_d ?_ _));refine blk_far ?_ NB308_331.out _;(with_reducible repeat (first|refine y_b ?_ _|refine y_c ?_|refine y_d ?_ _));refine blk_far ?_ NB308_331.out _;(with_reducible repeat (first|refine y_b ?_ _|refine y_c ?_|refine y_d ?_ _));exact BK308.out) hb);have n9_:=Aside0.mk (blk_below (g:=gb331) (o:=.cells #[.slice Ao139 t325.length co139,.int .i64 t328] 29 (0,0)) (by (with_reducible repeat (first|refine y_b ?_ _|refine y_c ?_|refine y_d ?_ _));refine blk_put (cs:=#[.slice Ao139 t325.length co139,.int .i64 0]) ?_ 1 _ rfl;(with_reducible repeat (first|refine y_b ?_ _|refine y_c ?_|refine y_d ?_ _));refine blk_put (cs:=#[.slice none 0 0,.int .i64 0]) ?_ 0 _ rfl;(with_reducible repeat (first|refine y_b ?_ _|refine y_c ?_|refine y_d ?_ _));exact BK331.out) hb);have n10_:=Aside0.mk (below_step (by repeat (first|(with_reducible first|exact HB.out|apply y_h|apply y_i|apply y_j|refine y_n ?_ GE284.out|refine y_n ?_ GE296.out|refine y_n ?_ GE301.out|refine y_n ?_ GE308.out|refine y_n ?_ GE331.out)|exact HB.out)) hb);clear HO_297000 HO_302000 HO_309000 HO323 HO327 BK284 BK296 BK301 BK308 BK331 HB;have HO_297000:=n0_;have HO_302000:=n1_;have HO_309000:=n2_;have HO323:=n3_;have HO327:=n4_;have BK284:=n5_;have BK296:=n6_;have BK301:=n7_;have BK308:=n8_;have BK331:=n9_;have HB:=n10_;clear n0_ n1_ n2_ n3_ n4_ n5_ n6_ n7_ n8_ n9_ n10_;(try clear hb);(try clear hb2);(try clear hk);(try clear hi)))
              go_meet
              case rel => exact ⟨_,(true),(by first|rfl|(simp;done)|(simp [*];done)),H',⟨by have:=HJ13.out;have:=HJ71.out;first|omega|exact Nat.le_refl _⟩,⟨by (try simp only [hl302000_71]);(with_reducible repeat (first|apply y_e|apply y_f|apply y_g));exact y_o HO_297000.out (fun _ hk => ⟨hk.1.1.1,⟨hk.1.1.2,hk.2⟩⟩)⟩,⟨by (try simp only [hl302000_71]);(with_reducible repeat (first|apply y_e|apply y_f|apply y_g));exact y_o HO_302000.out (fun _ hk => ⟨hk.1.1.1,⟨hk.1.1.2,hk.2⟩⟩)⟩,⟨by (try simp only [hl302000_71]);(with_reducible repeat (first|apply y_e|apply y_f|apply y_g));exact y_o HO_309000.out (fun _ hk => ⟨hk.1.1.1,⟨hk.1.1.2,hk.2⟩⟩)⟩,⟨by (try simp only [hl302000_71]);(with_reducible repeat (first|apply y_e|apply y_f|apply y_g));exact y_o HO327.out (fun _ hk => ⟨hk.1.1.1.2,⟨hk.1.1.2,hk.1.2⟩⟩)⟩,⟨by (try simp only [hl302000_71]);(with_reducible repeat (first|refine y_b ?_ _|refine y_c ?_|refine y_d ?_ _));exact BK284.out⟩,⟨by (try simp only [hl302000_71]);(with_reducible repeat (first|refine y_b ?_ _|refine y_c ?_|refine y_d ?_ _));exact BK296.out⟩,⟨by (try simp only [hl302000_71]);(with_reducible repeat (first|refine y_b ?_ _|refine y_c ?_|refine y_d ?_ _));exact BK301.out⟩,⟨by (try simp only [hl302000_71]);(with_reducible repeat (first|refine y_b ?_ _|refine y_c ?_|refine y_d ?_ _));exact BK308.out⟩,⟨by (try simp only [hl302000_71]);(with_reducible repeat (first|refine y_b ?_ _|refine y_c ?_|refine y_d ?_ _));exact BK331.out⟩,⟨by repeat (first|(with_reducible first|exact HB.out|apply y_h|apply y_i|apply y_j|refine y_n ?_ GE284.out|refine y_n ?_ GE296.out|refine y_n ?_ GE301.out|refine y_n ?_ GE308.out|refine y_n ?_ GE331.out)|exact HB.out)⟩⟩
            ·replace c146 := Bool.eq_false_iff.mpr c146
             subst c146
             have H1 : (laws_FnExactPoolTake.j2 kj71 t318 true t319 t305) = some r:=by rw [if_neg (show ¬ (false = true) by decide)] at H;exact H
             clear H
             have H := H1
             clear H1
             have H' := Aside0.mk H
             clear H
             have hnb168 := NB331_284.out
             have hnc168 := NB284_331.out
             have hnb169 := NB331_296.out
             have hnc169 := NB296_331.out
             have hnb170 := NB331_301.out
             have hnc170 := NB301_331.out
             have hnb171 := NB331_308.out
             have hnc171 := NB308_331.out
             have hcz172_0 : w138.cell? ⟨gb331,0,none⟩ = some (.slice none 0 0):=(blk_cell BK331.out 0).trans rfl
             have hcz172_1 : w138.cell? ⟨gb331,1,none⟩ = some (.int .i64 0):=(blk_cell BK331.out 1).trans rfl
             have hfz172_0 := blk_frozen BK331.out 0
             have hfz172_1 := blk_frozen BK331.out 1
             have hnb173 := NB296_284.out
             have hnc173 := NB284_296.out
             have hnb174 := NB296_301.out
             have hnc174 := NB301_296.out
             have hnb175 := NB296_308.out
             have hnc175 := NB308_296.out
             have hcz176_0 : w138.cell? ⟨gb296,0,none⟩ = some (.slice Ao23 t290.length co23):=(blk_cell BK296.out 0).trans rfl
             have hcz176_1 : w138.cell? ⟨gb296,1,none⟩ = some (.int .i64 t293):=(blk_cell BK296.out 1).trans rfl
             have hfz176_0 := blk_frozen BK296.out 0
             have hfz176_1 := blk_frozen BK296.out 1
             go_wp2_with (first|((with_reducible refine gate_callee (f:=19) rfl ?_);refine goesL_ (some 112) rfl rfl Try.func19 (by kernel_rfl) rfl #[.agg #[.slice Ao139 t325.length co139,.int .i64 t328],.agg #[.slice Ao23 t290.length co23,.int .i64 t293]] rfl (by (try simp only [List.map_toArray,List.map_cons,List.map_nil]);first|done|rfl|(simp only [List.length_drop,List.length_take];rfl)) ?_;(with_reducible refine (laws_eqPool.calls kj71 _ _ t325 t328 _ _ t290 t293 false _ ?side1 ?side2 ?side3 ?side4 A145.out).mono ?_);(case side1 => refine (Kd.R_reads' (e:=41) (base:=w.heap.size) (ok:=fun k_ => ((((True ∧ some k_ ≠ (.slice Ao23 t290.length co23 : Value).ownBlock) ∧ some k_ ≠ (.slice Ao29 t316.length co29 : Value).ownBlock) ∧ some k_ ≠ (.slice Ao35 t302.length co35 : Value).ownBlock) ∧ some k_ ≠ (.slice Ao136 t321.length co136 : Value).ownBlock)) (n:=t325.length) (c:=co139) ?_).2.2;exact (by (with_reducible repeat (first|apply y_e|apply y_f|apply y_g));exact (y_o (Kd.R_far (p:=⟨gb331,1,none⟩) (Kd.R_far (p:=⟨gb331,0,none⟩) (Kd.R_types HO327.out BK331.out (by decide)) (fun _ hk => hk.2) (.slice Ao139 t325.length co139)) (fun _ hk => hk.2) (.int .i64 t328)) (fun _ h_ => h_.1))));(case side2 => exact (Kd.R_reads' HO327.out).2.1);(case side3 => refine (Kd.R_reads' (e:=41) (base:=w.heap.size) (ok:=fun k_ => (((some k_ ≠ (.slice Ao29 t316.length co29 : Value).ownBlock ∧ some k_ ≠ (.slice Ao35 t302.length co35 : Value).ownBlock) ∧ some k_ ≠ (.slice Ao136 t321.length co136 : Value).ownBlock) ∧ some k_ ≠ (.slice Ao139 t325.length co139 : Value).ownBlock)) (n:=t290.length) (c:=co23) ?_).2.2;exact (by (with_reducible repeat (first|apply y_e|apply y_f|apply y_g));exact (y_o (Kd.R_far (p:=⟨gb331,1,none⟩) (Kd.R_far (p:=⟨gb331,0,none⟩) (Kd.R_types HO_297000.out BK331.out (by decide)) (fun _ hk => hk.2) (.slice Ao139 t325.length co139)) (fun _ hk => hk.2) (.int .i64 t328)) (fun _ h_ => h_.1))));(case side4 => exact (Kd.R_reads' HO_297000.out).2.1);rintro e w177 ⟨rfl,hb⟩;refine ⟨_,rfl,?_⟩;have n0_:=Aside0.mk (Kd.R_below (by (with_reducible repeat (first|apply y_e|apply y_f|apply y_g));exact (y_o (Kd.R_far (p:=⟨gb331,1,none⟩) (Kd.R_far (p:=⟨gb331,0,none⟩) (Kd.R_types HO_297000.out BK331.out (by decide)) (fun _ hk => hk.2) (.slice Ao139 t325.length co139)) (fun _ hk => hk.2) (.int .i64 t328)) (fun _ h_ => h_.1))) hb);have n1_:=Aside0.mk (Kd.R_below (by (with_reducible repeat (first|apply y_e|apply y_f|apply y_g));exact (y_o (Kd.R_far (p:=⟨gb331,1,none⟩) (Kd.R_far (p:=⟨gb331,0,none⟩) (Kd.R_types HO_302000.out BK331.out (by decide)) (fun _ hk => hk.2) (.slice Ao139 t325.length co139)) (fun _ hk => hk.2) (.int .i64 t328)) (fun _ h_ => h_.1))) hb);have n2_:=Aside0.mk (Kd.R_below (by (with_reducible repeat (first|apply y_e|apply y_f|apply y_g));exact (y_o (Kd.R_far (p:=⟨gb331,1,none⟩) (Kd.R_far (p:=⟨gb331,0,none⟩) (Kd.R_types HO_309000.out BK331.out (by decide)) (fun _ hk => hk.2) (.slice Ao139 t325.length co139)) (fun _ hk => hk.2) (.int .i64 t328)) (fun _ h_ => h_.1))) hb);have n3_:=Aside0.mk (Kd.R_below (by (with_reducible repeat (first|apply y_e|apply y_f|apply y_g));exact (y_o (Kd.R_far (p:=⟨gb331,1,none⟩) (Kd.R_far (p:=⟨gb331,0,none⟩) (Kd.R_types HO323.out BK331.out (by decide)) (fun _ hk => hk.2) (.slice Ao139 t325.length co139)) (fun _ hk => hk.2) (.int .i64 t328)) (fun _ h_ => h_.1))) hb);have n4_:=Aside0.mk (Kd.R_below (by (with_reducible repeat (first|apply y_e|apply y_f|apply y_g));exact (y_o (Kd.R_far (p:=⟨gb331,1,none⟩) (Kd.R_far (p:=⟨gb331,0,none⟩) (Kd.R_types HO327.out BK331.out (by decide)) (fun _ hk => hk.2) (.slice Ao139 t325.length co139)) (fun _ hk => hk.2) (.int .i64 t328)) (fun _ h_ => h_.1))) hb);have n5_:=Aside0.mk (blk_below (g:=gb284) (o:=.cells #[.slice A0_0 l0_0.length c0_0,.int .i64 a0_1] 24 (0,0)) (by (with_reducible repeat (first|refine y_b ?_ _|refine y_c ?_|refine y_d ?_ _));refine blk_far ?_ NB284_331.out _;(with_reducible repeat (first|refine y_b ?_ _|refine y_c ?_|refine y_d ?_ _));refine blk_far ?_ NB284_331.out _;(with_reducible repeat (first|refine y_b ?_ _|refine y_c ?_|refine y_d ?_ _));exact BK284.out) hb);have n6_:=Aside0.mk (blk_below (g:=gb296) (o:=.cells #[.slice Ao23 t290.length co23,.int .i64 t293] 29 (0,0)) (by (with_reducible repeat (first|refine y_b ?_ _|refine y_c ?_|refine y_d ?_ _));refine blk_far ?_ NB296_331.out _;(with_reducible repeat (first|refine y_b ?_ _|refine y_c ?_|refine y_d ?_ _));refine blk_far ?_ NB296_331.out _;(with_reducible repeat (first|refine y_b ?_ _|refine y_c ?_|refine y_d ?_ _));exact BK296.out) hb);have n7_:=Aside0.mk (blk_below (g:=gb301) (o:=.cells #[.slice Ao29 t316.length co29,.int .i64 t300] 29 (0,0)) (by (with_reducible repeat (first|refine y_b ?_ _|refine y_c ?_|refine y_d ?_ _));refine blk_far ?_ NB301_331.out _;(with_reducible repeat (first|refine y_b ?_ _|refine y_c ?_|refine y_d ?_ _));refine blk_far ?_ NB301_331.out _;(with_reducible repeat (first|refine y_b ?_ _|refine y_c ?_|refine y_d ?_ _));exact BK301.out) hb);have n8_:=Aside0.mk (blk_below (g:=gb308) (o:=.cells #[.slice Ao35 t302.length co35,.int .i64 t305] 29 (0,0)) (by (with_reducible repeat (first|refine y_b ?_ _|refine y_c ?_|refine y_d ?_ _));refine blk_far ?_ NB308_331.out _;(with_reducible repeat (first|refine y_b ?_ _|refine y_c ?_|refine y_d ?_ _));refine blk_far ?_ NB308_331.out _;(with_reducible repeat (first|refine y_b ?_ _|refine y_c ?_|refine y_d ?_ _));exact BK308.out) hb);have n9_:=Aside0.mk (blk_below (g:=gb331) (o:=.cells #[.slice Ao139 t325.length co139,.int .i64 t328] 29 (0,0)) (by (with_reducible repeat (first|refine y_b ?_ _|refine y_c ?_|refine y_d ?_ _));refine blk_put (cs:=#[.slice Ao139 t325.length co139,.int .i64 0]) ?_ 1 _ rfl;(with_reducible repeat (first|refine y_b ?_ _|refine y_c ?_|refine y_d ?_ _));refine blk_put (cs:=#[.slice none 0 0,.int .i64 0]) ?_ 0 _ rfl;(with_reducible repeat (first|refine y_b ?_ _|refine y_c ?_|refine y_d ?_ _));exact BK331.out) hb);have n10_:=Aside0.mk (below_step (by repeat (first|(with_reducible first|exact HB.out|apply y_h|apply y_i|apply y_j|refine y_n ?_ GE284.out|refine y_n ?_ GE296.out|refine y_n ?_ GE301.out|refine y_n ?_ GE308.out|refine y_n ?_ GE331.out)|exact HB.out)) hb);clear HO_297000 HO_302000 HO_309000 HO323 HO327 BK284 BK296 BK301 BK308 BK331 HB;have HO_297000:=n0_;have HO_302000:=n1_;have HO_309000:=n2_;have HO323:=n3_;have HO327:=n4_;have BK284:=n5_;have BK296:=n6_;have BK301:=n7_;have BK308:=n8_;have BK331:=n9_;have HB:=n10_;clear n0_ n1_ n2_ n3_ n4_ n5_ n6_ n7_ n8_ n9_ n10_;(try clear hb);(try clear hb2);(try clear hk);(try clear hi)))
             go_meet
             case rel => exact ⟨_,(true),(by first|rfl|(simp;done)|(simp [*];done)),H',⟨by have:=HJ13.out;have:=HJ71.out;first|omega|exact Nat.le_refl _⟩,⟨by (try simp only [hl302000_71]);(with_reducible repeat (first|apply y_e|apply y_f|apply y_g));exact y_o HO_297000.out (fun _ hk => ⟨hk.1.1.1,⟨hk.1.1.2,hk.2⟩⟩)⟩,⟨by (try simp only [hl302000_71]);(with_reducible repeat (first|apply y_e|apply y_f|apply y_g));exact y_o HO_302000.out (fun _ hk => ⟨hk.1.1.1,⟨hk.1.1.2,hk.2⟩⟩)⟩,⟨by (try simp only [hl302000_71]);(with_reducible repeat (first|apply y_e|apply y_f|apply y_g));exact y_o HO_309000.out (fun _ hk => ⟨hk.1.1.1,⟨hk.1.1.2,hk.2⟩⟩)⟩,⟨by (try simp only [hl302000_71]);(with_reducible repeat (first|apply y_e|apply y_f|apply y_g));exact y_o HO327.out (fun _ hk => ⟨hk.1.1.1.2,⟨hk.1.1.2,hk.1.2⟩⟩)⟩,⟨by (try simp only [hl302000_71]);(with_reducible repeat (first|refine y_b ?_ _|refine y_c ?_|refine y_d ?_ _));exact BK284.out⟩,⟨by (try simp only [hl302000_71]);(with_reducible repeat (first|refine y_b ?_ _|refine y_c ?_|refine y_d ?_ _));exact BK296.out⟩,⟨by (try simp only [hl302000_71]);(with_reducible repeat (first|refine y_b ?_ _|refine y_c ?_|refine y_d ?_ _));exact BK301.out⟩,⟨by (try simp only [hl302000_71]);(with_reducible repeat (first|refine y_b ?_ _|refine y_c ?_|refine y_d ?_ _));exact BK308.out⟩,⟨by (try simp only [hl302000_71]);(with_reducible repeat (first|refine y_b ?_ _|refine y_c ?_|refine y_d ?_ _));exact BK331.out⟩,⟨by repeat (first|(with_reducible first|exact HB.out|apply y_h|apply y_i|apply y_j|refine y_n ?_ GE284.out|refine y_n ?_ GE296.out|refine y_n ?_ GE301.out|refine y_n ?_ GE308.out|refine y_n ?_ GE331.out)|exact HB.out)⟩⟩
           case rest =>
            clear HC124
            try clear c1
            try clear c2
            try clear p2
            try clear c3
            try clear c4
            try clear c5
            try clear c6
            try clear c6b0
            try clear c7
            try clear c8
            try clear c9
            try clear c10
            try clear c11
            try clear c12
            try clear c13
            try clear c14
            try clear c15
            try clear c16
            try clear c17
            try clear c19
            try clear c24
            try clear c26
            try clear c27
            try clear c30
            try clear c31
            try clear c32
            try clear c34
            try clear c36
            try clear c37
            try clear c38
            try clear c41
            try clear c42
            try clear c42b0
            try clear c42b1
            try clear c43
            try clear c44
            try clear c45
            try clear c47
            try clear c48
            try clear c51
            try clear c52
            try clear c53
            try clear c55
            try clear c56
            try clear c59
            try clear c60
            try clear c61
            try clear c63
            try clear c64
            try clear c67
            try clear c70
            try clear c77
            try clear c78
            try clear c79
            try clear c82
            try clear c82b0
            try clear c84
            try clear c85
            try clear c85b0
            try clear c85b1
            try clear c86
            try clear c87
            try clear c88
            try clear c90
            try clear c91
            try clear c94
            try clear c95
            try clear c96
            try clear c98
            try clear c99
            try clear c102
            try clear c103
            try clear c104
            try clear c106
            try clear c107
            try clear c110
            try clear c113
            try clear c113b0
            try clear c114
            try clear c115
            try clear c116
            try clear c121
            try clear c121b0
            try clear c121b1
            try clear c125
            try clear c126
            try clear c127
            try clear c132
            try clear c133
            try clear c140
            try clear c141
            try clear c142
            try clear c143
            try clear c146
            try clear c147
            try clear c147b0
            try clear c147b1
            try clear c148
            try clear c149
            try clear c150
            try clear c151
            try clear c153
            try clear c154
            try clear c155
            try clear c158
            try clear c159
            try clear c160
            try clear c161
            try clear c163
            try clear c164
            try clear c165
            try clear c168
            try clear c169
            try clear c170
            try clear c171
            try clear c173
            try clear c174
            try clear c175
            try clear hcz100_0
            try clear hcz100_1
            try clear hcz105_0
            try clear hcz105_1
            try clear hcz108_0
            try clear hcz108_1
            try clear hcz117_0
            try clear hcz117_1
            try clear hcz119_0
            try clear hcz119_1
            try clear hcz128_0
            try clear hcz128_1
            try clear hcz130_0
            try clear hcz130_1
            try clear hcz134_0
            try clear hcz134_1
            try clear hcz144_0
            try clear hcz144_1
            try clear hcz152_0
            try clear hcz152_1
            try clear hcz156_0
            try clear hcz156_1
            try clear hcz162_0
            try clear hcz162_1
            try clear hcz166_0
            try clear hcz166_1
            try clear hcz16_0
            try clear hcz16_1
            try clear hcz172_0
            try clear hcz172_1
            try clear hcz176_0
            try clear hcz176_1
            try clear hcz18_0
            try clear hcz18_1
            try clear hcz25_0
            try clear hcz25_1
            try clear hcz26_0
            try clear hcz26_1
            try clear hcz32_0
            try clear hcz32_1
            try clear hcz39_0
            try clear hcz39_1
            try clear hcz46_0
            try clear hcz46_1
            try clear hcz49_0
            try clear hcz49_1
            try clear hcz54_0
            try clear hcz54_1
            try clear hcz57_0
            try clear hcz57_1
            try clear hcz62_0
            try clear hcz62_1
            try clear hcz65_0
            try clear hcz65_1
            try clear hcz80_0
            try clear hcz80_1
            try clear hcz89_0
            try clear hcz89_1
            try clear hcz8_0
            try clear hcz8_1
            try clear hcz92_0
            try clear hcz92_1
            try clear hcz97_0
            try clear hcz97_1
            try clear hfz100_0
            try clear hfz100_1
            try clear hfz105_0
            try clear hfz105_1
            try clear hfz108_0
            try clear hfz108_1
            try clear hfz117_0
            try clear hfz117_1
            try clear hfz119_0
            try clear hfz119_1
            try clear hfz128_0
            try clear hfz128_1
            try clear hfz130_0
            try clear hfz130_1
            try clear hfz134_0
            try clear hfz134_1
            try clear hfz144_0
            try clear hfz144_1
            try clear hfz152_0
            try clear hfz152_1
            try clear hfz156_0
            try clear hfz156_1
            try clear hfz162_0
            try clear hfz162_1
            try clear hfz166_0
            try clear hfz166_1
            try clear hfz16_0
            try clear hfz16_1
            try clear hfz172_0
            try clear hfz172_1
            try clear hfz176_0
            try clear hfz176_1
            try clear hfz18_0
            try clear hfz18_1
            try clear hfz25_0
            try clear hfz25_1
            try clear hfz26_0
            try clear hfz26_1
            try clear hfz32_0
            try clear hfz32_1
            try clear hfz39_0
            try clear hfz39_1
            try clear hfz46_0
            try clear hfz46_1
            try clear hfz49_0
            try clear hfz49_1
            try clear hfz54_0
            try clear hfz54_1
            try clear hfz57_0
            try clear hfz57_1
            try clear hfz62_0
            try clear hfz62_1
            try clear hfz65_0
            try clear hfz65_1
            try clear hfz80_0
            try clear hfz80_1
            try clear hfz89_0
            try clear hfz89_1
            try clear hfz8_0
            try clear hfz8_1
            try clear hfz92_0
            try clear hfz92_1
            try clear hfz97_0
            try clear hfz97_1
            try clear p2
            obtain ⟨kq,x123_123,rfl,HA,HJ123,HO_297000,HO_302000,HO_309000,HO_332000,BK284,BK296,BK301,BK308,BK331,HB⟩:=hcut
            have hl309000_123 := (Kd.R_reads' HO_309000.out).1
            rw [hl309000_123] at HO_309000
            (try simp only [hl309000_123])
            (try simp only [hl309000_123] at BK284)
            (try simp only [hl309000_123] at BK296)
            (try simp only [hl309000_123] at BK301)
            (try simp only [hl309000_123] at BK308)
            (try simp only [hl309000_123] at BK331)
            (try simp only [hl309000_123] at HO_297000)
            (try simp only [hl309000_123] at HO_302000)
            (try simp only [hl309000_123] at HO_332000)
            cases kq with
            | zero => exact absurd HA.out (by simp [laws_FnExactPoolTake.j2])
            | succ kj123 =>
             have H := HA.out
             clear HA
             simp only [laws_FnExactPoolTake.j2] at H
             by_cases c178 : x123_123 = true
             ·subst c178
              have H1 : (some false) = some r:=by rw [if_pos rfl] at H;exact H
              clear H
              have H := H1
              clear H1
              obtain rfl := Option.some.inj H
              go_wp2
              go_ret
              exact ⟨by first|rfl|(simp [errW_none,errW_some] <;> rfl)|(simp [*,errW_none,errW_some] <;> rfl),by repeat (first|(with_reducible first|exact HB.out|apply y_h|apply y_i|apply y_j|refine y_n ?_ GE284.out|refine y_n ?_ GE296.out|refine y_n ?_ GE301.out|refine y_n ?_ GE308.out|refine y_n ?_ GE331.out)|exact HB.out)⟩
             ·replace c178 := Bool.eq_false_iff.mpr c178
              subst c178
              have H1 : ((laws_heldPool.f kj123 t319 t305 1).bind fun t333 => (if t333 < 0 then (some false) else (if t333 = t318 then (some true) else (some false)))) = some r:=by rw [if_neg (show ¬ (false = true) by decide)] at H;exact H
              clear H
              have H := H1
              clear H1
              replace H := Option.bind_eq_some_iff.mp H
              obtain ⟨t333, A1790, H⟩ := H
              replace H : (if t333 < 0 then (some false) else (if t333 = t318 then (some true) else (some false))) = some r:=H
              have A179 := Aside0.mk A1790
              clear A1790
              by_cases c180 : t333 < 0
              ·rw [if_pos c180] at H
               have c180b0 : decide (t333 < 0) = true:=decide_eq_true c180
               clear c180
               obtain rfl := Option.some.inj H
               have hnb181 := NB308_284.out
               have hnc181 := NB284_308.out
               have hnb182 := NB308_296.out
               have hnc182 := NB296_308.out
               have hnb183 := NB308_301.out
               have hnc183 := NB301_308.out
               have hnb184 := NB308_331.out
               have hnc184 := NB331_308.out
               have hcz185_0 : wc.cell? ⟨gb308,0,none⟩ = some (.slice Ao35 t319.length co35):=(blk_cell BK308.out 0).trans rfl
               have hcz185_1 : wc.cell? ⟨gb308,1,none⟩ = some (.int .i64 t305):=(blk_cell BK308.out 1).trans rfl
               have hfz185_0 := blk_frozen BK308.out 0
               have hfz185_1 := blk_frozen BK308.out 1
               go_wp2_with (first|((with_reducible refine gate_callee (f:=27) rfl ?_);refine goesL_ (some 126) rfl rfl Try.func27 (by kernel_rfl) rfl #[.agg #[.slice Ao35 t319.length co35,.int .i64 t305],.int .i64 1] rfl (by (try simp only [List.map_toArray,List.map_cons,List.map_nil]);first|done|rfl|(simp only [List.length_drop,List.length_take];rfl)) ?_;(with_reducible refine (laws_heldPool.calls kj123 _ _ t319 t305 1 t333 _ ?side1 ?side2 A179.out).mono ?_);(case side1 => repeat (first|exact (Kd.R_reads' HO_309000.out).2.2|(with_reducible refine y_k ?_ _)|(with_reducible refine y_l ?_ _)|(with_reducible refine y_m ?_)));(case side2 => exact (Kd.R_reads' HO_309000.out).2.1);rintro e w186 ⟨rfl,hb⟩;refine ⟨_,rfl,?_⟩;have n0_:=Aside0.mk (Kd.R_below (by (with_reducible repeat (first|apply y_e|apply y_f|apply y_g));exact HO_297000.out) hb);have n1_:=Aside0.mk (Kd.R_below (by (with_reducible repeat (first|apply y_e|apply y_f|apply y_g));exact HO_302000.out) hb);have n2_:=Aside0.mk (Kd.R_below (by (with_reducible repeat (first|apply y_e|apply y_f|apply y_g));exact HO_309000.out) hb);have n3_:=Aside0.mk (Kd.R_below (by (with_reducible repeat (first|apply y_e|apply y_f|apply y_g));exact HO_332000.out) hb);have n4_:=Aside0.mk (blk_below (g:=gb284) (o:=.cells #[.slice A0_0 l0_0.length c0_0,.int .i64 a0_1] 24 (0,0)) (by (with_reducible repeat (first|refine y_b ?_ _|refine y_c ?_|refine y_d ?_ _));exact BK284.out) hb);have n5_:=Aside0.mk (blk_below (g:=gb296) (o:=.cells #[.slice Ao23 t290.length co23,.int .i64 t293] 29 (0,0)) (by (with_reducible repeat (first|refine y_b ?_ _|refine y_c ?_|refine y_d ?_ _));exact BK296.out) hb);have n6_:=Aside0.mk (blk_below (g:=gb301) (o:=.cells #[.slice Ao29 t316.length co29,.int .i64 t300] 29 (0,0)) (by (with_reducible repeat (first|refine y_b ?_ _|refine y_c ?_|refine y_d ?_ _));exact BK301.out) hb);have n7_:=Aside0.mk (blk_below (g:=gb308) (o:=.cells #[.slice Ao35 t319.length co35,.int .i64 t305] 29 (0,0)) (by (with_reducible repeat (first|refine y_b ?_ _|refine y_c ?_|refine y_d ?_ _));exact BK308.out) hb);have n8_:=Aside0.mk (blk_below (g:=gb331) (o:=.cells #[.slice Ao139 t325.length co139,.int .i64 t328] 29 (0,0)) (by (with_reducible repeat (first|refine y_b ?_ _|refine y_c ?_|refine y_d ?_ _));exact BK331.out) hb);have n9_:=Aside0.mk (below_step (by repeat (first|(with_reducible first|exact HB.out|apply y_h|apply y_i|apply y_j|refine y_n ?_ GE284.out|refine y_n ?_ GE296.out|refine y_n ?_ GE301.out|refine y_n ?_ GE308.out|refine y_n ?_ GE331.out)|exact HB.out)) hb);clear HO_297000 HO_302000 HO_309000 HO_332000 BK284 BK296 BK301 BK308 BK331 HB;have HO_297000:=n0_;have HO_302000:=n1_;have HO_309000:=n2_;have HO_332000:=n3_;have BK284:=n4_;have BK296:=n5_;have BK301:=n6_;have BK308:=n7_;have BK331:=n8_;have HB:=n9_;clear n0_ n1_ n2_ n3_ n4_ n5_ n6_ n7_ n8_ n9_;(try clear hb);(try clear hb2);(try clear hk);(try clear hi)))
               go_ret
               exact ⟨by first|rfl|(simp [errW_none,errW_some] <;> rfl)|(simp [*,errW_none,errW_some] <;> rfl),by repeat (first|(with_reducible first|exact HB.out|apply y_h|apply y_i|apply y_j|refine y_n ?_ GE284.out|refine y_n ?_ GE296.out|refine y_n ?_ GE301.out|refine y_n ?_ GE308.out|refine y_n ?_ GE331.out)|exact HB.out)⟩
              ·rw [if_neg c180] at H
               have c180b0 : decide (t333 < 0) = false:=decide_eq_false c180
               clear c180
               by_cases c187 : t333 = t318
               ·rw [if_pos c187] at H
                have c187b0 : (t333 == t318) = true := beq_iff_eq.mpr c187
                have c187b1 : (t333 != t318) = false:=bne_eq_false_iff_eq.mpr c187
                clear c187
                obtain rfl := Option.some.inj H
                have hnb188 := NB308_284.out
                have hnc188 := NB284_308.out
                have hnb189 := NB308_296.out
                have hnc189 := NB296_308.out
                have hnb190 := NB308_301.out
                have hnc190 := NB301_308.out
                have hnb191 := NB308_331.out
                have hnc191 := NB331_308.out
                have hcz192_0 : wc.cell? ⟨gb308,0,none⟩ = some (.slice Ao35 t319.length co35):=(blk_cell BK308.out 0).trans rfl
                have hcz192_1 : wc.cell? ⟨gb308,1,none⟩ = some (.int .i64 t305):=(blk_cell BK308.out 1).trans rfl
                have hfz192_0 := blk_frozen BK308.out 0
                have hfz192_1 := blk_frozen BK308.out 1
                go_wp2_with (first|((with_reducible refine gate_callee (f:=27) rfl ?_);refine goesL_ (some 126) rfl rfl Try.func27 (by kernel_rfl) rfl #[.agg #[.slice Ao35 t319.length co35,.int .i64 t305],.int .i64 1] rfl (by (try simp only [List.map_toArray,List.map_cons,List.map_nil]);first|done|rfl|(simp only [List.length_drop,List.length_take];rfl)) ?_;(with_reducible refine (laws_heldPool.calls kj123 _ _ t319 t305 1 t333 _ ?side1 ?side2 A179.out).mono ?_);(case side1 => repeat (first|exact (Kd.R_reads' HO_309000.out).2.2|(with_reducible refine y_k ?_ _)|(with_reducible refine y_l ?_ _)|(with_reducible refine y_m ?_)));(case side2 => exact (Kd.R_reads' HO_309000.out).2.1);rintro e w193 ⟨rfl,hb⟩;refine ⟨_,rfl,?_⟩;have n0_:=Aside0.mk (Kd.R_below (by (with_reducible repeat (first|apply y_e|apply y_f|apply y_g));exact HO_297000.out) hb);have n1_:=Aside0.mk (Kd.R_below (by (with_reducible repeat (first|apply y_e|apply y_f|apply y_g));exact HO_302000.out) hb);have n2_:=Aside0.mk (Kd.R_below (by (with_reducible repeat (first|apply y_e|apply y_f|apply y_g));exact HO_309000.out) hb);have n3_:=Aside0.mk (Kd.R_below (by (with_reducible repeat (first|apply y_e|apply y_f|apply y_g));exact HO_332000.out) hb);have n4_:=Aside0.mk (blk_below (g:=gb284) (o:=.cells #[.slice A0_0 l0_0.length c0_0,.int .i64 a0_1] 24 (0,0)) (by (with_reducible repeat (first|refine y_b ?_ _|refine y_c ?_|refine y_d ?_ _));exact BK284.out) hb);have n5_:=Aside0.mk (blk_below (g:=gb296) (o:=.cells #[.slice Ao23 t290.length co23,.int .i64 t293] 29 (0,0)) (by (with_reducible repeat (first|refine y_b ?_ _|refine y_c ?_|refine y_d ?_ _));exact BK296.out) hb);have n6_:=Aside0.mk (blk_below (g:=gb301) (o:=.cells #[.slice Ao29 t316.length co29,.int .i64 t300] 29 (0,0)) (by (with_reducible repeat (first|refine y_b ?_ _|refine y_c ?_|refine y_d ?_ _));exact BK301.out) hb);have n7_:=Aside0.mk (blk_below (g:=gb308) (o:=.cells #[.slice Ao35 t319.length co35,.int .i64 t305] 29 (0,0)) (by (with_reducible repeat (first|refine y_b ?_ _|refine y_c ?_|refine y_d ?_ _));exact BK308.out) hb);have n8_:=Aside0.mk (blk_below (g:=gb331) (o:=.cells #[.slice Ao139 t325.length co139,.int .i64 t328] 29 (0,0)) (by (with_reducible repeat (first|refine y_b ?_ _|refine y_c ?_|refine y_d ?_ _));exact BK331.out) hb);have n9_:=Aside0.mk (below_step (by repeat (first|(with_reducible first|exact HB.out|apply y_h|apply y_i|apply y_j|refine y_n ?_ GE284.out|refine y_n ?_ GE296.out|refine y_n ?_ GE301.out|refine y_n ?_ GE308.out|refine y_n ?_ GE331.out)|exact HB.out)) hb);clear HO_297000 HO_302000 HO_309000 HO_332000 BK284 BK296 BK301 BK308 BK331 HB;have HO_297000:=n0_;have HO_302000:=n1_;have HO_309000:=n2_;have HO_332000:=n3_;have BK284:=n4_;have BK296:=n5_;have BK301:=n6_;have BK308:=n7_;have BK331:=n8_;have HB:=n9_;clear n0_ n1_ n2_ n3_ n4_ n5_ n6_ n7_ n8_ n9_;(try clear hb);(try clear hb2);(try clear hk);(try clear hi)))
                go_ret
                exact ⟨by first|rfl|(simp [errW_none,errW_some] <;> rfl)|(simp [*,errW_none,errW_some] <;> rfl),by repeat (first|(with_reducible first|exact HB.out|apply y_h|apply y_i|apply y_j|refine y_n ?_ GE284.out|refine y_n ?_ GE296.out|refine y_n ?_ GE301.out|refine y_n ?_ GE308.out|refine y_n ?_ GE331.out)|exact HB.out)⟩
               ·rw [if_neg c187] at H
                have c187b0 : (t333 == t318) = false:=beq_eq_false_iff_ne.mpr c187
                have c187b1 : (t333 != t318) = true := bne_iff_ne.mpr c187
                obtain rfl := Option.some.inj H
                have hnb194 := NB308_284.out
                have hnc194 := NB284_308.out
                have hnb195 := NB308_296.out
                have hnc195 := NB296_308.out
                have hnb196 := NB308_301.out
                have hnc196 := NB301_308.out
                have hnb197 := NB308_331.out
                have hnc197 := NB331_308.out
                have hcz198_0 : wc.cell? ⟨gb308,0,none⟩ = some (.slice Ao35 t319.length co35):=(blk_cell BK308.out 0).trans rfl
                have hcz198_1 : wc.cell? ⟨gb308,1,none⟩ = some (.int .i64 t305):=(blk_cell BK308.out 1).trans rfl
                have hfz198_0 := blk_frozen BK308.out 0
                have hfz198_1 := blk_frozen BK308.out 1
                go_wp2_with (first|((with_reducible refine gate_callee (f:=27) rfl ?_);refine goesL_ (some 126) rfl rfl Try.func27 (by kernel_rfl) rfl #[.agg #[.slice Ao35 t319.length co35,.int .i64 t305],.int .i64 1] rfl (by (try simp only [List.map_toArray,List.map_cons,List.map_nil]);first|done|rfl|(simp only [List.length_drop,List.length_take];rfl)) ?_;(with_reducible refine (laws_heldPool.calls kj123 _ _ t319 t305 1 t333 _ ?side1 ?side2 A179.out).mono ?_);(case side1 => repeat (first|exact (Kd.R_reads' HO_309000.out).2.2|(with_reducible refine y_k ?_ _)|(with_reducible refine y_l ?_ _)|(with_reducible refine y_m ?_)));(case side2 => exact (Kd.R_reads' HO_309000.out).2.1);rintro e w199 ⟨rfl,hb⟩;refine ⟨_,rfl,?_⟩;have n0_:=Aside0.mk (Kd.R_below (by (with_reducible repeat (first|apply y_e|apply y_f|apply y_g));exact HO_297000.out) hb);have n1_:=Aside0.mk (Kd.R_below (by (with_reducible repeat (first|apply y_e|apply y_f|apply y_g));exact HO_302000.out) hb);have n2_:=Aside0.mk (Kd.R_below (by (with_reducible repeat (first|apply y_e|apply y_f|apply y_g));exact HO_309000.out) hb);have n3_:=Aside0.mk (Kd.R_below (by (with_reducible repeat (first|apply y_e|apply y_f|apply y_g));exact HO_332000.out) hb);have n4_:=Aside0.mk (blk_below (g:=gb284) (o:=.cells #[.slice A0_0 l0_0.length c0_0,.int .i64 a0_1] 24 (0,0)) (by (with_reducible repeat (first|refine y_b ?_ _|refine y_c ?_|refine y_d ?_ _));exact BK284.out) hb);have n5_:=Aside0.mk (blk_below (g:=gb296) (o:=.cells #[.slice Ao23 t290.length co23,.int .i64 t293] 29 (0,0)) (by (with_reducible repeat (first|refine y_b ?_ _|refine y_c ?_|refine y_d ?_ _));exact BK296.out) hb);have n6_:=Aside0.mk (blk_below (g:=gb301) (o:=.cells #[.slice Ao29 t316.length co29,.int .i64 t300] 29 (0,0)) (by (with_reducible repeat (first|refine y_b ?_ _|refine y_c ?_|refine y_d ?_ _));exact BK301.out) hb);have n7_:=Aside0.mk (blk_below (g:=gb308) (o:=.cells #[.slice Ao35 t319.length co35,.int .i64 t305] 29 (0,0)) (by (with_reducible repeat (first|refine y_b ?_ _|refine y_c ?_|refine y_d ?_ _));exact BK308.out) hb);have n8_:=Aside0.mk (blk_below (g:=gb331) (o:=.cells #[.slice Ao139 t325.length co139,.int .i64 t328] 29 (0,0)) (by (with_reducible repeat (first|refine y_b ?_ _|refine y_c ?_|refine y_d ?_ _));exact BK331.out) hb);have n9_:=Aside0.mk (below_step (by repeat (first|(with_reducible first|exact HB.out|apply y_h|apply y_i|apply y_j|refine y_n ?_ GE284.out|refine y_n ?_ GE296.out|refine y_n ?_ GE301.out|refine y_n ?_ GE308.out|refine y_n ?_ GE331.out)|exact HB.out)) hb);clear HO_297000 HO_302000 HO_309000 HO_332000 BK284 BK296 BK301 BK308 BK331 HB;have HO_297000:=n0_;have HO_302000:=n1_;have HO_309000:=n2_;have HO_332000:=n3_;have BK284:=n4_;have BK296:=n5_;have BK301:=n6_;have BK308:=n7_;have BK331:=n8_;have HB:=n9_;clear n0_ n1_ n2_ n3_ n4_ n5_ n6_ n7_ n8_ n9_;(try clear hb);(try clear hb2);(try clear hk);(try clear hi)))
                go_ret
                exact ⟨by first|rfl|(simp [errW_none,errW_some] <;> rfl)|(simp [*,errW_none,errW_some] <;> rfl),by repeat (first|(with_reducible first|exact HB.out|apply y_h|apply y_i|apply y_j|refine y_n ?_ GE284.out|refine y_n ?_ GE296.out|refine y_n ?_ GE301.out|refine y_n ?_ GE308.out|refine y_n ?_ GE331.out)|exact HB.out)⟩
          ·rw [if_neg c121] at H
           have c121b0 : (t320 == t318) = false:=beq_eq_false_iff_ne.mpr c121
           have c121b1 : (t320 != t318) = true := bne_iff_ne.mpr c121
           obtain rfl := Option.some.inj H
           have hnb200 := NB308_284.out
           have hnc200 := NB284_308.out
           have hnb201 := NB308_296.out
           have hnc201 := NB296_308.out
           have hnb202 := NB308_301.out
           have hnc202 := NB301_308.out
           have hcz203_0 : wc.cell? ⟨gb308,0,none⟩ = some (.slice Ao35 t302.length co35):=(blk_cell BK308.out 0).trans rfl
           have hcz203_1 : wc.cell? ⟨gb308,1,none⟩ = some (.int .i64 t305):=(blk_cell BK308.out 1).trans rfl
           have hfz203_0 := blk_frozen BK308.out 0
           have hfz203_1 := blk_frozen BK308.out 1
           go_wp2_with (first|((with_reducible refine gate_callee (f:=26) rfl ?_);refine goesL_ (some 91) rfl rfl Try.func26 (by kernel_rfl) rfl #[.agg #[.slice Ao35 t302.length co35,.int .i64 t305],.int .i64 1] rfl (by (try simp only [List.map_toArray,List.map_cons,List.map_nil]);first|done|rfl|(simp only [List.length_drop,List.length_take];rfl)) ?_;(with_reducible refine (laws_markPool.calls kj71 (fun k_ => some k_ = (.slice Ao35 t302.length co35 : Value).ownBlock) (.slice Ao35 t302.length co35) t302 t305 1 t318 t319 w _ ?side1 ?side2 A111.out).mono ?_);(case side1 => repeat (first|(with_reducible first|exact HB.out|apply y_h|apply y_i|apply y_j|refine y_n ?_ GE284.out|refine y_n ?_ GE296.out|refine y_n ?_ GE301.out|refine y_n ?_ GE308.out)|exact HB.out));(case side2 => exact Kd.R_tight rfl HO_309000.out);rintro e w204 ⟨rfl,hy0,hb,hkp⟩;refine ⟨_,rfl,?_⟩;have n0_:=Aside0.mk (y_o (ok':=fun k_ => some k_ ≠ (.slice Ao29 t316.length co29 : Value).ownBlock ∧ some k_ ≠ (.slice Ao35 t302.length co35 : Value).ownBlock) (Kd.R_keptB (HO_297000.out) hkp (fun k_ hk_ hs_ => (hk_.2) hs_)) (fun k_ hk_ => ⟨hk_.1.1,hk_.1.2⟩));have n1_:=Aside0.mk (y_o (ok':=fun k_ => some k_ ≠ (.slice Ao23 t290.length co23 : Value).ownBlock ∧ some k_ ≠ (.slice Ao35 t302.length co35 : Value).ownBlock) (Kd.R_keptB (HO_302000.out) hkp (fun k_ hk_ hs_ => (hk_.2) hs_)) (fun k_ hk_ => ⟨hk_.1.1,hk_.1.2⟩));have n2_:=Aside0.mk (Kd.R_reok rfl hy0 (fun k_ e_ => HO_309000.out.1 k_ e_));have n3_:=Aside0.mk (blk_kept (by (with_reducible repeat (first|refine y_b ?_ _|refine y_c ?_|refine y_d ?_ _));exact BK284.out) hkp (fun hs_ => (fun e_ => (Kd.R_ne HO_309000.out BK284.out (by decide)) e_) hs_));have n4_:=Aside0.mk (blk_kept (by (with_reducible repeat (first|refine y_b ?_ _|refine y_c ?_|refine y_d ?_ _));exact BK296.out) hkp (fun hs_ => (fun e_ => (Kd.R_ne HO_309000.out BK296.out (by decide)) e_) hs_));have n5_:=Aside0.mk (blk_kept (by (with_reducible repeat (first|refine y_b ?_ _|refine y_c ?_|refine y_d ?_ _));exact BK301.out) hkp (fun hs_ => (fun e_ => (Kd.R_ne HO_309000.out BK301.out (by decide)) e_) hs_));have n6_:=Aside0.mk (blk_kept (by (with_reducible repeat (first|refine y_b ?_ _|refine y_c ?_|refine y_d ?_ _));exact BK308.out) hkp (fun hs_ => (fun e_ => (Kd.R_ne HO_309000.out BK308.out (by decide)) e_) hs_));have n7_:=Aside0.mk (hb);clear HO_297000 HO_302000 HO_309000 BK284 BK296 BK301 BK308 HB;have HO_297000:=n0_;have HO_302000:=n1_;have HO_309000:=n2_;have BK284:=n3_;have BK296:=n4_;have BK301:=n5_;have BK308:=n6_;have HB:=n7_;clear n0_ n1_ n2_ n3_ n4_ n5_ n6_ n7_;(try clear hb);(try clear hkp);(try clear hy0);have hcz205_0 : w204.cell? ⟨gb308,0,none⟩ = some (.slice Ao35 t302.length co35):=(blk_cell BK308.out 0).trans rfl;have hcz205_1 : w204.cell? ⟨gb308,1,none⟩ = some (.int .i64 t305):=(blk_cell BK308.out 1).trans rfl;have hfz205_0:=blk_frozen BK308.out 0;have hfz205_1:=blk_frozen BK308.out 1)|((with_reducible refine gate_callee (f:=27) rfl ?_);refine goesL_ (some 94) rfl rfl Try.func27 (by kernel_rfl) rfl #[.agg #[.slice Ao35 t319.length co35,.int .i64 t305],.int .i64 1] rfl (by (try simp only [List.map_toArray,List.map_cons,List.map_nil]);first|done|(rw [show t319.length = t302.length from (Kd.R_reads' HO_309000.out).1.symm] <;> rfl)|rfl|(simp only [List.length_drop,List.length_take];rfl)) ?_;(with_reducible refine (laws_heldPool.calls kj71 _ _ t319 t305 1 t320 _ ?side1 ?side2 A112.out).mono ?_);(case side1 => repeat (first|exact (Kd.R_reads' HO_309000.out).2.2|(with_reducible refine y_k ?_ _)|(with_reducible refine y_l ?_ _)|(with_reducible refine y_m ?_)));(case side2 => rw [show t319.length = t302.length from (Kd.R_reads' HO_309000.out).1.symm];exact (Kd.R_reads' HO_309000.out).2.1);rintro e w206 ⟨rfl,hb⟩;refine ⟨_,rfl,?_⟩;have n0_:=Aside0.mk (Kd.R_below (by (with_reducible repeat (first|apply y_e|apply y_f|apply y_g));exact HO_297000.out) hb);have n1_:=Aside0.mk (Kd.R_below (by (with_reducible repeat (first|apply y_e|apply y_f|apply y_g));exact HO_302000.out) hb);have n2_:=Aside0.mk (Kd.R_below (by (with_reducible repeat (first|apply y_e|apply y_f|apply y_g));exact HO_309000.out) hb);have n3_:=Aside0.mk (blk_below (g:=gb284) (o:=.cells #[.slice A0_0 l0_0.length c0_0,.int .i64 a0_1] 24 (0,0)) (by (with_reducible repeat (first|refine y_b ?_ _|refine y_c ?_|refine y_d ?_ _));exact BK284.out) hb);have n4_:=Aside0.mk (blk_below (g:=gb296) (o:=.cells #[.slice Ao23 t290.length co23,.int .i64 t293] 29 (0,0)) (by (with_reducible repeat (first|refine y_b ?_ _|refine y_c ?_|refine y_d ?_ _));exact BK296.out) hb);have n5_:=Aside0.mk (blk_below (g:=gb301) (o:=.cells #[.slice Ao29 t316.length co29,.int .i64 t300] 29 (0,0)) (by (with_reducible repeat (first|refine y_b ?_ _|refine y_c ?_|refine y_d ?_ _));exact BK301.out) hb);have n6_:=Aside0.mk (blk_below (g:=gb308) (o:=.cells #[.slice Ao35 t302.length co35,.int .i64 t305] 29 (0,0)) (by (with_reducible repeat (first|refine y_b ?_ _|refine y_c ?_|refine y_d ?_ _));exact BK308.out) hb);have n7_:=Aside0.mk (below_step (by repeat (first|(with_reducible first|exact HB.out|apply y_h|apply y_i|apply y_j|refine y_n ?_ GE284.out|refine y_n ?_ GE296.out|refine y_n ?_ GE301.out|refine y_n ?_ GE308.out)|exact HB.out)) hb);clear HO_297000 HO_302000 HO_309000 BK284 BK296 BK301 BK308 HB;have HO_297000:=n0_;have HO_302000:=n1_;have HO_309000:=n2_;have BK284:=n3_;have BK296:=n4_;have BK301:=n5_;have BK308:=n6_;have HB:=n7_;clear n0_ n1_ n2_ n3_ n4_ n5_ n6_ n7_;(try clear hb);(try clear hb2);(try clear hk);(try clear hi)))
           go_ret
           exact ⟨by first|rfl|(simp [errW_none,errW_some] <;> rfl)|(simp [*,errW_none,errW_some] <;> rfl),by repeat (first|(with_reducible first|exact HB.out|apply y_h|apply y_i|apply y_j|refine y_n ?_ GE284.out|refine y_n ?_ GE296.out|refine y_n ?_ GE301.out|refine y_n ?_ GE308.out)|exact HB.out)⟩
     ·replace c70 := Bool.eq_false_iff.mpr c70
      subst c70
      have H1 : (some false) = some r:=by rw [if_neg (show ¬ (false = true) by decide)] at H;exact H
      clear H
      have H := H1
      clear H1
      obtain rfl := Option.some.inj H
      try go_wp2
      have n0_ := Aside0.mk (y_g HO_297000.out)
      have n1_ := Aside0.mk (y_g HO_302000.out)
      have n2_ := Aside0.mk (y_g HO_309000.out)
      have n3_ := Aside0.mk (y_c BK284.out)
      have n4_ := Aside0.mk (y_c BK296.out)
      have n5_ := Aside0.mk (y_c BK301.out)
      have n6_ := Aside0.mk (y_c BK308.out)
      have n7_ := Aside0.mk (y_j HB.out)
      clear HO_297000
      clear HO_302000
      clear HO_309000
      clear BK284
      clear BK296
      clear BK301
      clear BK308
      clear HB
      have HO_297000 := n0_
      have HO_302000 := n1_
      have HO_309000 := n2_
      have BK284 := n3_
      have BK296 := n4_
      have BK301 := n5_
      have BK308 := n6_
      have HB := n7_
      clear n0_ n1_ n2_ n3_ n4_ n5_ n6_ n7_
      refine start_ (n:=5) (S:=fun w' => w'.cell? ⟨gb301,0,none⟩ = some (.slice Ao29 t297.length co29) ∧ w'.cell? ⟨gb301,1,none⟩ = some (.int .i64 t300) ∧ w'.cell? ⟨gb284,0,none⟩ = some (.slice A0_0 l0_0.length c0_0) ∧ w'.cell? ⟨gb284,1,none⟩ = some (.int .i64 a0_1)) (ds:=[]) #[false,false,false,false,false] (by kernel_rfl) rfl rfl ⟨(blk_cell BK301.out 0).trans rfl,(blk_cell BK301.out 1).trans rfl,(blk_cell BK284.out 0).trans rfl,(blk_cell BK284.out 1).trans rfl⟩ (fun hHeld => ?_)
      generalize wc.drew = w207 at HO_297000 HO_302000 HO_309000 BK284 BK296 BK301 BK308 HB hHeld ⊢
      refine take_ (i:=0) (N:=some 63) (v:=?_) (a':=?_) #[true,false,false,false,false] rfl rfl (by kernel_rfl) (fun _ _ _ h => h) (Or.inl ⟨by rfl,?_⟩) hHeld ?_ ?_
      rotate_left
      ·rintro w' ⟨s0, s1, s2, s3⟩
       go_simp
       with_reducible rfl
      rotate_left
      ·simp only [Act.put,List.setIfInBounds_toArray,List.set_cons_zero,List.set_cons_succ,i64_w,i32_w]
       rfl
      refine take_ (i:=1) (N:=some 64) (v:=?_) (a':=?_) #[true,true,false,false,false] rfl rfl (by kernel_rfl) (fun _ _ _ h => h) (Or.inl ⟨by rfl,?_⟩) hHeld ?_ ?_
      rotate_left
      ·rintro w' ⟨s0, s1, s2, s3⟩
       go_simp
       with_reducible rfl
      rotate_left
      ·simp only [Act.put,List.setIfInBounds_toArray,List.set_cons_zero,List.set_cons_succ,i64_w,i32_w]
       rfl
      refine one_ (i:=2) (N:=some 65) #[true,true,true,false,false] rfl rfl (by kernel_rfl) (by decide) (fun K hK => ?_)
      refine goes_ Try.func17 (by kernel_rfl) rfl #[.agg #[.slice A0_0 l0_0.length c0_0,.int .i64 a0_1]] (by rfl) rfl rfl (by (try simp only [List.map_toArray,List.map_cons,List.map_nil]);first|done|rfl|(simp only [List.length_drop,List.length_take];rfl)) ?_
      with_reducible refine (laws_toPool.calls kj13 _ _ l0_0 a0_1 t310 t313 _ ?side1 ?side2 A68.out).mono ?_
      (case side1 => repeat (first|exact (Kd.C_below HR0_0.out HB.out)|(with_reducible refine y_k ?_ _)|(with_reducible refine y_l ?_ _)|(with_reducible refine y_m ?_)))
      (case side2 => exact HC0_0.out)
      rintro e w208 ⟨v311, rfl, ho0, hb⟩
      refine ⟨_, rfl, ?_⟩
      have n0_:=Aside0.mk (Kd.R_elder' (by (with_reducible repeat (first|apply y_e|apply y_f|apply y_g));exact HO_297000.out) (Kd.R_base ho0) hb)
      have n1_:=Aside0.mk (Kd.R_elder' (by (with_reducible repeat (first|apply y_e|apply y_f|apply y_g));exact HO_302000.out) (Kd.R_base ho0) hb)
      have n2_:=Aside0.mk (Kd.R_elder' (by (with_reducible repeat (first|apply y_e|apply y_f|apply y_g));exact HO_309000.out) (Kd.R_base ho0) hb)
      have n3_:=Aside0.mk (Kd.R_lower (Kd.R_new' (Kd.R_new' (Kd.R_new' ho0 (Kd.R_lt (by (with_reducible repeat (first|apply y_e|apply y_f|apply y_g));exact HO_297000.out))) (Kd.R_lt (by (with_reducible repeat (first|apply y_e|apply y_f|apply y_g));exact HO_302000.out))) (Kd.R_lt (by (with_reducible repeat (first|apply y_e|apply y_f|apply y_g));exact HO_309000.out))) (below_size (by repeat (first|(with_reducible first|exact HB.out|apply y_h|apply y_i|apply y_j|refine y_n ?_ GE284.out|refine y_n ?_ GE296.out|refine y_n ?_ GE301.out|refine y_n ?_ GE308.out)|exact HB.out))))
      have n4_:=Aside0.mk (blk_below (g:=gb284) (o:=.cells #[.slice A0_0 l0_0.length c0_0,.int .i64 a0_1] 24 (0,0)) (by (with_reducible repeat (first|refine y_b ?_ _|refine y_c ?_|refine y_d ?_ _));exact BK284.out) hb)
      have n5_:=Aside0.mk (blk_below (g:=gb296) (o:=.cells #[.slice Ao23 t290.length co23,.int .i64 t293] 29 (0,0)) (by (with_reducible repeat (first|refine y_b ?_ _|refine y_c ?_|refine y_d ?_ _));exact BK296.out) hb)
      have n6_:=Aside0.mk (blk_below (g:=gb301) (o:=.cells #[.slice Ao29 t297.length co29,.int .i64 t300] 29 (0,0)) (by (with_reducible repeat (first|refine y_b ?_ _|refine y_c ?_|refine y_d ?_ _));exact BK301.out) hb)
      have n7_:=Aside0.mk (blk_below (g:=gb308) (o:=.cells #[.slice Ao35 t302.length co35,.int .i64 t305] 29 (0,0)) (by (with_reducible repeat (first|refine y_b ?_ _|refine y_c ?_|refine y_d ?_ _));exact BK308.out) hb)
      have n8_:=Aside0.mk (below_step (by repeat (first|(with_reducible first|exact HB.out|apply y_h|apply y_i|apply y_j|refine y_n ?_ GE284.out|refine y_n ?_ GE296.out|refine y_n ?_ GE301.out|refine y_n ?_ GE308.out)|exact HB.out)) hb)
      clear HO_297000
      clear HO_302000
      clear HO_309000
      clear BK284
      clear BK296
      clear BK301
      clear BK308
      clear HB
      have HO_297000 := n0_
      have HO_302000 := n1_
      have HO_309000 := n2_
      have HO312 := n3_
      have BK284 := n4_
      have BK296 := n5_
      have BK301 := n6_
      have BK308 := n7_
      have HB := n8_
      clear n0_ n1_ n2_ n3_ n4_ n5_ n6_ n7_ n8_
      (try clear hb)
      (try clear hb2)
      (try clear hk)
      (try clear hi)
      (try clear ho0)
      obtain ⟨Ao209, co209, eo209⟩ := Kd.R_slice HO312.out
      (first|subst eo209|(injection eo209 with f1_ f2_ f3_;have f4_:=f1_.symm;have f5_:=f3_.symm;clear f1_ f2_ f3_;subst f4_;subst f5_))
      refine hK.out _ _ ⟨(blk_cell BK301.out 0).trans rfl,(blk_cell BK301.out 1).trans rfl,(blk_cell BK284.out 0).trans rfl,(blk_cell BK284.out 1).trans rfl⟩ (fun hHeld => ?_)
      clear hK K
      refine norm_ (a' := ?_) ?_ ?_
      rotate_left
      ·show Act.put _ (some 65) _ = _
       simp only [Act.put,List.setIfInBounds_toArray,List.set_cons_zero,List.set_cons_succ,i64_w,i32_w]
       rfl
      refine one_ (i:=3) (N:=some 66) #[true,true,true,true,false] rfl rfl (by kernel_rfl) (by decide) (fun K hK => ?_)
      refine goes_ Try.func19 (by kernel_rfl) rfl #[.agg #[.slice Ao29 t297.length co29,.int .i64 t300],.agg #[.slice Ao209 t310.length co209,.int .i64 t313]] (by rfl) rfl rfl (by (try simp only [List.map_toArray,List.map_cons,List.map_nil]);first|done|rfl|(simp only [List.length_drop,List.length_take];rfl)) ?_
      with_reducible refine (laws_eqPool.calls kj13 _ _ t297 t300 _ _ t310 t313 false _ ?side1 ?side2 ?side3 ?side4 A69.out).mono ?_
      (case side1 => repeat (first|exact (Kd.R_reads' HO_302000.out).2.2|(with_reducible refine y_k ?_ _)|(with_reducible refine y_l ?_ _)|(with_reducible refine y_m ?_)))
      (case side2 => exact (Kd.R_reads' HO_302000.out).2.1)
      (case side3 => repeat (first|exact (Kd.R_reads' HO312.out).2.2|(with_reducible refine y_k ?_ _)|(with_reducible refine y_l ?_ _)|(with_reducible refine y_m ?_)))
      (case side4 => exact (Kd.R_reads' HO312.out).2.1)
      rintro e w210 ⟨rfl, hb⟩
      refine ⟨_, rfl, ?_⟩
      have n0_:=Aside0.mk (Kd.R_below (by (with_reducible repeat (first|apply y_e|apply y_f|apply y_g));exact HO_297000.out) hb)
      have n1_:=Aside0.mk (Kd.R_below (by (with_reducible repeat (first|apply y_e|apply y_f|apply y_g));exact HO_302000.out) hb)
      have n2_:=Aside0.mk (Kd.R_below (by (with_reducible repeat (first|apply y_e|apply y_f|apply y_g));exact HO_309000.out) hb)
      have n3_:=Aside0.mk (Kd.R_below (by (with_reducible repeat (first|apply y_e|apply y_f|apply y_g));exact HO312.out) hb)
      have n4_:=Aside0.mk (blk_below (g:=gb284) (o:=.cells #[.slice A0_0 l0_0.length c0_0,.int .i64 a0_1] 24 (0,0)) (by (with_reducible repeat (first|refine y_b ?_ _|refine y_c ?_|refine y_d ?_ _));exact BK284.out) hb)
      have n5_:=Aside0.mk (blk_below (g:=gb296) (o:=.cells #[.slice Ao23 t290.length co23,.int .i64 t293] 29 (0,0)) (by (with_reducible repeat (first|refine y_b ?_ _|refine y_c ?_|refine y_d ?_ _));exact BK296.out) hb)
      have n6_:=Aside0.mk (blk_below (g:=gb301) (o:=.cells #[.slice Ao29 t297.length co29,.int .i64 t300] 29 (0,0)) (by (with_reducible repeat (first|refine y_b ?_ _|refine y_c ?_|refine y_d ?_ _));exact BK301.out) hb)
      have n7_:=Aside0.mk (blk_below (g:=gb308) (o:=.cells #[.slice Ao35 t302.length co35,.int .i64 t305] 29 (0,0)) (by (with_reducible repeat (first|refine y_b ?_ _|refine y_c ?_|refine y_d ?_ _));exact BK308.out) hb)
      have n8_:=Aside0.mk (below_step (by repeat (first|(with_reducible first|exact HB.out|apply y_h|apply y_i|apply y_j|refine y_n ?_ GE284.out|refine y_n ?_ GE296.out|refine y_n ?_ GE301.out|refine y_n ?_ GE308.out)|exact HB.out)) hb)
      clear HO_297000
      clear HO_302000
      clear HO_309000
      clear HO312
      clear BK284
      clear BK296
      clear BK301
      clear BK308
      clear HB
      have HO_297000 := n0_
      have HO_302000 := n1_
      have HO_309000 := n2_
      have HO312 := n3_
      have BK284 := n4_
      have BK296 := n5_
      have BK301 := n6_
      have BK308 := n7_
      have HB := n8_
      clear n0_ n1_ n2_ n3_ n4_ n5_ n6_ n7_ n8_
      (try clear hb)
      (try clear hb2)
      (try clear hk)
      (try clear hi)
      refine hK.out _ _ ⟨(blk_cell BK301.out 0).trans rfl,(blk_cell BK301.out 1).trans rfl,(blk_cell BK284.out 0).trans rfl,(blk_cell BK284.out 1).trans rfl⟩ (fun hHeld => ?_)
      clear hK K
      refine norm_ (a' := ?_) ?_ ?_
      rotate_left
      ·show Act.put _ (some 66) _ = _
       simp only [Act.put,List.setIfInBounds_toArray,List.set_cons_zero,List.set_cons_succ,i64_w,i32_w]
       rfl
      refine pure_ (i:=4) (N:=some 67) (v:=?_) (a':=?_) #[true,true,true,true,true] rfl rfl (by kernel_rfl) (fun _ _ _ h => h) (Or.inl ⟨by rfl,?_⟩) ?_ ?_
      rotate_left
      ·intro w'
       go_simp
       with_reducible rfl
      rotate_left
      ·simp only [Act.put,List.setIfInBounds_toArray,List.set_cons_zero,List.set_cons_succ,i64_w,i32_w]
       rfl
      refine done_ (by kernel_rfl) ?_
      try go_wp2
      go_ret
      exact ⟨by first|rfl|(simp [errW_none,errW_some] <;> rfl)|(simp [*,errW_none,errW_some] <;> rfl),by repeat (first|(with_reducible first|exact HB.out|apply y_h|apply y_i|apply y_j|refine y_n ?_ GE284.out|refine y_n ?_ GE296.out|refine y_n ?_ GE301.out|refine y_n ?_ GE308.out)|exact HB.out)⟩

end Go.Proofs.Ytlfnjkcgefcidaa.PFnExactPoolTake
