-- Written by a program of this session over the print's form. Lean checks it.
import Derived.Test.YtbpmfdpbgcpjeaaPFnExactCatEditionx0
import Derived.Test.YtbpmfdpbgcpjeaaPFnExactCatEditionx1
import Derived.Test.YtbpmfdpbgcpjeaaPFnExactCatEditionx2
import Derived.Test.YtbpmfdpbgcpjeaaPFnExactCatEditionx4
import Derived.Test.YtbpmfdpbgcpjeaaPFnExactCatEditionx7
import Derived.Test.YtbpmfdpbgcpjeaaPFnExactCatEditionx13
namespace Go.Proofs.Ytbpmfdpbgcpjeaa.PFnExactCatEdition
open Go.RowKit Go.Proofs.YtbpmfdpbgcpjeaaW.PrintWords Go.Proofs.YtbpmfdpbgcpjeaaW.PrintLast Go.Proofs.YtbpmfdpbgcpjeaaW.PrintMore
attribute [local go_sem] max2_int min2_int max_two min_two max_three min_three max_four min_four   -- for this text's walks alone
set_option linter.unusedVariables false
set_option linter.unusedSimpArgs false

/-! ### laws_FnExactCatEdition: function 5 -/
def laws_FnExactCatEdition.j0 : Nat → Bool → Int → List (S78) → Int → List (S36) → Option (Bool)
 | 0, _, _, _, _, _ => none
 | k + 1, x39, x199000, x199001, x215000, x215001 => if x39 = true then (some false) else ((laws_toCat.f k x199000 x199001).bind fun bt222 => ((laws_eqCat.f k x215000 x215001 bt222.1 bt222.2).bind fun t226 => (if t226 = true then (some true) else (some false))))
def laws_FnExactCatEdition.f (k : Nat) (a0_0 : Int) (l0_1 : List (S78)) (a1 : Int) : Option (Bool) := (laws_szCat.f k a0_0 l0_1 1048576).bind fun t199 => (if t199 < 0 then (some true) else ((laws_toCat.f k a0_0 l0_1).bind fun bt200 => ((spec_CatEdition.f k bt200.1 bt200.2 a1).bind fun bt204 => ((laws_toCat.f k a0_0 l0_1).bind fun bt210 => ((impl_CatEdition.f k bt210.1 bt210.2 a1).bind fun bt215 => ((laws_eqItem.f bt215.1 bt215.2.1 bt215.2.2.1 bt215.2.2.2.1 bt204.1 bt204.2.1 bt204.2.2.1 bt204.2.2.2.1).bind fun t221 => (if t221 = true then (laws_FnExactCatEdition.j0 k (bt215.2.2.2.2 != bt204.2.2.2.2) a0_0 l0_1 bt210.1 bt210.2) else (laws_FnExactCatEdition.j0 k true a0_0 l0_1 bt210.1 bt210.2))))))))
theorem laws_FnExactCatEdition.mono_l : ∀ k, (∀ y0 y1 y2 y3 y4, LeO (laws_FnExactCatEdition.j0 k y0 y1 y2 y3 y4) (laws_FnExactCatEdition.j0 (k + 1) y0 y1 y2 y3 y4))
 | 0 => fun _ _ _ _ _ r h => by simp [laws_FnExactCatEdition.j0] at h
 | k + 1 => by
  have ih0 := laws_FnExactCatEdition.mono_l k
  ·intro y0 y1 y2 y3 y4
   unfold laws_FnExactCatEdition.j0
   repeat' first
   | (with_reducible exact ih0 _ _ _ _ _)
   | (with_reducible exact impl_CatEdition.mono _ _ _ _)
   | (with_reducible exact laws_eqCat.mono _ _ _ _ _)
   | (with_reducible exact laws_szCat.mono _ _ _ _)
   | (with_reducible exact laws_toCat.mono _ _ _)
   | (with_reducible exact spec_CatEdition.mono _ _ _ _)
   | (with_reducible exact LeO.refl _)
   | (with_reducible exact LeO.none _)
   | (with_reducible refine LeO.ite ?_ ?_)
   | (with_reducible refine LeO.bind ?_ (fun _ => ?_))
   | exact ih0 _ _ _ _ _
   | exact impl_CatEdition.mono _ _ _ _
   | exact laws_eqCat.mono _ _ _ _ _
   | exact laws_szCat.mono _ _ _ _
   | exact laws_toCat.mono _ _ _
   | exact spec_CatEdition.mono _ _ _ _
   | exact LeO.none _
   | refine LeO.ite ?_ ?_
   | refine LeO.bind ?_ (fun _ => ?_)
theorem laws_FnExactCatEdition.mono : ∀ a0 a1 a2 k, LeO (laws_FnExactCatEdition.f k a0 a1 a2) (laws_FnExactCatEdition.f (k + 1) a0 a1 a2) := by
 intro a0 a1 a2 k
 have ih0 := laws_FnExactCatEdition.mono_l k
 unfold laws_FnExactCatEdition.f
 repeat' first
   | (with_reducible exact ih0 _ _ _ _ _)
   | (with_reducible exact impl_CatEdition.mono _ _ _ _)
   | (with_reducible exact laws_eqCat.mono _ _ _ _ _)
   | (with_reducible exact laws_szCat.mono _ _ _ _)
   | (with_reducible exact laws_toCat.mono _ _ _)
   | (with_reducible exact spec_CatEdition.mono _ _ _ _)
   | (with_reducible exact LeO.refl _)
   | (with_reducible exact LeO.none _)
   | (with_reducible refine LeO.ite ?_ ?_)
   | (with_reducible refine LeO.bind ?_ (fun _ => ?_))
   | exact ih0 _ _ _ _ _
   | exact impl_CatEdition.mono _ _ _ _
   | exact laws_eqCat.mono _ _ _ _ _
   | exact laws_szCat.mono _ _ _ _
   | exact laws_toCat.mono _ _ _
   | exact spec_CatEdition.mono _ _ _ _
   | exact LeO.none _
   | refine LeO.ite ?_ ?_
   | refine LeO.bind ?_ (fun _ => ?_)
set_option maxHeartbeats 8000000 in
set_option maxRecDepth 100000 in
theorem laws_FnExactCatEdition.calls (k : Nat) (a0_0 : Int) (A0_1 : Option Addr) (c0_1 : Nat) (l0_1 : List (S78)) (a1 : Int) (r : Bool) (w : World) (hr0_1 : Kd.C k78 w A0_1 l0_1.length l0_1) (hc0_1 : l0_1.length ≤ c0_1) (h : laws_FnExactCatEdition.f k a0_0 l0_1 a1 = some r) :
  Calls Try.prog 5 #[.agg #[.int .i64 a0_0, .slice A0_1 l0_1.length c0_1], .int .i64 a1] w fun e w' => e = .returned (.bool r) ∧ Below w.heap.size w w' := by
 have hu24 := Try.underlying24
 have hu36 := Try.underlying36
 have hu29 := Try.underlying29
 have HR0_1 := Aside0.mk hr0_1
 have HC0_1 := Aside0.mk hc0_1
 clear hr0_1 hc0_1
 have HB := Aside0.mk (Below.refl w.heap.size w)
 have H : ((laws_szCat.f k a0_0 l0_1 1048576).bind fun t199 => (if t199 < 0 then (some true) else ((laws_toCat.f k a0_0 l0_1).bind fun bt200 => ((spec_CatEdition.f k bt200.1 bt200.2 a1).bind fun bt204 => ((laws_toCat.f k a0_0 l0_1).bind fun bt210 => ((impl_CatEdition.f k bt210.1 bt210.2 a1).bind fun bt215 => ((laws_eqItem.f bt215.1 bt215.2.1 bt215.2.2.1 bt215.2.2.2.1 bt204.1 bt204.2.1 bt204.2.2.1 bt204.2.2.2.1).bind fun t221 => (if t221 = true then (laws_FnExactCatEdition.j0 k (bt215.2.2.2.2 != bt204.2.2.2.2) a0_0 l0_1 bt210.1 bt210.2) else (laws_FnExactCatEdition.j0 k true a0_0 l0_1 bt210.1 bt210.2))))))))) = some r:=h
 clear h
 replace H := Option.bind_eq_some_iff.mp H
 obtain ⟨t199, A30, H⟩ := H
 replace H : (if t199 < 0 then (some true) else ((laws_toCat.f k a0_0 l0_1).bind fun bt200 => ((spec_CatEdition.f k bt200.1 bt200.2 a1).bind fun bt204 => ((laws_toCat.f k a0_0 l0_1).bind fun bt210 => ((impl_CatEdition.f k bt210.1 bt210.2 a1).bind fun bt215 => ((laws_eqItem.f bt215.1 bt215.2.1 bt215.2.2.1 bt215.2.2.2.1 bt204.1 bt204.2.1 bt204.2.2.1 bt204.2.2.2.1).bind fun t221 => (if t221 = true then (laws_FnExactCatEdition.j0 k (bt215.2.2.2.2 != bt204.2.2.2.2) a0_0 l0_1 bt210.1 bt210.2) else (laws_FnExactCatEdition.j0 k true a0_0 l0_1 bt210.1 bt210.2)))))))) = some r:=H
 have A3 := Aside0.mk A30
 clear A30
 by_cases c4 : t199 < 0
 ·rw [if_pos c4] at H
  have c4b0 : decide (t199 < 0) = true := decide_eq_true c4
  clear c4
  obtain rfl := Option.some.inj H
  go_enter Try.func5, Try.ntmps5
  go_wp2_with (first|((with_reducible refine gate_dst (N:=2) rfl ?_);refine box_event ?hg (N:=2) ?hd (cs:=#[.int .i64 a0_0,.slice A0_1 l0_1.length c0_1]) (t:=24) ?hr ?_;(case hd => rfl);(case hg => rfl);(case hr => first|(go_simp;done)|(go_simp;rfl));intro gb198 hg w5 hbox hb;have n0_:=Aside0.mk (below_step (by repeat (first|(with_reducible first|exact HB.out|apply below_alloc|apply pw_below_drewN|apply below_drew1)|exact HB.out)) hb);have n1_:=Aside0.mk (hbox);have n2_:=Aside0.mk ((by rw [hg];exact (below_size (by repeat (first|(with_reducible first|exact HB.out|apply below_alloc|apply pw_below_drewN|apply below_drew1)|exact HB.out))) : w.heap.size ≤ gb198));have n3_:=Aside0.mk ((by rw [hg];exact (below_size (by repeat (first|(with_reducible first|exact HB.out|apply below_alloc|apply pw_below_drewN|apply below_drew1)|exact HB.out))) : w.heap.size ≤ gb198));clear HB;have HB:=n0_;have BK198:=n1_;have GW198:=n2_;have GE198:=n3_;clear n0_ n1_ n2_ n3_;clear hb hbox hg;have hcz6_0 : w5.cell? ⟨gb198,0,none⟩ = some (.int .i64 a0_0):=(blk_cell BK198.out 0).trans rfl;have hcz6_1 : w5.cell? ⟨gb198,1,none⟩ = some (.slice A0_1 l0_1.length c0_1):=(blk_cell BK198.out 1).trans rfl;have hfz6_0:=blk_frozen BK198.out 0;have hfz6_1:=blk_frozen BK198.out 1)|((with_reducible refine gate_callee (f:=13) rfl ?_);refine goesL_ (some 13) rfl rfl Try.func13 (by kernel_rfl) rfl #[.agg #[.int .i64 a0_0,.slice A0_1 l0_1.length c0_1],.int .i64 1048576] rfl (by (try simp only [List.map_toArray,List.map_cons,List.map_nil]);first|done|rfl|(simp only [List.length_drop,List.length_take];rfl)) ?_;(with_reducible refine (laws_szCat.calls k a0_0 _ _ l0_1 1048576 t199 _ ?side1 ?side2 A3.out).mono ?_);(case side1 => repeat (first|exact (Kd.C_below HR0_1.out HB.out)|(with_reducible refine Kd.C_alloc ?_ _)|(with_reducible refine Kd.C_drewN ?_ _)|(with_reducible refine Kd.C_drew ?_)));(case side2 => exact HC0_1.out);rintro e w7 ⟨rfl,hb⟩;refine ⟨_,rfl,?_⟩;have n0_:=Aside0.mk (blk_below (g:=gb198) (o:=.cells #[.int .i64 a0_0,.slice A0_1 l0_1.length c0_1] 24 (0,0)) (by (with_reducible repeat (first|refine blk_drewN ?_ _|refine blk_drew ?_|refine blk_alloc ?_ _));exact BK198.out) hb);have n1_:=Aside0.mk (below_step (by repeat (first|(with_reducible first|exact HB.out|apply below_alloc|apply pw_below_drewN|apply below_drew1|refine below_set ?_ GE198.out)|exact HB.out)) hb);clear BK198 HB;have BK198:=n0_;have HB:=n1_;clear n0_ n1_;(try clear hb);(try clear hb2);(try clear hk);(try clear hi)))
  go_ret
  exact ⟨by first|rfl|(simp [errW_none,errW_some] <;> rfl)|(simp [*,errW_none,errW_some] <;> rfl),by repeat (first|(with_reducible first|exact HB.out|apply below_alloc|apply pw_below_drewN|apply below_drew1|refine below_set ?_ GE198.out)|exact HB.out)⟩
 ·rw [if_neg c4] at H
  have c4b0 : decide (t199 < 0) = false := decide_eq_false c4
  clear c4
  replace H := Option.bind_eq_some_iff.mp H
  obtain ⟨⟨t200, t201⟩, A80, H⟩ := H
  replace H : ((spec_CatEdition.f k t200 t201 a1).bind fun bt204 => ((laws_toCat.f k a0_0 l0_1).bind fun bt210 => ((impl_CatEdition.f k bt210.1 bt210.2 a1).bind fun bt215 => ((laws_eqItem.f bt215.1 bt215.2.1 bt215.2.2.1 bt215.2.2.2.1 bt204.1 bt204.2.1 bt204.2.2.1 bt204.2.2.2.1).bind fun t221 => (if t221 = true then (laws_FnExactCatEdition.j0 k (bt215.2.2.2.2 != bt204.2.2.2.2) a0_0 l0_1 bt210.1 bt210.2) else (laws_FnExactCatEdition.j0 k true a0_0 l0_1 bt210.1 bt210.2)))))) = some r:=H
  have A8 := Aside0.mk A80
  clear A80
  replace H := Option.bind_eq_some_iff.mp H
  obtain ⟨⟨t204, t205, t206, t207, t208⟩, A90, H⟩ := H
  replace H : ((laws_toCat.f k a0_0 l0_1).bind fun bt210 => ((impl_CatEdition.f k bt210.1 bt210.2 a1).bind fun bt215 => ((laws_eqItem.f bt215.1 bt215.2.1 bt215.2.2.1 bt215.2.2.2.1 t204 t205 t206 t207).bind fun t221 => (if t221 = true then (laws_FnExactCatEdition.j0 k (bt215.2.2.2.2 != t208) a0_0 l0_1 bt210.1 bt210.2) else (laws_FnExactCatEdition.j0 k true a0_0 l0_1 bt210.1 bt210.2))))) = some r:=H
  have A9 := Aside0.mk A90
  clear A90
  replace H := Option.bind_eq_some_iff.mp H
  obtain ⟨⟨t210, t211⟩, A100, H⟩ := H
  replace H : ((impl_CatEdition.f k t210 t211 a1).bind fun bt215 => ((laws_eqItem.f bt215.1 bt215.2.1 bt215.2.2.1 bt215.2.2.2.1 t204 t205 t206 t207).bind fun t221 => (if t221 = true then (laws_FnExactCatEdition.j0 k (bt215.2.2.2.2 != t208) a0_0 l0_1 t210 t211) else (laws_FnExactCatEdition.j0 k true a0_0 l0_1 t210 t211)))) = some r:=H
  have A10 := Aside0.mk A100
  clear A100
  replace H := Option.bind_eq_some_iff.mp H
  obtain ⟨⟨t215, t216, t217, t218, t219⟩, A110, H⟩ := H
  replace H : ((laws_eqItem.f t215 t216 t217 t218 t204 t205 t206 t207).bind fun t221 => (if t221 = true then (laws_FnExactCatEdition.j0 k (t219 != t208) a0_0 l0_1 t210 t211) else (laws_FnExactCatEdition.j0 k true a0_0 l0_1 t210 t211))) = some r:=H
  have A11 := Aside0.mk A110
  clear A110
  have HC12 := Aside0.mk H
  clear H
  go_enter Try.func5, Try.ntmps5
  go_upto_region 8 with (first|((with_reducible refine gate_dst (N:=2) rfl ?_);refine box_event ?hg (N:=2) ?hd (cs:=#[.int .i64 a0_0,.slice A0_1 l0_1.length c0_1]) (t:=24) ?hr ?_;(case hd => rfl);(case hg => rfl);(case hr => first|(go_simp;done)|(go_simp;rfl));intro gb198 hg w13 hbox hb;have n0_:=Aside0.mk (below_step (by repeat (first|(with_reducible first|exact HB.out|apply below_alloc|apply pw_below_drewN|apply below_drew1)|exact HB.out)) hb);have n1_:=Aside0.mk (hbox);have n2_:=Aside0.mk ((by rw [hg];exact (below_size (by repeat (first|(with_reducible first|exact HB.out|apply below_alloc|apply pw_below_drewN|apply below_drew1)|exact HB.out))) : w.heap.size ≤ gb198));have n3_:=Aside0.mk ((by rw [hg];exact (below_size (by repeat (first|(with_reducible first|exact HB.out|apply below_alloc|apply pw_below_drewN|apply below_drew1)|exact HB.out))) : w.heap.size ≤ gb198));clear HB;have HB:=n0_;have BK198:=n1_;have GW198:=n2_;have GE198:=n3_;clear n0_ n1_ n2_ n3_;clear hb hbox hg;have hcz14_0 : w13.cell? ⟨gb198,0,none⟩ = some (.int .i64 a0_0):=(blk_cell BK198.out 0).trans rfl;have hcz14_1 : w13.cell? ⟨gb198,1,none⟩ = some (.slice A0_1 l0_1.length c0_1):=(blk_cell BK198.out 1).trans rfl;have hfz14_0:=blk_frozen BK198.out 0;have hfz14_1:=blk_frozen BK198.out 1)|((with_reducible refine gate_callee (f:=13) rfl ?_);refine goesL_ (some 13) rfl rfl Try.func13 (by kernel_rfl) rfl #[.agg #[.int .i64 a0_0,.slice A0_1 l0_1.length c0_1],.int .i64 1048576] rfl (by (try simp only [List.map_toArray,List.map_cons,List.map_nil]);first|done|rfl|(simp only [List.length_drop,List.length_take];rfl)) ?_;(with_reducible refine (laws_szCat.calls k a0_0 _ _ l0_1 1048576 t199 _ ?side1 ?side2 A3.out).mono ?_);(case side1 => repeat (first|exact (Kd.C_below HR0_1.out HB.out)|(with_reducible refine Kd.C_alloc ?_ _)|(with_reducible refine Kd.C_drewN ?_ _)|(with_reducible refine Kd.C_drew ?_)));(case side2 => exact HC0_1.out);rintro e w15 ⟨rfl,hb⟩;refine ⟨_,rfl,?_⟩;have n0_:=Aside0.mk (blk_below (g:=gb198) (o:=.cells #[.int .i64 a0_0,.slice A0_1 l0_1.length c0_1] 24 (0,0)) (by (with_reducible repeat (first|refine blk_drewN ?_ _|refine blk_drew ?_|refine blk_alloc ?_ _));exact BK198.out) hb);have n1_:=Aside0.mk (below_step (by repeat (first|(with_reducible first|exact HB.out|apply below_alloc|apply pw_below_drewN|apply below_drew1|refine below_set ?_ GE198.out)|exact HB.out)) hb);clear BK198 HB;have BK198:=n0_;have HB:=n1_;clear n0_ n1_;(try clear hb);(try clear hb2);(try clear hk);(try clear hi);have hcz16_0 : w15.cell? ⟨gb198,0,none⟩ = some (.int .i64 a0_0):=(blk_cell BK198.out 0).trans rfl;have hcz16_1 : w15.cell? ⟨gb198,1,none⟩ = some (.slice A0_1 l0_1.length c0_1):=(blk_cell BK198.out 1).trans rfl;have hfz16_0:=blk_frozen BK198.out 0;have hfz16_1:=blk_frozen BK198.out 1)|((with_reducible refine gate_callee (f:=15) rfl ?_);refine goesL_ (some 18) rfl rfl Try.func15 (by kernel_rfl) rfl #[.agg #[.int .i64 a0_0,.slice A0_1 l0_1.length c0_1]] rfl (by (try simp only [List.map_toArray,List.map_cons,List.map_nil]);first|done|rfl|(simp only [List.length_drop,List.length_take];rfl)) ?_;(with_reducible refine (laws_toCat.calls k a0_0 _ _ l0_1 t200 t201 _ ?side1 ?side2 A8.out).mono ?_);(case side1 => repeat (first|exact (Kd.C_below HR0_1.out HB.out)|(with_reducible refine Kd.C_alloc ?_ _)|(with_reducible refine Kd.C_drewN ?_ _)|(with_reducible refine Kd.C_drew ?_)));(case side2 => exact HC0_1.out);rintro e w17 ⟨v202,rfl,ho0,hb⟩;refine ⟨_,rfl,?_⟩;have n0_:=Aside0.mk (Kd.R_lower ho0 (below_size (by repeat (first|(with_reducible first|exact HB.out|apply below_alloc|apply pw_below_drewN|apply below_drew1|refine below_set ?_ GE198.out)|exact HB.out))));have n1_:=Aside0.mk (blk_below (g:=gb198) (o:=.cells #[.int .i64 a0_0,.slice A0_1 l0_1.length c0_1] 24 (0,0)) (by (with_reducible repeat (first|refine blk_drewN ?_ _|refine blk_drew ?_|refine blk_alloc ?_ _));exact BK198.out) hb);have n2_:=Aside0.mk (below_step (by repeat (first|(with_reducible first|exact HB.out|apply below_alloc|apply pw_below_drewN|apply below_drew1|refine below_set ?_ GE198.out)|exact HB.out)) hb);clear BK198 HB;have HO203:=n0_;have BK198:=n1_;have HB:=n2_;clear n0_ n1_ n2_;(try clear hb);(try clear hb2);(try clear hk);(try clear hi);(try clear ho0);obtain ⟨Ao18,co18,eo18⟩:=Kd.R_slice HO203.out;subst eo18)|((with_reducible refine gate_callee (f:=20) rfl ?_);refine goesL_ (some 20) rfl rfl Try.func20 (by kernel_rfl) rfl #[.agg #[.int .i64 t200,.slice Ao18 t201.length co18],.int .i64 a1] rfl (by (try simp only [List.map_toArray,List.map_cons,List.map_nil]);first|done|rfl|(simp only [List.length_drop,List.length_take];rfl)) ?_;(with_reducible refine (spec_CatEdition.calls k t200 _ _ t201 a1 t204 t205 t206 t207 t208 _ ?side1 ?side2 A9.out).mono ?_);(case side1 => repeat (first|exact (Kd.R_reads' HO203.out).2.2|(with_reducible refine Kd.C_alloc ?_ _)|(with_reducible refine Kd.C_drewN ?_ _)|(with_reducible refine Kd.C_drew ?_)));(case side2 => exact (Kd.R_reads' HO203.out).2.1);rintro e w19 ⟨rfl,hb⟩;refine ⟨_,rfl,?_⟩;have n0_:=Aside0.mk (Kd.R_below (by (with_reducible repeat (first|apply Kd.R_alloc|apply Kd.R_drewN|apply Kd.R_drew));exact HO203.out) hb);have n1_:=Aside0.mk (blk_below (g:=gb198) (o:=.cells #[.int .i64 a0_0,.slice A0_1 l0_1.length c0_1] 24 (0,0)) (by (with_reducible repeat (first|refine blk_drewN ?_ _|refine blk_drew ?_|refine blk_alloc ?_ _));exact BK198.out) hb);have n2_:=Aside0.mk (below_step (by repeat (first|(with_reducible first|exact HB.out|apply below_alloc|apply pw_below_drewN|apply below_drew1|refine below_set ?_ GE198.out)|exact HB.out)) hb);clear HO203 BK198 HB;have HO203:=n0_;have BK198:=n1_;have HB:=n2_;clear n0_ n1_ n2_;(try clear hb);(try clear hb2);(try clear hk);(try clear hi))|((with_reducible refine gate_dst (N:=6) rfl ?_);refine box_event ?hg (N:=6) ?hd (cs:=#[.int .i64 0,.string (⟨#[]⟩ : ByteArray),.int .i64 0,.string (⟨#[]⟩ : ByteArray)]) (t:=36) ?hr ?_;(case hd => rfl);(case hg => rfl);(case hr => first|(go_simp;done)|(go_simp;rfl));intro gb209 hg w20 hbox hb;have n0_:=Aside0.mk (Kd.R_below (Kd.R_elderB (by (with_reducible repeat (first|apply Kd.R_alloc|apply Kd.R_drewN|apply Kd.R_drew));exact HO203.out) gb209 (Nat.le_of_eq hg.symm)) hb);have n1_:=Aside0.mk (blk_below (g:=gb198) (o:=.cells #[.int .i64 a0_0,.slice A0_1 l0_1.length c0_1] 24 (0,0)) (by (with_reducible repeat (first|refine blk_drewN ?_ _|refine blk_drew ?_|refine blk_alloc ?_ _));exact BK198.out) hb);have n2_:=Aside0.mk (below_step (by repeat (first|(with_reducible first|exact HB.out|apply below_alloc|apply pw_below_drewN|apply below_drew1|refine below_set ?_ GE198.out)|exact HB.out)) hb);have n3_:=Aside0.mk (hbox);have n4_:=Aside0.mk ((by rw [hg];exact (below_size (by repeat (first|(with_reducible first|exact HB.out|apply below_alloc|apply pw_below_drewN|apply below_drew1|refine below_set ?_ GE198.out)|exact HB.out))) : w.heap.size ≤ gb209));have n5_:=Aside0.mk ((by rw [hg];exact (below_size (by repeat (first|(with_reducible first|exact HB.out|apply below_alloc|apply pw_below_drewN|apply below_drew1|refine below_set ?_ GE198.out)|exact HB.out))) : w.heap.size ≤ gb209));have n6_:=Aside0.mk ((by rw [hg];exact Nat.ne_of_lt (blk_lt (g:=gb198) (o:=.cells #[.int .i64 a0_0,.slice A0_1 l0_1.length c0_1] 24 (0,0)) (by (with_reducible repeat (first|refine blk_drewN ?_ _|refine blk_drew ?_|refine blk_alloc ?_ _));exact BK198.out)) : gb198 ≠ gb209));have n7_:=Aside0.mk ((by rw [hg];exact Nat.ne_of_gt (blk_lt (g:=gb198) (o:=.cells #[.int .i64 a0_0,.slice A0_1 l0_1.length c0_1] 24 (0,0)) (by (with_reducible repeat (first|refine blk_drewN ?_ _|refine blk_drew ?_|refine blk_alloc ?_ _));exact BK198.out)) : gb209 ≠ gb198));clear HO203 BK198 HB;have HO203:=n0_;have BK198:=n1_;have HB:=n2_;have BK209:=n3_;have GW209:=n4_;have GE209:=n5_;have NB198_209:=n6_;have NB209_198:=n7_;clear n0_ n1_ n2_ n3_ n4_ n5_ n6_ n7_;clear hb hbox hg;have hnb21:=NB209_198.out;have hnc21:=NB198_209.out;have hcz22_0 : w20.cell? ⟨gb209,0,none⟩ = some (.int .i64 0):=(blk_cell BK209.out 0).trans rfl;have hcz22_1 : w20.cell? ⟨gb209,1,none⟩ = some (.string (⟨#[]⟩ : ByteArray)):=(blk_cell BK209.out 1).trans rfl;have hcz22_2 : w20.cell? ⟨gb209,2,none⟩ = some (.int .i64 0):=(blk_cell BK209.out 2).trans rfl;have hcz22_3 : w20.cell? ⟨gb209,3,none⟩ = some (.string (⟨#[]⟩ : ByteArray)):=(blk_cell BK209.out 3).trans rfl;have hfz22_0:=blk_frozen BK209.out 0;have hfz22_1:=blk_frozen BK209.out 1;have hfz22_2:=blk_frozen BK209.out 2;have hfz22_3:=blk_frozen BK209.out 3;have hcz23_0 : w20.cell? ⟨gb198,0,none⟩ = some (.int .i64 a0_0):=(blk_cell BK198.out 0).trans rfl;have hcz23_1 : w20.cell? ⟨gb198,1,none⟩ = some (.slice A0_1 l0_1.length c0_1):=(blk_cell BK198.out 1).trans rfl;have hfz23_0:=blk_frozen BK198.out 0;have hfz23_1:=blk_frozen BK198.out 1)|((with_reducible refine gate_callee (f:=15) rfl ?_);refine goesL_ (some 24) rfl rfl Try.func15 (by kernel_rfl) rfl #[.agg #[.int .i64 a0_0,.slice A0_1 l0_1.length c0_1]] rfl (by (try simp only [List.map_toArray,List.map_cons,List.map_nil]);first|done|rfl|(simp only [List.length_drop,List.length_take];rfl)) ?_;(with_reducible refine (laws_toCat.calls k a0_0 _ _ l0_1 t210 t211 _ ?side1 ?side2 A10.out).mono ?_);(case side1 => exact Kd.C_below HR0_1.out (by repeat (first|(with_reducible first|exact HB.out|apply below_alloc|apply pw_below_drewN|apply below_drew1|refine below_set ?_ GE198.out|refine below_set ?_ GE209.out)|exact HB.out)));(case side2 => exact HC0_1.out);rintro e w24 ⟨v212,rfl,ho0,hb⟩;refine ⟨_,rfl,?_⟩;have n0_:=Aside0.mk (Kd.R_elder' (by (with_reducible repeat (first|apply Kd.R_alloc|apply Kd.R_drewN|apply Kd.R_drew));exact (Kd.R_mono (Kd.R_far (p:=⟨gb209,3,none⟩) (Kd.R_far (p:=⟨gb209,2,none⟩) (Kd.R_far (p:=⟨gb209,1,none⟩) (Kd.R_far (p:=⟨gb209,0,none⟩) (Kd.R_mono HO203.out (fun k_ hk => (⟨hk,hk.2⟩ : _ ∧ k_ ≠ gb209))) (fun _ hk => hk.2) (.int .i64 t204)) (fun _ hk => hk.2) (.string t205)) (fun _ hk => hk.2) (.int .i64 t206)) (fun _ hk => hk.2) (.string t207)) (fun _ h_ => h_.1))) (Kd.R_base ho0) hb);have n1_:=Aside0.mk (Kd.R_lower (Kd.R_newB (Kd.R_new' ho0 (Kd.R_lt (by (with_reducible repeat (first|apply Kd.R_alloc|apply Kd.R_drewN|apply Kd.R_drew));exact (Kd.R_mono (Kd.R_far (p:=⟨gb209,3,none⟩) (Kd.R_far (p:=⟨gb209,2,none⟩) (Kd.R_far (p:=⟨gb209,1,none⟩) (Kd.R_far (p:=⟨gb209,0,none⟩) (Kd.R_mono HO203.out (fun k_ hk => (⟨hk,hk.2⟩ : _ ∧ k_ ≠ gb209))) (fun _ hk => hk.2) (.int .i64 t204)) (fun _ hk => hk.2) (.string t205)) (fun _ hk => hk.2) (.int .i64 t206)) (fun _ hk => hk.2) (.string t207)) (fun _ h_ => h_.1))))) (g:=gb209) (o:=.cells #[.int .i64 t204,.string t205,.int .i64 t206,.string t207] 36 (0,0)) (by (with_reducible repeat (first|refine blk_drewN ?_ _|refine blk_drew ?_|refine blk_alloc ?_ _));refine blk_put (cs:=#[.int .i64 t204,.string t205,.int .i64 t206,.string (⟨#[]⟩ : ByteArray)]) ?_ 3 _ rfl;(with_reducible repeat (first|refine blk_drewN ?_ _|refine blk_drew ?_|refine blk_alloc ?_ _));refine blk_put (cs:=#[.int .i64 t204,.string t205,.int .i64 0,.string (⟨#[]⟩ : ByteArray)]) ?_ 2 _ rfl;(with_reducible repeat (first|refine blk_drewN ?_ _|refine blk_drew ?_|refine blk_alloc ?_ _));refine blk_put (cs:=#[.int .i64 t204,.string (⟨#[]⟩ : ByteArray),.int .i64 0,.string (⟨#[]⟩ : ByteArray)]) ?_ 1 _ rfl;(with_reducible repeat (first|refine blk_drewN ?_ _|refine blk_drew ?_|refine blk_alloc ?_ _));refine blk_put (cs:=#[.int .i64 0,.string (⟨#[]⟩ : ByteArray),.int .i64 0,.string (⟨#[]⟩ : ByteArray)]) ?_ 0 _ rfl;(with_reducible repeat (first|refine blk_drewN ?_ _|refine blk_drew ?_|refine blk_alloc ?_ _));exact BK209.out)) (below_size (by repeat (first|(with_reducible first|exact HB.out|apply below_alloc|apply pw_below_drewN|apply below_drew1|refine below_set ?_ GE198.out|refine below_set ?_ GE209.out)|exact HB.out))));have n2_:=Aside0.mk (blk_below (g:=gb198) (o:=.cells #[.int .i64 a0_0,.slice A0_1 l0_1.length c0_1] 24 (0,0)) (by (with_reducible repeat (first|refine blk_drewN ?_ _|refine blk_drew ?_|refine blk_alloc ?_ _));refine blk_far ?_ NB198_209.out _;(with_reducible repeat (first|refine blk_drewN ?_ _|refine blk_drew ?_|refine blk_alloc ?_ _));refine blk_far ?_ NB198_209.out _;(with_reducible repeat (first|refine blk_drewN ?_ _|refine blk_drew ?_|refine blk_alloc ?_ _));refine blk_far ?_ NB198_209.out _;(with_reducible repeat (first|refine blk_drewN ?_ _|refine blk_drew ?_|refine blk_alloc ?_ _));refine blk_far ?_ NB198_209.out _;(with_reducible repeat (first|refine blk_drewN ?_ _|refine blk_drew ?_|refine blk_alloc ?_ _));exact BK198.out) hb);have n3_:=Aside0.mk (blk_below (g:=gb209) (o:=.cells #[.int .i64 t204,.string t205,.int .i64 t206,.string t207] 36 (0,0)) (by (with_reducible repeat (first|refine blk_drewN ?_ _|refine blk_drew ?_|refine blk_alloc ?_ _));refine blk_put (cs:=#[.int .i64 t204,.string t205,.int .i64 t206,.string (⟨#[]⟩ : ByteArray)]) ?_ 3 _ rfl;(with_reducible repeat (first|refine blk_drewN ?_ _|refine blk_drew ?_|refine blk_alloc ?_ _));refine blk_put (cs:=#[.int .i64 t204,.string t205,.int .i64 0,.string (⟨#[]⟩ : ByteArray)]) ?_ 2 _ rfl;(with_reducible repeat (first|refine blk_drewN ?_ _|refine blk_drew ?_|refine blk_alloc ?_ _));refine blk_put (cs:=#[.int .i64 t204,.string (⟨#[]⟩ : ByteArray),.int .i64 0,.string (⟨#[]⟩ : ByteArray)]) ?_ 1 _ rfl;(with_reducible repeat (first|refine blk_drewN ?_ _|refine blk_drew ?_|refine blk_alloc ?_ _));refine blk_put (cs:=#[.int .i64 0,.string (⟨#[]⟩ : ByteArray),.int .i64 0,.string (⟨#[]⟩ : ByteArray)]) ?_ 0 _ rfl;(with_reducible repeat (first|refine blk_drewN ?_ _|refine blk_drew ?_|refine blk_alloc ?_ _));exact BK209.out) hb);have n4_:=Aside0.mk (below_step (by repeat (first|(with_reducible first|exact HB.out|apply below_alloc|apply pw_below_drewN|apply below_drew1|refine below_set ?_ GE198.out|refine below_set ?_ GE209.out)|exact HB.out)) hb);clear HO203 BK198 BK209 HB;have HO203:=n0_;have HO213:=n1_;have BK198:=n2_;have BK209:=n3_;have HB:=n4_;clear n0_ n1_ n2_ n3_ n4_;(try clear hb);(try clear hb2);(try clear hk);(try clear hi);(try clear ho0))|((with_reducible refine gate_dst (N:=8) rfl ?_);refine box_event ?hg (N:=8) ?hd (cs:=#[.int .i64 0,.slice none 0 0]) (t:=29) ?hr ?_;(case hd => rfl);(case hg => rfl);(case hr => first|(go_simp;done)|(go_simp;rfl));intro gb214 hg w25 hbox hb;have n0_:=Aside0.mk (Kd.R_below (by (with_reducible repeat (first|apply Kd.R_alloc|apply Kd.R_drewN|apply Kd.R_drew));exact HO203.out) hb);have n1_:=Aside0.mk (Kd.R_below (by (with_reducible repeat (first|apply Kd.R_alloc|apply Kd.R_drewN|apply Kd.R_drew));exact HO213.out) hb);have n2_:=Aside0.mk (blk_below (g:=gb198) (o:=.cells #[.int .i64 a0_0,.slice A0_1 l0_1.length c0_1] 24 (0,0)) (by (with_reducible repeat (first|refine blk_drewN ?_ _|refine blk_drew ?_|refine blk_alloc ?_ _));exact BK198.out) hb);have n3_:=Aside0.mk (blk_below (g:=gb209) (o:=.cells #[.int .i64 t204,.string t205,.int .i64 t206,.string t207] 36 (0,0)) (by (with_reducible repeat (first|refine blk_drewN ?_ _|refine blk_drew ?_|refine blk_alloc ?_ _));exact BK209.out) hb);have n4_:=Aside0.mk (below_step (by repeat (first|(with_reducible first|exact HB.out|apply below_alloc|apply pw_below_drewN|apply below_drew1|refine below_set ?_ GE198.out|refine below_set ?_ GE209.out)|exact HB.out)) hb);have n5_:=Aside0.mk (hbox);have n6_:=Aside0.mk ((by rw [hg];exact (below_size (by repeat (first|(with_reducible first|exact HB.out|apply below_alloc|apply pw_below_drewN|apply below_drew1|refine below_set ?_ GE198.out|refine below_set ?_ GE209.out)|exact HB.out))) : w.heap.size ≤ gb214));have n7_:=Aside0.mk ((by rw [hg];exact (below_size (by repeat (first|(with_reducible first|exact HB.out|apply below_alloc|apply pw_below_drewN|apply below_drew1|refine below_set ?_ GE198.out|refine below_set ?_ GE209.out)|exact HB.out))) : w.heap.size ≤ gb214));have n8_:=Aside0.mk ((by rw [hg];exact Nat.ne_of_lt (blk_lt (g:=gb198) (o:=.cells #[.int .i64 a0_0,.slice A0_1 l0_1.length c0_1] 24 (0,0)) (by (with_reducible repeat (first|refine blk_drewN ?_ _|refine blk_drew ?_|refine blk_alloc ?_ _));exact BK198.out)) : gb198 ≠ gb214));have n9_:=Aside0.mk ((by rw [hg];exact Nat.ne_of_gt (blk_lt (g:=gb198) (o:=.cells #[.int .i64 a0_0,.slice A0_1 l0_1.length c0_1] 24 (0,0)) (by (with_reducible repeat (first|refine blk_drewN ?_ _|refine blk_drew ?_|refine blk_alloc ?_ _));exact BK198.out)) : gb214 ≠ gb198));have n10_:=Aside0.mk ((by rw [hg];exact Nat.ne_of_lt (blk_lt (g:=gb209) (o:=.cells #[.int .i64 t204,.string t205,.int .i64 t206,.string t207] 36 (0,0)) (by (with_reducible repeat (first|refine blk_drewN ?_ _|refine blk_drew ?_|refine blk_alloc ?_ _));exact BK209.out)) : gb209 ≠ gb214));have n11_:=Aside0.mk ((by rw [hg];exact Nat.ne_of_gt (blk_lt (g:=gb209) (o:=.cells #[.int .i64 t204,.string t205,.int .i64 t206,.string t207] 36 (0,0)) (by (with_reducible repeat (first|refine blk_drewN ?_ _|refine blk_drew ?_|refine blk_alloc ?_ _));exact BK209.out)) : gb214 ≠ gb209));clear HO203 HO213 BK198 BK209 HB;have HO203:=n0_;have HO213:=n1_;have BK198:=n2_;have BK209:=n3_;have HB:=n4_;have BK214:=n5_;have GW214:=n6_;have GE214:=n7_;have NB198_214:=n8_;have NB214_198:=n9_;have NB209_214:=n10_;have NB214_209:=n11_;clear n0_ n1_ n2_ n3_ n4_ n5_ n6_ n7_ n8_ n9_ n10_ n11_;clear hb hbox hg;have hnb26:=NB214_198.out;have hnc26:=NB198_214.out;have hnb27:=NB214_209.out;have hnc27:=NB209_214.out;have hcz28_0 : w25.cell? ⟨gb214,0,none⟩ = some (.int .i64 0):=(blk_cell BK214.out 0).trans rfl;have hcz28_1 : w25.cell? ⟨gb214,1,none⟩ = some (.slice none 0 0):=(blk_cell BK214.out 1).trans rfl;have hfz28_0:=blk_frozen BK214.out 0;have hfz28_1:=blk_frozen BK214.out 1;obtain ⟨Ao29,co29,eo29⟩:=Kd.R_slice HO213.out;subst eo29)|((with_reducible refine gate_callee (f:=21) rfl ?_);refine goesL_ (some 28) rfl rfl Try.func21 (by kernel_rfl) rfl #[.agg #[.int .i64 t210,.slice Ao29 t211.length co29],.int .i64 a1] rfl (by (try simp only [List.map_toArray,List.map_cons,List.map_nil]);first|done|rfl|(simp only [List.length_drop,List.length_take];rfl)) ?_;(with_reducible refine (impl_CatEdition.calls k t210 _ _ t211 a1 t215 t216 t217 t218 t219 _ ?side1 ?side2 A11.out).mono ?_);(case side1 => refine (Kd.R_reads' (e:=36) (base:=w.heap.size) (ok:=fun k_ => ((True ∧ some k_ ≠ (.slice Ao18 t201.length co18 : Value).ownBlock) ∧ k_ ≠ gb209)) (n:=t211.length) (c:=co29) ?_).2.2;exact (by (with_reducible repeat (first|apply Kd.R_alloc|apply Kd.R_drewN|apply Kd.R_drew));exact (Kd.R_mono (Kd.R_far (p:=⟨gb214,1,none⟩) (Kd.R_far (p:=⟨gb214,0,none⟩) (Kd.R_types HO213.out BK214.out (by decide)) (fun _ hk => hk.2) (.int .i64 t210)) (fun _ hk => hk.2) (.slice Ao29 t211.length co29)) (fun _ h_ => h_.1))));(case side2 => exact (Kd.R_reads' HO213.out).2.1);rintro e w30 ⟨rfl,hb⟩;refine ⟨_,rfl,?_⟩;have n0_:=Aside0.mk (Kd.R_below (by (with_reducible repeat (first|apply Kd.R_alloc|apply Kd.R_drewN|apply Kd.R_drew));exact (Kd.R_mono (Kd.R_far (p:=⟨gb214,1,none⟩) (Kd.R_far (p:=⟨gb214,0,none⟩) (Kd.R_types HO203.out BK214.out (by decide)) (fun _ hk => hk.2) (.int .i64 t210)) (fun _ hk => hk.2) (.slice Ao29 t211.length co29)) (fun _ h_ => h_.1))) hb);have n1_:=Aside0.mk (Kd.R_below (by (with_reducible repeat (first|apply Kd.R_alloc|apply Kd.R_drewN|apply Kd.R_drew));exact (Kd.R_mono (Kd.R_far (p:=⟨gb214,1,none⟩) (Kd.R_far (p:=⟨gb214,0,none⟩) (Kd.R_types HO213.out BK214.out (by decide)) (fun _ hk => hk.2) (.int .i64 t210)) (fun _ hk => hk.2) (.slice Ao29 t211.length co29)) (fun _ h_ => h_.1))) hb);have n2_:=Aside0.mk (blk_below (g:=gb198) (o:=.cells #[.int .i64 a0_0,.slice A0_1 l0_1.length c0_1] 24 (0,0)) (by (with_reducible repeat (first|refine blk_drewN ?_ _|refine blk_drew ?_|refine blk_alloc ?_ _));refine blk_far ?_ NB198_214.out _;(with_reducible repeat (first|refine blk_drewN ?_ _|refine blk_drew ?_|refine blk_alloc ?_ _));refine blk_far ?_ NB198_214.out _;(with_reducible repeat (first|refine blk_drewN ?_ _|refine blk_drew ?_|refine blk_alloc ?_ _));exact BK198.out) hb);have n3_:=Aside0.mk (blk_below (g:=gb209) (o:=.cells #[.int .i64 t204,.string t205,.int .i64 t206,.string t207] 36 (0,0)) (by (with_reducible repeat (first|refine blk_drewN ?_ _|refine blk_drew ?_|refine blk_alloc ?_ _));refine blk_far ?_ NB209_214.out _;(with_reducible repeat (first|refine blk_drewN ?_ _|refine blk_drew ?_|refine blk_alloc ?_ _));refine blk_far ?_ NB209_214.out _;(with_reducible repeat (first|refine blk_drewN ?_ _|refine blk_drew ?_|refine blk_alloc ?_ _));exact BK209.out) hb);have n4_:=Aside0.mk (blk_below (g:=gb214) (o:=.cells #[.int .i64 t210,.slice Ao29 t211.length co29] 29 (0,0)) (by (with_reducible repeat (first|refine blk_drewN ?_ _|refine blk_drew ?_|refine blk_alloc ?_ _));refine blk_put (cs:=#[.int .i64 t210,.slice none 0 0]) ?_ 1 _ rfl;(with_reducible repeat (first|refine blk_drewN ?_ _|refine blk_drew ?_|refine blk_alloc ?_ _));refine blk_put (cs:=#[.int .i64 0,.slice none 0 0]) ?_ 0 _ rfl;(with_reducible repeat (first|refine blk_drewN ?_ _|refine blk_drew ?_|refine blk_alloc ?_ _));exact BK214.out) hb);have n5_:=Aside0.mk (below_step (by repeat (first|(with_reducible first|exact HB.out|apply below_alloc|apply pw_below_drewN|apply below_drew1|refine below_set ?_ GE198.out|refine below_set ?_ GE209.out|refine below_set ?_ GE214.out)|exact HB.out)) hb);clear HO203 HO213 BK198 BK209 BK214 HB;have HO203:=n0_;have HO213:=n1_;have BK198:=n2_;have BK209:=n3_;have BK214:=n4_;have HB:=n5_;clear n0_ n1_ n2_ n3_ n4_ n5_;(try clear hb);(try clear hb2);(try clear hk);(try clear hi))|((with_reducible refine gate_dst (N:=9) rfl ?_);refine box_event ?hg (N:=9) ?hd (cs:=#[.int .i64 0,.string (⟨#[]⟩ : ByteArray),.int .i64 0,.string (⟨#[]⟩ : ByteArray)]) (t:=36) ?hr ?_;(case hd => rfl);(case hg => rfl);(case hr => first|(go_simp;done)|(go_simp;rfl));intro gb220 hg w31 hbox hb;have n0_:=Aside0.mk (Kd.R_below (Kd.R_elderB (by (with_reducible repeat (first|apply Kd.R_alloc|apply Kd.R_drewN|apply Kd.R_drew));exact HO203.out) gb220 (Nat.le_of_eq hg.symm)) hb);have n1_:=Aside0.mk (Kd.R_below (Kd.R_elderB (by (with_reducible repeat (first|apply Kd.R_alloc|apply Kd.R_drewN|apply Kd.R_drew));exact HO213.out) gb220 (Nat.le_of_eq hg.symm)) hb);have n2_:=Aside0.mk (blk_below (g:=gb198) (o:=.cells #[.int .i64 a0_0,.slice A0_1 l0_1.length c0_1] 24 (0,0)) (by (with_reducible repeat (first|refine blk_drewN ?_ _|refine blk_drew ?_|refine blk_alloc ?_ _));exact BK198.out) hb);have n3_:=Aside0.mk (blk_below (g:=gb209) (o:=.cells #[.int .i64 t204,.string t205,.int .i64 t206,.string t207] 36 (0,0)) (by (with_reducible repeat (first|refine blk_drewN ?_ _|refine blk_drew ?_|refine blk_alloc ?_ _));exact BK209.out) hb);have n4_:=Aside0.mk (blk_below (g:=gb214) (o:=.cells #[.int .i64 t210,.slice Ao29 t211.length co29] 29 (0,0)) (by (with_reducible repeat (first|refine blk_drewN ?_ _|refine blk_drew ?_|refine blk_alloc ?_ _));exact BK214.out) hb);have n5_:=Aside0.mk (below_step (by repeat (first|(with_reducible first|exact HB.out|apply below_alloc|apply pw_below_drewN|apply below_drew1|refine below_set ?_ GE198.out|refine below_set ?_ GE209.out|refine below_set ?_ GE214.out)|exact HB.out)) hb);have n6_:=Aside0.mk (hbox);have n7_:=Aside0.mk ((by rw [hg];exact (below_size (by repeat (first|(with_reducible first|exact HB.out|apply below_alloc|apply pw_below_drewN|apply below_drew1|refine below_set ?_ GE198.out|refine below_set ?_ GE209.out|refine below_set ?_ GE214.out)|exact HB.out))) : w.heap.size ≤ gb220));have n8_:=Aside0.mk ((by rw [hg];exact (below_size (by repeat (first|(with_reducible first|exact HB.out|apply below_alloc|apply pw_below_drewN|apply below_drew1|refine below_set ?_ GE198.out|refine below_set ?_ GE209.out|refine below_set ?_ GE214.out)|exact HB.out))) : w.heap.size ≤ gb220));have n9_:=Aside0.mk ((by rw [hg];exact Nat.ne_of_lt (blk_lt (g:=gb198) (o:=.cells #[.int .i64 a0_0,.slice A0_1 l0_1.length c0_1] 24 (0,0)) (by (with_reducible repeat (first|refine blk_drewN ?_ _|refine blk_drew ?_|refine blk_alloc ?_ _));exact BK198.out)) : gb198 ≠ gb220));have n10_:=Aside0.mk ((by rw [hg];exact Nat.ne_of_gt (blk_lt (g:=gb198) (o:=.cells #[.int .i64 a0_0,.slice A0_1 l0_1.length c0_1] 24 (0,0)) (by (with_reducible repeat (first|refine blk_drewN ?_ _|refine blk_drew ?_|refine blk_alloc ?_ _));exact BK198.out)) : gb220 ≠ gb198));have n11_:=Aside0.mk ((by rw [hg];exact Nat.ne_of_lt (blk_lt (g:=gb209) (o:=.cells #[.int .i64 t204,.string t205,.int .i64 t206,.string t207] 36 (0,0)) (by (with_reducible repeat (first|refine blk_drewN ?_ _|refine blk_drew ?_|refine blk_alloc ?_ _));exact BK209.out)) : gb209 ≠ gb220));have n12_:=Aside0.mk ((by rw [hg];exact Nat.ne_of_gt (blk_lt (g:=gb209) (o:=.cells #[.int .i64 t204,.string t205,.int .i64 t206,.string t207] 36 (0,0)) (by (with_reducible repeat (first|refine blk_drewN ?_ _|refine blk_drew ?_|refine blk_alloc ?_ _));exact BK209.out)) : gb220 ≠ gb209));have n13_:=Aside0.mk ((by rw [hg];exact Nat.ne_of_lt (blk_lt (g:=gb214) (o:=.cells #[.int .i64 t210,.slice Ao29 t211.length co29] 29 (0,0)) (by (with_reducible repeat (first|refine blk_drewN ?_ _|refine blk_drew ?_|refine blk_alloc ?_ _));exact BK214.out)) : gb214 ≠ gb220));have n14_:=Aside0.mk ((by rw [hg];exact Nat.ne_of_gt (blk_lt (g:=gb214) (o:=.cells #[.int .i64 t210,.slice Ao29 t211.length co29] 29 (0,0)) (by (with_reducible repeat (first|refine blk_drewN ?_ _|refine blk_drew ?_|refine blk_alloc ?_ _));exact BK214.out)) : gb220 ≠ gb214));clear HO203 HO213 BK198 BK209 BK214 HB;have HO203:=n0_;have HO213:=n1_;have BK198:=n2_;have BK209:=n3_;have BK214:=n4_;have HB:=n5_;have BK220:=n6_;have GW220:=n7_;have GE220:=n8_;have NB198_220:=n9_;have NB220_198:=n10_;have NB209_220:=n11_;have NB220_209:=n12_;have NB214_220:=n13_;have NB220_214:=n14_;clear n0_ n1_ n2_ n3_ n4_ n5_ n6_ n7_ n8_ n9_ n10_ n11_ n12_ n13_ n14_;clear hb hbox hg;have hnb32:=NB220_198.out;have hnc32:=NB198_220.out;have hnb33:=NB220_209.out;have hnc33:=NB209_220.out;have hnb34:=NB220_214.out;have hnc34:=NB214_220.out;have hcz35_0 : w31.cell? ⟨gb220,0,none⟩ = some (.int .i64 0):=(blk_cell BK220.out 0).trans rfl;have hcz35_1 : w31.cell? ⟨gb220,1,none⟩ = some (.string (⟨#[]⟩ : ByteArray)):=(blk_cell BK220.out 1).trans rfl;have hcz35_2 : w31.cell? ⟨gb220,2,none⟩ = some (.int .i64 0):=(blk_cell BK220.out 2).trans rfl;have hcz35_3 : w31.cell? ⟨gb220,3,none⟩ = some (.string (⟨#[]⟩ : ByteArray)):=(blk_cell BK220.out 3).trans rfl;have hfz35_0:=blk_frozen BK220.out 0;have hfz35_1:=blk_frozen BK220.out 1;have hfz35_2:=blk_frozen BK220.out 2;have hfz35_3:=blk_frozen BK220.out 3))
  (try simp only [Act.put,List.setIfInBounds_toArray,List.set_cons_zero,List.set_cons_succ])
  go_cut [39] (fun v39 wc => ∃ (kq : Nat) (x39_11 : Bool),v39 = .bool x39_11 ∧ Aside0 (laws_FnExactCatEdition.j0 kq x39_11 a0_0 l0_1 t210 t211 = some r) ∧ Aside0 (kq ≤ k) ∧ Aside0 (Kd.R k36 36 wc w.heap.size (fun k_ => k_ ≠ gb209 ∧ k_ ≠ gb220) (.slice Ao29 t211.length co29) t211) ∧ Aside0 (wc.heap[gb198]? = some (.cells #[.int .i64 a0_0,(.slice A0_1 l0_1.length c0_1)] 24 (0,0))) ∧ Aside0 (wc.heap[gb209]? = some (.cells #[.int .i64 t204,.string t205,.int .i64 t206,.string t207] 36 (0,0))) ∧ Aside0 (wc.heap[gb214]? = some (.cells #[.int .i64 t210,(.slice Ao29 t211.length co29)] 29 (0,0))) ∧ Aside0 (wc.heap[gb220]? = some (.cells #[.int .i64 t215,.string t216,.int .i64 t217,.string t218] 36 (0,0))) ∧ Aside0 (Below w.heap.size w wc))
  case first =>
   have H := HC12.out
   clear HC12
   replace H := Option.bind_eq_some_iff.mp H
   obtain ⟨t221, A360, H⟩ := H
   replace H : (if t221 = true then (laws_FnExactCatEdition.j0 k (t219 != t208) a0_0 l0_1 t210 t211) else (laws_FnExactCatEdition.j0 k true a0_0 l0_1 t210 t211)) = some r:=H
   have A36 := Aside0.mk A360
   clear A360
   by_cases c37 : t221 = true
   ·subst c37
    have H1 : (laws_FnExactCatEdition.j0 k (t219 != t208) a0_0 l0_1 t210 t211) = some r:=by rw [if_pos rfl] at H;exact H
    clear H
    have H := H1
    clear H1
    have H' := Aside0.mk H
    clear H
    have hnb38 := NB220_198.out
    have hnc38 := NB198_220.out
    have hnb39 := NB220_209.out
    have hnc39 := NB209_220.out
    have hnb40 := NB220_214.out
    have hnc40 := NB214_220.out
    have hcz41_0 : w31.cell? ⟨gb220,0,none⟩ = some (.int .i64 0):=(blk_cell BK220.out 0).trans rfl
    have hcz41_1 : w31.cell? ⟨gb220,1,none⟩ = some (.string (⟨#[]⟩ : ByteArray)):=(blk_cell BK220.out 1).trans rfl
    have hcz41_2 : w31.cell? ⟨gb220,2,none⟩ = some (.int .i64 0):=(blk_cell BK220.out 2).trans rfl
    have hcz41_3 : w31.cell? ⟨gb220,3,none⟩ = some (.string (⟨#[]⟩ : ByteArray)):=(blk_cell BK220.out 3).trans rfl
    have hfz41_0 := blk_frozen BK220.out 0
    have hfz41_1 := blk_frozen BK220.out 1
    have hfz41_2 := blk_frozen BK220.out 2
    have hfz41_3 := blk_frozen BK220.out 3
    have hnb42 := NB209_198.out
    have hnc42 := NB198_209.out
    have hnb43 := NB209_214.out
    have hnc43 := NB214_209.out
    have hcz44_0 : w31.cell? ⟨gb209,0,none⟩ = some (.int .i64 t204):=(blk_cell BK209.out 0).trans rfl
    have hcz44_1 : w31.cell? ⟨gb209,1,none⟩ = some (.string t205):=(blk_cell BK209.out 1).trans rfl
    have hcz44_2 : w31.cell? ⟨gb209,2,none⟩ = some (.int .i64 t206):=(blk_cell BK209.out 2).trans rfl
    have hcz44_3 : w31.cell? ⟨gb209,3,none⟩ = some (.string t207):=(blk_cell BK209.out 3).trans rfl
    have hfz44_0 := blk_frozen BK209.out 0
    have hfz44_1 := blk_frozen BK209.out 1
    have hfz44_2 := blk_frozen BK209.out 2
    have hfz44_3 := blk_frozen BK209.out 3
    go_wp2_with (first|((with_reducible refine gate_callee (f:=22) rfl ?_);refine goesL_ (some 33) rfl rfl Try.func22 (by kernel_rfl) rfl #[.agg #[.int .i64 t215,.string t216,.int .i64 t217,.string t218],.agg #[.int .i64 t204,.string t205,.int .i64 t206,.string t207]] rfl (by (try simp only [List.map_toArray,List.map_cons,List.map_nil]);first|done|rfl|(simp only [List.length_drop,List.length_take];rfl)) ?_;(with_reducible refine (laws_eqItem.calls t215 t216 t217 t218 t204 t205 t206 t207 true _ A36.out).mono ?_);rintro e w45 ⟨rfl,hb⟩;refine ⟨_,rfl,?_⟩;have n0_:=Aside0.mk (Kd.R_below (by (with_reducible repeat (first|apply Kd.R_alloc|apply Kd.R_drewN|apply Kd.R_drew));exact (Kd.R_mono (Kd.R_far (p:=⟨gb220,3,none⟩) (Kd.R_far (p:=⟨gb220,2,none⟩) (Kd.R_far (p:=⟨gb220,1,none⟩) (Kd.R_far (p:=⟨gb220,0,none⟩) (Kd.R_mono HO203.out (fun k_ hk => (⟨hk,hk.2⟩ : _ ∧ k_ ≠ gb220))) (fun _ hk => hk.2) (.int .i64 t215)) (fun _ hk => hk.2) (.string t216)) (fun _ hk => hk.2) (.int .i64 t217)) (fun _ hk => hk.2) (.string t218)) (fun _ h_ => h_.1))) hb);have n1_:=Aside0.mk (Kd.R_below (by (with_reducible repeat (first|apply Kd.R_alloc|apply Kd.R_drewN|apply Kd.R_drew));exact (Kd.R_mono (Kd.R_far (p:=⟨gb220,3,none⟩) (Kd.R_far (p:=⟨gb220,2,none⟩) (Kd.R_far (p:=⟨gb220,1,none⟩) (Kd.R_far (p:=⟨gb220,0,none⟩) (Kd.R_mono HO213.out (fun k_ hk => (⟨hk,hk.2⟩ : _ ∧ k_ ≠ gb220))) (fun _ hk => hk.2) (.int .i64 t215)) (fun _ hk => hk.2) (.string t216)) (fun _ hk => hk.2) (.int .i64 t217)) (fun _ hk => hk.2) (.string t218)) (fun _ h_ => h_.1))) hb);have n2_:=Aside0.mk (blk_below (g:=gb198) (o:=.cells #[.int .i64 a0_0,.slice A0_1 l0_1.length c0_1] 24 (0,0)) (by (with_reducible repeat (first|refine blk_drewN ?_ _|refine blk_drew ?_|refine blk_alloc ?_ _));refine blk_far ?_ NB198_220.out _;(with_reducible repeat (first|refine blk_drewN ?_ _|refine blk_drew ?_|refine blk_alloc ?_ _));refine blk_far ?_ NB198_220.out _;(with_reducible repeat (first|refine blk_drewN ?_ _|refine blk_drew ?_|refine blk_alloc ?_ _));refine blk_far ?_ NB198_220.out _;(with_reducible repeat (first|refine blk_drewN ?_ _|refine blk_drew ?_|refine blk_alloc ?_ _));refine blk_far ?_ NB198_220.out _;(with_reducible repeat (first|refine blk_drewN ?_ _|refine blk_drew ?_|refine blk_alloc ?_ _));exact BK198.out) hb);have n3_:=Aside0.mk (blk_below (g:=gb209) (o:=.cells #[.int .i64 t204,.string t205,.int .i64 t206,.string t207] 36 (0,0)) (by (with_reducible repeat (first|refine blk_drewN ?_ _|refine blk_drew ?_|refine blk_alloc ?_ _));refine blk_far ?_ NB209_220.out _;(with_reducible repeat (first|refine blk_drewN ?_ _|refine blk_drew ?_|refine blk_alloc ?_ _));refine blk_far ?_ NB209_220.out _;(with_reducible repeat (first|refine blk_drewN ?_ _|refine blk_drew ?_|refine blk_alloc ?_ _));refine blk_far ?_ NB209_220.out _;(with_reducible repeat (first|refine blk_drewN ?_ _|refine blk_drew ?_|refine blk_alloc ?_ _));refine blk_far ?_ NB209_220.out _;(with_reducible repeat (first|refine blk_drewN ?_ _|refine blk_drew ?_|refine blk_alloc ?_ _));exact BK209.out) hb);have n4_:=Aside0.mk (blk_below (g:=gb214) (o:=.cells #[.int .i64 t210,.slice Ao29 t211.length co29] 29 (0,0)) (by (with_reducible repeat (first|refine blk_drewN ?_ _|refine blk_drew ?_|refine blk_alloc ?_ _));refine blk_far ?_ NB214_220.out _;(with_reducible repeat (first|refine blk_drewN ?_ _|refine blk_drew ?_|refine blk_alloc ?_ _));refine blk_far ?_ NB214_220.out _;(with_reducible repeat (first|refine blk_drewN ?_ _|refine blk_drew ?_|refine blk_alloc ?_ _));refine blk_far ?_ NB214_220.out _;(with_reducible repeat (first|refine blk_drewN ?_ _|refine blk_drew ?_|refine blk_alloc ?_ _));refine blk_far ?_ NB214_220.out _;(with_reducible repeat (first|refine blk_drewN ?_ _|refine blk_drew ?_|refine blk_alloc ?_ _));exact BK214.out) hb);have n5_:=Aside0.mk (blk_below (g:=gb220) (o:=.cells #[.int .i64 t215,.string t216,.int .i64 t217,.string t218] 36 (0,0)) (by (with_reducible repeat (first|refine blk_drewN ?_ _|refine blk_drew ?_|refine blk_alloc ?_ _));refine blk_put (cs:=#[.int .i64 t215,.string t216,.int .i64 t217,.string (⟨#[]⟩ : ByteArray)]) ?_ 3 _ rfl;(with_reducible repeat (first|refine blk_drewN ?_ _|refine blk_drew ?_|refine blk_alloc ?_ _));refine blk_put (cs:=#[.int .i64 t215,.string t216,.int .i64 0,.string (⟨#[]⟩ : ByteArray)]) ?_ 2 _ rfl;(with_reducible repeat (first|refine blk_drewN ?_ _|refine blk_drew ?_|refine blk_alloc ?_ _));refine blk_put (cs:=#[.int .i64 t215,.string (⟨#[]⟩ : ByteArray),.int .i64 0,.string (⟨#[]⟩ : ByteArray)]) ?_ 1 _ rfl;(with_reducible repeat (first|refine blk_drewN ?_ _|refine blk_drew ?_|refine blk_alloc ?_ _));refine blk_put (cs:=#[.int .i64 0,.string (⟨#[]⟩ : ByteArray),.int .i64 0,.string (⟨#[]⟩ : ByteArray)]) ?_ 0 _ rfl;(with_reducible repeat (first|refine blk_drewN ?_ _|refine blk_drew ?_|refine blk_alloc ?_ _));exact BK220.out) hb);have n6_:=Aside0.mk (below_step (by repeat (first|(with_reducible first|exact HB.out|apply below_alloc|apply pw_below_drewN|apply below_drew1|refine below_set ?_ GE198.out|refine below_set ?_ GE209.out|refine below_set ?_ GE214.out|refine below_set ?_ GE220.out)|exact HB.out)) hb);clear HO203 HO213 BK198 BK209 BK214 BK220 HB;have HO203:=n0_;have HO213:=n1_;have BK198:=n2_;have BK209:=n3_;have BK214:=n4_;have BK220:=n5_;have HB:=n6_;clear n0_ n1_ n2_ n3_ n4_ n5_ n6_;(try clear hb);(try clear hb2);(try clear hk);(try clear hi)))
    go_meet
    case rel => exact ⟨_,((t219 != t208)),(by first|rfl|(simp;done)|(simp [*];done)),H',⟨by first|omega|exact Nat.le_refl _⟩,⟨by (with_reducible repeat (first|apply Kd.R_alloc|apply Kd.R_drewN|apply Kd.R_drew));exact Kd.R_mono HO213.out (fun _ hk => ⟨hk.1.2,hk.2⟩)⟩,⟨by (with_reducible repeat (first|refine blk_drewN ?_ _|refine blk_drew ?_|refine blk_alloc ?_ _));exact BK198.out⟩,⟨by (with_reducible repeat (first|refine blk_drewN ?_ _|refine blk_drew ?_|refine blk_alloc ?_ _));exact BK209.out⟩,⟨by (with_reducible repeat (first|refine blk_drewN ?_ _|refine blk_drew ?_|refine blk_alloc ?_ _));exact BK214.out⟩,⟨by (with_reducible repeat (first|refine blk_drewN ?_ _|refine blk_drew ?_|refine blk_alloc ?_ _));exact BK220.out⟩,⟨by repeat (first|(with_reducible first|exact HB.out|apply below_alloc|apply pw_below_drewN|apply below_drew1|refine below_set ?_ GE198.out|refine below_set ?_ GE209.out|refine below_set ?_ GE214.out|refine below_set ?_ GE220.out)|exact HB.out)⟩⟩
   ·replace c37 := Bool.eq_false_iff.mpr c37
    subst c37
    have H1 : (laws_FnExactCatEdition.j0 k true a0_0 l0_1 t210 t211) = some r:=by rw [if_neg (show ¬ (false = true) by decide)] at H;exact H
    clear H
    have H := H1
    clear H1
    have H' := Aside0.mk H
    clear H
    have hnb46 := NB220_198.out
    have hnc46 := NB198_220.out
    have hnb47 := NB220_209.out
    have hnc47 := NB209_220.out
    have hnb48 := NB220_214.out
    have hnc48 := NB214_220.out
    have hcz49_0 : w31.cell? ⟨gb220,0,none⟩ = some (.int .i64 0):=(blk_cell BK220.out 0).trans rfl
    have hcz49_1 : w31.cell? ⟨gb220,1,none⟩ = some (.string (⟨#[]⟩ : ByteArray)):=(blk_cell BK220.out 1).trans rfl
    have hcz49_2 : w31.cell? ⟨gb220,2,none⟩ = some (.int .i64 0):=(blk_cell BK220.out 2).trans rfl
    have hcz49_3 : w31.cell? ⟨gb220,3,none⟩ = some (.string (⟨#[]⟩ : ByteArray)):=(blk_cell BK220.out 3).trans rfl
    have hfz49_0 := blk_frozen BK220.out 0
    have hfz49_1 := blk_frozen BK220.out 1
    have hfz49_2 := blk_frozen BK220.out 2
    have hfz49_3 := blk_frozen BK220.out 3
    have hnb50 := NB209_198.out
    have hnc50 := NB198_209.out
    have hnb51 := NB209_214.out
    have hnc51 := NB214_209.out
    have hcz52_0 : w31.cell? ⟨gb209,0,none⟩ = some (.int .i64 t204):=(blk_cell BK209.out 0).trans rfl
    have hcz52_1 : w31.cell? ⟨gb209,1,none⟩ = some (.string t205):=(blk_cell BK209.out 1).trans rfl
    have hcz52_2 : w31.cell? ⟨gb209,2,none⟩ = some (.int .i64 t206):=(blk_cell BK209.out 2).trans rfl
    have hcz52_3 : w31.cell? ⟨gb209,3,none⟩ = some (.string t207):=(blk_cell BK209.out 3).trans rfl
    have hfz52_0 := blk_frozen BK209.out 0
    have hfz52_1 := blk_frozen BK209.out 1
    have hfz52_2 := blk_frozen BK209.out 2
    have hfz52_3 := blk_frozen BK209.out 3
    go_wp2_with (first|((with_reducible refine gate_callee (f:=22) rfl ?_);refine goesL_ (some 33) rfl rfl Try.func22 (by kernel_rfl) rfl #[.agg #[.int .i64 t215,.string t216,.int .i64 t217,.string t218],.agg #[.int .i64 t204,.string t205,.int .i64 t206,.string t207]] rfl (by (try simp only [List.map_toArray,List.map_cons,List.map_nil]);first|done|rfl|(simp only [List.length_drop,List.length_take];rfl)) ?_;(with_reducible refine (laws_eqItem.calls t215 t216 t217 t218 t204 t205 t206 t207 false _ A36.out).mono ?_);rintro e w53 ⟨rfl,hb⟩;refine ⟨_,rfl,?_⟩;have n0_:=Aside0.mk (Kd.R_below (by (with_reducible repeat (first|apply Kd.R_alloc|apply Kd.R_drewN|apply Kd.R_drew));exact (Kd.R_mono (Kd.R_far (p:=⟨gb220,3,none⟩) (Kd.R_far (p:=⟨gb220,2,none⟩) (Kd.R_far (p:=⟨gb220,1,none⟩) (Kd.R_far (p:=⟨gb220,0,none⟩) (Kd.R_mono HO203.out (fun k_ hk => (⟨hk,hk.2⟩ : _ ∧ k_ ≠ gb220))) (fun _ hk => hk.2) (.int .i64 t215)) (fun _ hk => hk.2) (.string t216)) (fun _ hk => hk.2) (.int .i64 t217)) (fun _ hk => hk.2) (.string t218)) (fun _ h_ => h_.1))) hb);have n1_:=Aside0.mk (Kd.R_below (by (with_reducible repeat (first|apply Kd.R_alloc|apply Kd.R_drewN|apply Kd.R_drew));exact (Kd.R_mono (Kd.R_far (p:=⟨gb220,3,none⟩) (Kd.R_far (p:=⟨gb220,2,none⟩) (Kd.R_far (p:=⟨gb220,1,none⟩) (Kd.R_far (p:=⟨gb220,0,none⟩) (Kd.R_mono HO213.out (fun k_ hk => (⟨hk,hk.2⟩ : _ ∧ k_ ≠ gb220))) (fun _ hk => hk.2) (.int .i64 t215)) (fun _ hk => hk.2) (.string t216)) (fun _ hk => hk.2) (.int .i64 t217)) (fun _ hk => hk.2) (.string t218)) (fun _ h_ => h_.1))) hb);have n2_:=Aside0.mk (blk_below (g:=gb198) (o:=.cells #[.int .i64 a0_0,.slice A0_1 l0_1.length c0_1] 24 (0,0)) (by (with_reducible repeat (first|refine blk_drewN ?_ _|refine blk_drew ?_|refine blk_alloc ?_ _));refine blk_far ?_ NB198_220.out _;(with_reducible repeat (first|refine blk_drewN ?_ _|refine blk_drew ?_|refine blk_alloc ?_ _));refine blk_far ?_ NB198_220.out _;(with_reducible repeat (first|refine blk_drewN ?_ _|refine blk_drew ?_|refine blk_alloc ?_ _));refine blk_far ?_ NB198_220.out _;(with_reducible repeat (first|refine blk_drewN ?_ _|refine blk_drew ?_|refine blk_alloc ?_ _));refine blk_far ?_ NB198_220.out _;(with_reducible repeat (first|refine blk_drewN ?_ _|refine blk_drew ?_|refine blk_alloc ?_ _));exact BK198.out) hb);have n3_:=Aside0.mk (blk_below (g:=gb209) (o:=.cells #[.int .i64 t204,.string t205,.int .i64 t206,.string t207] 36 (0,0)) (by (with_reducible repeat (first|refine blk_drewN ?_ _|refine blk_drew ?_|refine blk_alloc ?_ _));refine blk_far ?_ NB209_220.out _;(with_reducible repeat (first|refine blk_drewN ?_ _|refine blk_drew ?_|refine blk_alloc ?_ _));refine blk_far ?_ NB209_220.out _;(with_reducible repeat (first|refine blk_drewN ?_ _|refine blk_drew ?_|refine blk_alloc ?_ _));refine blk_far ?_ NB209_220.out _;(with_reducible repeat (first|refine blk_drewN ?_ _|refine blk_drew ?_|refine blk_alloc ?_ _));refine blk_far ?_ NB209_220.out _;(with_reducible repeat (first|refine blk_drewN ?_ _|refine blk_drew ?_|refine blk_alloc ?_ _));exact BK209.out) hb);have n4_:=Aside0.mk (blk_below (g:=gb214) (o:=.cells #[.int .i64 t210,.slice Ao29 t211.length co29] 29 (0,0)) (by (with_reducible repeat (first|refine blk_drewN ?_ _|refine blk_drew ?_|refine blk_alloc ?_ _));refine blk_far ?_ NB214_220.out _;(with_reducible repeat (first|refine blk_drewN ?_ _|refine blk_drew ?_|refine blk_alloc ?_ _));refine blk_far ?_ NB214_220.out _;(with_reducible repeat (first|refine blk_drewN ?_ _|refine blk_drew ?_|refine blk_alloc ?_ _));refine blk_far ?_ NB214_220.out _;(with_reducible repeat (first|refine blk_drewN ?_ _|refine blk_drew ?_|refine blk_alloc ?_ _));refine blk_far ?_ NB214_220.out _;(with_reducible repeat (first|refine blk_drewN ?_ _|refine blk_drew ?_|refine blk_alloc ?_ _));exact BK214.out) hb);have n5_:=Aside0.mk (blk_below (g:=gb220) (o:=.cells #[.int .i64 t215,.string t216,.int .i64 t217,.string t218] 36 (0,0)) (by (with_reducible repeat (first|refine blk_drewN ?_ _|refine blk_drew ?_|refine blk_alloc ?_ _));refine blk_put (cs:=#[.int .i64 t215,.string t216,.int .i64 t217,.string (⟨#[]⟩ : ByteArray)]) ?_ 3 _ rfl;(with_reducible repeat (first|refine blk_drewN ?_ _|refine blk_drew ?_|refine blk_alloc ?_ _));refine blk_put (cs:=#[.int .i64 t215,.string t216,.int .i64 0,.string (⟨#[]⟩ : ByteArray)]) ?_ 2 _ rfl;(with_reducible repeat (first|refine blk_drewN ?_ _|refine blk_drew ?_|refine blk_alloc ?_ _));refine blk_put (cs:=#[.int .i64 t215,.string (⟨#[]⟩ : ByteArray),.int .i64 0,.string (⟨#[]⟩ : ByteArray)]) ?_ 1 _ rfl;(with_reducible repeat (first|refine blk_drewN ?_ _|refine blk_drew ?_|refine blk_alloc ?_ _));refine blk_put (cs:=#[.int .i64 0,.string (⟨#[]⟩ : ByteArray),.int .i64 0,.string (⟨#[]⟩ : ByteArray)]) ?_ 0 _ rfl;(with_reducible repeat (first|refine blk_drewN ?_ _|refine blk_drew ?_|refine blk_alloc ?_ _));exact BK220.out) hb);have n6_:=Aside0.mk (below_step (by repeat (first|(with_reducible first|exact HB.out|apply below_alloc|apply pw_below_drewN|apply below_drew1|refine below_set ?_ GE198.out|refine below_set ?_ GE209.out|refine below_set ?_ GE214.out|refine below_set ?_ GE220.out)|exact HB.out)) hb);clear HO203 HO213 BK198 BK209 BK214 BK220 HB;have HO203:=n0_;have HO213:=n1_;have BK198:=n2_;have BK209:=n3_;have BK214:=n4_;have BK220:=n5_;have HB:=n6_;clear n0_ n1_ n2_ n3_ n4_ n5_ n6_;(try clear hb);(try clear hb2);(try clear hk);(try clear hi)))
    go_meet
    case rel => exact ⟨_,(true),(by first|rfl|(simp;done)|(simp [*];done)),H',⟨by first|omega|exact Nat.le_refl _⟩,⟨by (with_reducible repeat (first|apply Kd.R_alloc|apply Kd.R_drewN|apply Kd.R_drew));exact Kd.R_mono HO213.out (fun _ hk => ⟨hk.1.2,hk.2⟩)⟩,⟨by (with_reducible repeat (first|refine blk_drewN ?_ _|refine blk_drew ?_|refine blk_alloc ?_ _));exact BK198.out⟩,⟨by (with_reducible repeat (first|refine blk_drewN ?_ _|refine blk_drew ?_|refine blk_alloc ?_ _));exact BK209.out⟩,⟨by (with_reducible repeat (first|refine blk_drewN ?_ _|refine blk_drew ?_|refine blk_alloc ?_ _));exact BK214.out⟩,⟨by (with_reducible repeat (first|refine blk_drewN ?_ _|refine blk_drew ?_|refine blk_alloc ?_ _));exact BK220.out⟩,⟨by repeat (first|(with_reducible first|exact HB.out|apply below_alloc|apply pw_below_drewN|apply below_drew1|refine below_set ?_ GE198.out|refine below_set ?_ GE209.out|refine below_set ?_ GE214.out|refine below_set ?_ GE220.out)|exact HB.out)⟩⟩
  case rest =>
   clear HC12
   try clear c1
   try clear c2
   try clear p2
   try clear c3
   try clear c4
   try clear c4b0
   try clear c5
   try clear c13
   try clear c15
   try clear c20
   try clear c21
   try clear c22
   try clear c26
   try clear c27
   try clear c32
   try clear c33
   try clear c34
   try clear c37
   try clear c38
   try clear c39
   try clear c40
   try clear c42
   try clear c43
   try clear c46
   try clear c47
   try clear c48
   try clear c50
   try clear c51
   try clear hcz14_0
   try clear hcz14_1
   try clear hcz16_0
   try clear hcz16_1
   try clear hcz22_0
   try clear hcz22_1
   try clear hcz22_2
   try clear hcz22_3
   try clear hcz23_0
   try clear hcz23_1
   try clear hcz28_0
   try clear hcz28_1
   try clear hcz35_0
   try clear hcz35_1
   try clear hcz35_2
   try clear hcz35_3
   try clear hcz41_0
   try clear hcz41_1
   try clear hcz41_2
   try clear hcz41_3
   try clear hcz44_0
   try clear hcz44_1
   try clear hcz44_2
   try clear hcz44_3
   try clear hcz49_0
   try clear hcz49_1
   try clear hcz49_2
   try clear hcz49_3
   try clear hcz52_0
   try clear hcz52_1
   try clear hcz52_2
   try clear hcz52_3
   try clear hcz6_0
   try clear hcz6_1
   try clear hfz14_0
   try clear hfz14_1
   try clear hfz16_0
   try clear hfz16_1
   try clear hfz22_0
   try clear hfz22_1
   try clear hfz22_2
   try clear hfz22_3
   try clear hfz23_0
   try clear hfz23_1
   try clear hfz28_0
   try clear hfz28_1
   try clear hfz35_0
   try clear hfz35_1
   try clear hfz35_2
   try clear hfz35_3
   try clear hfz41_0
   try clear hfz41_1
   try clear hfz41_2
   try clear hfz41_3
   try clear hfz44_0
   try clear hfz44_1
   try clear hfz44_2
   try clear hfz44_3
   try clear hfz49_0
   try clear hfz49_1
   try clear hfz49_2
   try clear hfz49_3
   try clear hfz52_0
   try clear hfz52_1
   try clear hfz52_2
   try clear hfz52_3
   try clear hfz6_0
   try clear hfz6_1
   obtain ⟨kq,x39_11,rfl,HA,HJ11,HO_215001,BK198,BK209,BK214,BK220,HB⟩:=hcut
   cases kq with
   | zero => exact absurd HA.out (by simp [laws_FnExactCatEdition.j0])
   | succ kj11 =>
    have H := HA.out
    clear HA
    simp only [laws_FnExactCatEdition.j0] at H
    by_cases c54 : x39_11 = true
    ·subst c54
     have H1 : (some false) = some r:=by rw [if_pos rfl] at H;exact H
     clear H
     have H := H1
     clear H1
     obtain rfl := Option.some.inj H
     go_wp2
     go_ret
     exact ⟨by first|rfl|(simp [errW_none,errW_some] <;> rfl)|(simp [*,errW_none,errW_some] <;> rfl),by repeat (first|(with_reducible first|exact HB.out|apply below_alloc|apply pw_below_drewN|apply below_drew1|refine below_set ?_ GE198.out|refine below_set ?_ GE209.out|refine below_set ?_ GE214.out|refine below_set ?_ GE220.out)|exact HB.out)⟩
    ·replace c54 := Bool.eq_false_iff.mpr c54
     subst c54
     have H1 : ((laws_toCat.f kj11 a0_0 l0_1).bind fun bt222 => ((laws_eqCat.f kj11 t210 t211 bt222.1 bt222.2).bind fun t226 => (if t226 = true then (some true) else (some false)))) = some r:=by rw [if_neg (show ¬ (false = true) by decide)] at H;exact H
     clear H
     have H := H1
     clear H1
     replace H := Option.bind_eq_some_iff.mp H
     obtain ⟨⟨t222, t223⟩, A550, H⟩ := H
     replace H : ((laws_eqCat.f kj11 t210 t211 t222 t223).bind fun t226 => (if t226 = true then (some true) else (some false))) = some r:=H
     have A55 := Aside0.mk A550
     clear A550
     replace H := Option.bind_eq_some_iff.mp H
     obtain ⟨t226, A560, H⟩ := H
     replace H : (if t226 = true then (some true) else (some false)) = some r:=H
     have A56 := Aside0.mk A560
     clear A560
     by_cases c57 : t226 = true
     ·subst c57
      have H1 : (some true) = some r:=by rw [if_pos rfl] at H;exact H
      clear H
      have H := H1
      clear H1
      obtain rfl := Option.some.inj H
      try go_wp2
      have n0_ := Aside0.mk (Kd.R_drew HO_215001.out)
      have n1_ := Aside0.mk (blk_drew BK198.out)
      have n2_ := Aside0.mk (blk_drew BK209.out)
      have n3_ := Aside0.mk (blk_drew BK214.out)
      have n4_ := Aside0.mk (blk_drew BK220.out)
      have n5_ := Aside0.mk (below_drew1 HB.out)
      clear HO_215001
      clear BK198
      clear BK209
      clear BK214
      clear BK220
      clear HB
      have HO_215001 := n0_
      have BK198 := n1_
      have BK209 := n2_
      have BK214 := n3_
      have BK220 := n4_
      have HB := n5_
      clear n0_ n1_ n2_ n3_ n4_ n5_
      refine start_ (n:=5) (S:=fun w' => w'.cell? ⟨gb214,0,none⟩ = some (.int .i64 t210) ∧ w'.cell? ⟨gb214,1,none⟩ = some (.slice Ao29 t211.length co29) ∧ w'.cell? ⟨gb198,0,none⟩ = some (.int .i64 a0_0) ∧ w'.cell? ⟨gb198,1,none⟩ = some (.slice A0_1 l0_1.length c0_1)) (ds:=[]) #[false,false,false,false,false] (by kernel_rfl) rfl rfl ⟨(blk_cell BK214.out 0).trans rfl,(blk_cell BK214.out 1).trans rfl,(blk_cell BK198.out 0).trans rfl,(blk_cell BK198.out 1).trans rfl⟩ (fun hHeld => ?_)
      generalize wc.drew = w58 at HO_215001 BK198 BK209 BK214 BK220 HB hHeld ⊢
      refine take_ (i:=0) (N:=some 40) (v:=?_) (a':=?_) #[true,false,false,false,false] rfl rfl (by kernel_rfl) (fun _ _ _ h => h) (Or.inl ⟨by rfl,?_⟩) hHeld ?_ ?_
      rotate_left
      ·rintro w' ⟨s0, s1, s2, s3⟩
       go_simp
       with_reducible rfl
      rotate_left
      ·simp only [Act.put,List.setIfInBounds_toArray,List.set_cons_zero,List.set_cons_succ,i64_w,i32_w]
       rfl
      refine take_ (i:=1) (N:=some 41) (v:=?_) (a':=?_) #[true,true,false,false,false] rfl rfl (by kernel_rfl) (fun _ _ _ h => h) (Or.inl ⟨by rfl,?_⟩) hHeld ?_ ?_
      rotate_left
      ·rintro w' ⟨s0, s1, s2, s3⟩
       go_simp
       with_reducible rfl
      rotate_left
      ·simp only [Act.put,List.setIfInBounds_toArray,List.set_cons_zero,List.set_cons_succ,i64_w,i32_w]
       rfl
      refine one_ (i:=2) (N:=some 42) #[true,true,true,false,false] rfl rfl (by kernel_rfl) (by decide) (fun K hK => ?_)
      refine goes_ Try.func15 (by kernel_rfl) rfl #[.agg #[.int .i64 a0_0,.slice A0_1 l0_1.length c0_1]] (by rfl) rfl rfl (by (try simp only [List.map_toArray,List.map_cons,List.map_nil]);first|done|rfl|(simp only [List.length_drop,List.length_take];rfl)) ?_
      with_reducible refine (laws_toCat.calls kj11 a0_0 _ _ l0_1 t222 t223 _ ?side1 ?side2 A55.out).mono ?_
      (case side1 => repeat (first|exact (Kd.C_below HR0_1.out HB.out)|(with_reducible refine Kd.C_alloc ?_ _)|(with_reducible refine Kd.C_drewN ?_ _)|(with_reducible refine Kd.C_drew ?_)))
      (case side2 => exact HC0_1.out)
      rintro e w59 ⟨v224, rfl, ho0, hb⟩
      refine ⟨_, rfl, ?_⟩
      have n0_:=Aside0.mk (Kd.R_elder' (by (with_reducible repeat (first|apply Kd.R_alloc|apply Kd.R_drewN|apply Kd.R_drew));exact HO_215001.out) (Kd.R_base ho0) hb)
      have n1_:=Aside0.mk (Kd.R_lower (Kd.R_newB (Kd.R_newB (Kd.R_new' ho0 (Kd.R_lt (by (with_reducible repeat (first|apply Kd.R_alloc|apply Kd.R_drewN|apply Kd.R_drew));exact HO_215001.out))) (g:=gb209) (o:=.cells #[.int .i64 t204,.string t205,.int .i64 t206,.string t207] 36 (0,0)) (by (with_reducible repeat (first|refine blk_drewN ?_ _|refine blk_drew ?_|refine blk_alloc ?_ _));exact BK209.out)) (g:=gb220) (o:=.cells #[.int .i64 t215,.string t216,.int .i64 t217,.string t218] 36 (0,0)) (by (with_reducible repeat (first|refine blk_drewN ?_ _|refine blk_drew ?_|refine blk_alloc ?_ _));exact BK220.out)) (below_size (by repeat (first|(with_reducible first|exact HB.out|apply below_alloc|apply pw_below_drewN|apply below_drew1|refine below_set ?_ GE198.out|refine below_set ?_ GE209.out|refine below_set ?_ GE214.out|refine below_set ?_ GE220.out)|exact HB.out))))
      have n2_:=Aside0.mk (blk_below (g:=gb198) (o:=.cells #[.int .i64 a0_0,.slice A0_1 l0_1.length c0_1] 24 (0,0)) (by (with_reducible repeat (first|refine blk_drewN ?_ _|refine blk_drew ?_|refine blk_alloc ?_ _));exact BK198.out) hb)
      have n3_:=Aside0.mk (blk_below (g:=gb209) (o:=.cells #[.int .i64 t204,.string t205,.int .i64 t206,.string t207] 36 (0,0)) (by (with_reducible repeat (first|refine blk_drewN ?_ _|refine blk_drew ?_|refine blk_alloc ?_ _));exact BK209.out) hb)
      have n4_:=Aside0.mk (blk_below (g:=gb214) (o:=.cells #[.int .i64 t210,.slice Ao29 t211.length co29] 29 (0,0)) (by (with_reducible repeat (first|refine blk_drewN ?_ _|refine blk_drew ?_|refine blk_alloc ?_ _));exact BK214.out) hb)
      have n5_:=Aside0.mk (blk_below (g:=gb220) (o:=.cells #[.int .i64 t215,.string t216,.int .i64 t217,.string t218] 36 (0,0)) (by (with_reducible repeat (first|refine blk_drewN ?_ _|refine blk_drew ?_|refine blk_alloc ?_ _));exact BK220.out) hb)
      have n6_:=Aside0.mk (below_step (by repeat (first|(with_reducible first|exact HB.out|apply below_alloc|apply pw_below_drewN|apply below_drew1|refine below_set ?_ GE198.out|refine below_set ?_ GE209.out|refine below_set ?_ GE214.out|refine below_set ?_ GE220.out)|exact HB.out)) hb)
      clear HO_215001
      clear BK198
      clear BK209
      clear BK214
      clear BK220
      clear HB
      have HO_215001 := n0_
      have HO225 := n1_
      have BK198 := n2_
      have BK209 := n3_
      have BK214 := n4_
      have BK220 := n5_
      have HB := n6_
      clear n0_ n1_ n2_ n3_ n4_ n5_ n6_
      (try clear hb)
      (try clear hb2)
      (try clear hk)
      (try clear hi)
      (try clear ho0)
      obtain ⟨Ao60, co60, eo60⟩ := Kd.R_slice HO225.out
      (first|subst eo60|(injection eo60 with f1_ f2_ f3_;have f4_:=f1_.symm;have f5_:=f3_.symm;clear f1_ f2_ f3_;subst f4_;subst f5_))
      refine hK.out _ _ ⟨(blk_cell BK214.out 0).trans rfl,(blk_cell BK214.out 1).trans rfl,(blk_cell BK198.out 0).trans rfl,(blk_cell BK198.out 1).trans rfl⟩ (fun hHeld => ?_)
      clear hK K
      refine norm_ (a' := ?_) ?_ ?_
      rotate_left
      ·show Act.put _ (some 42) _ = _
       simp only [Act.put,List.setIfInBounds_toArray,List.set_cons_zero,List.set_cons_succ,i64_w,i32_w]
       rfl
      refine one_ (i:=3) (N:=some 43) #[true,true,true,true,false] rfl rfl (by kernel_rfl) (by decide) (fun K hK => ?_)
      refine goes_ Try.func17 (by kernel_rfl) rfl #[.agg #[.int .i64 t210,.slice Ao29 t211.length co29],.agg #[.int .i64 t222,.slice Ao60 t223.length co60]] (by rfl) rfl rfl (by (try simp only [List.map_toArray,List.map_cons,List.map_nil]);first|done|rfl|(simp only [List.length_drop,List.length_take];rfl)) ?_
      with_reducible refine (laws_eqCat.calls kj11 t210 _ _ t211 t222 _ _ t223 true _ ?side1 ?side2 ?side3 ?side4 A56.out).mono ?_
      (case side1 => repeat (first|exact (Kd.R_reads' HO_215001.out).2.2|(with_reducible refine Kd.C_alloc ?_ _)|(with_reducible refine Kd.C_drewN ?_ _)|(with_reducible refine Kd.C_drew ?_)))
      (case side2 => exact (Kd.R_reads' HO_215001.out).2.1)
      (case side3 => repeat (first|exact (Kd.R_reads' HO225.out).2.2|(with_reducible refine Kd.C_alloc ?_ _)|(with_reducible refine Kd.C_drewN ?_ _)|(with_reducible refine Kd.C_drew ?_)))
      (case side4 => exact (Kd.R_reads' HO225.out).2.1)
      rintro e w61 ⟨rfl, hb⟩
      refine ⟨_, rfl, ?_⟩
      have n0_:=Aside0.mk (Kd.R_below (by (with_reducible repeat (first|apply Kd.R_alloc|apply Kd.R_drewN|apply Kd.R_drew));exact HO_215001.out) hb)
      have n1_:=Aside0.mk (Kd.R_below (by (with_reducible repeat (first|apply Kd.R_alloc|apply Kd.R_drewN|apply Kd.R_drew));exact HO225.out) hb)
      have n2_:=Aside0.mk (blk_below (g:=gb198) (o:=.cells #[.int .i64 a0_0,.slice A0_1 l0_1.length c0_1] 24 (0,0)) (by (with_reducible repeat (first|refine blk_drewN ?_ _|refine blk_drew ?_|refine blk_alloc ?_ _));exact BK198.out) hb)
      have n3_:=Aside0.mk (blk_below (g:=gb209) (o:=.cells #[.int .i64 t204,.string t205,.int .i64 t206,.string t207] 36 (0,0)) (by (with_reducible repeat (first|refine blk_drewN ?_ _|refine blk_drew ?_|refine blk_alloc ?_ _));exact BK209.out) hb)
      have n4_:=Aside0.mk (blk_below (g:=gb214) (o:=.cells #[.int .i64 t210,.slice Ao29 t211.length co29] 29 (0,0)) (by (with_reducible repeat (first|refine blk_drewN ?_ _|refine blk_drew ?_|refine blk_alloc ?_ _));exact BK214.out) hb)
      have n5_:=Aside0.mk (blk_below (g:=gb220) (o:=.cells #[.int .i64 t215,.string t216,.int .i64 t217,.string t218] 36 (0,0)) (by (with_reducible repeat (first|refine blk_drewN ?_ _|refine blk_drew ?_|refine blk_alloc ?_ _));exact BK220.out) hb)
      have n6_:=Aside0.mk (below_step (by repeat (first|(with_reducible first|exact HB.out|apply below_alloc|apply pw_below_drewN|apply below_drew1|refine below_set ?_ GE198.out|refine below_set ?_ GE209.out|refine below_set ?_ GE214.out|refine below_set ?_ GE220.out)|exact HB.out)) hb)
      clear HO_215001
      clear HO225
      clear BK198
      clear BK209
      clear BK214
      clear BK220
      clear HB
      have HO_215001 := n0_
      have HO225 := n1_
      have BK198 := n2_
      have BK209 := n3_
      have BK214 := n4_
      have BK220 := n5_
      have HB := n6_
      clear n0_ n1_ n2_ n3_ n4_ n5_ n6_
      (try clear hb)
      (try clear hb2)
      (try clear hk)
      (try clear hi)
      refine hK.out _ _ ⟨(blk_cell BK214.out 0).trans rfl,(blk_cell BK214.out 1).trans rfl,(blk_cell BK198.out 0).trans rfl,(blk_cell BK198.out 1).trans rfl⟩ (fun hHeld => ?_)
      clear hK K
      refine norm_ (a' := ?_) ?_ ?_
      rotate_left
      ·show Act.put _ (some 43) _ = _
       simp only [Act.put,List.setIfInBounds_toArray,List.set_cons_zero,List.set_cons_succ,i64_w,i32_w]
       rfl
      refine pure_ (i:=4) (N:=some 44) (v:=?_) (a':=?_) #[true,true,true,true,true] rfl rfl (by kernel_rfl) (fun _ _ _ h => h) (Or.inl ⟨by rfl,?_⟩) ?_ ?_
      rotate_left
      ·intro w'
       go_simp
       with_reducible rfl
      rotate_left
      ·simp only [Act.put,List.setIfInBounds_toArray,List.set_cons_zero,List.set_cons_succ,i64_w,i32_w]
       rfl
      refine done_ (by kernel_rfl) ?_
      try go_wp2
      go_ret
      exact ⟨by first|rfl|(simp [errW_none,errW_some] <;> rfl)|(simp [*,errW_none,errW_some] <;> rfl),by repeat (first|(with_reducible first|exact HB.out|apply below_alloc|apply pw_below_drewN|apply below_drew1|refine below_set ?_ GE198.out|refine below_set ?_ GE209.out|refine below_set ?_ GE214.out|refine below_set ?_ GE220.out)|exact HB.out)⟩
     ·replace c57 := Bool.eq_false_iff.mpr c57
      subst c57
      have H1 : (some false) = some r:=by rw [if_neg (show ¬ (false = true) by decide)] at H;exact H
      clear H
      have H := H1
      clear H1
      obtain rfl := Option.some.inj H
      try go_wp2
      have n0_ := Aside0.mk (Kd.R_drew HO_215001.out)
      have n1_ := Aside0.mk (blk_drew BK198.out)
      have n2_ := Aside0.mk (blk_drew BK209.out)
      have n3_ := Aside0.mk (blk_drew BK214.out)
      have n4_ := Aside0.mk (blk_drew BK220.out)
      have n5_ := Aside0.mk (below_drew1 HB.out)
      clear HO_215001
      clear BK198
      clear BK209
      clear BK214
      clear BK220
      clear HB
      have HO_215001 := n0_
      have BK198 := n1_
      have BK209 := n2_
      have BK214 := n3_
      have BK220 := n4_
      have HB := n5_
      clear n0_ n1_ n2_ n3_ n4_ n5_
      refine start_ (n:=5) (S:=fun w' => w'.cell? ⟨gb214,0,none⟩ = some (.int .i64 t210) ∧ w'.cell? ⟨gb214,1,none⟩ = some (.slice Ao29 t211.length co29) ∧ w'.cell? ⟨gb198,0,none⟩ = some (.int .i64 a0_0) ∧ w'.cell? ⟨gb198,1,none⟩ = some (.slice A0_1 l0_1.length c0_1)) (ds:=[]) #[false,false,false,false,false] (by kernel_rfl) rfl rfl ⟨(blk_cell BK214.out 0).trans rfl,(blk_cell BK214.out 1).trans rfl,(blk_cell BK198.out 0).trans rfl,(blk_cell BK198.out 1).trans rfl⟩ (fun hHeld => ?_)
      generalize wc.drew = w62 at HO_215001 BK198 BK209 BK214 BK220 HB hHeld ⊢
      refine take_ (i:=0) (N:=some 40) (v:=?_) (a':=?_) #[true,false,false,false,false] rfl rfl (by kernel_rfl) (fun _ _ _ h => h) (Or.inl ⟨by rfl,?_⟩) hHeld ?_ ?_
      rotate_left
      ·rintro w' ⟨s0, s1, s2, s3⟩
       go_simp
       with_reducible rfl
      rotate_left
      ·simp only [Act.put,List.setIfInBounds_toArray,List.set_cons_zero,List.set_cons_succ,i64_w,i32_w]
       rfl
      refine take_ (i:=1) (N:=some 41) (v:=?_) (a':=?_) #[true,true,false,false,false] rfl rfl (by kernel_rfl) (fun _ _ _ h => h) (Or.inl ⟨by rfl,?_⟩) hHeld ?_ ?_
      rotate_left
      ·rintro w' ⟨s0, s1, s2, s3⟩
       go_simp
       with_reducible rfl
      rotate_left
      ·simp only [Act.put,List.setIfInBounds_toArray,List.set_cons_zero,List.set_cons_succ,i64_w,i32_w]
       rfl
      refine one_ (i:=2) (N:=some 42) #[true,true,true,false,false] rfl rfl (by kernel_rfl) (by decide) (fun K hK => ?_)
      refine goes_ Try.func15 (by kernel_rfl) rfl #[.agg #[.int .i64 a0_0,.slice A0_1 l0_1.length c0_1]] (by rfl) rfl rfl (by (try simp only [List.map_toArray,List.map_cons,List.map_nil]);first|done|rfl|(simp only [List.length_drop,List.length_take];rfl)) ?_
      with_reducible refine (laws_toCat.calls kj11 a0_0 _ _ l0_1 t222 t223 _ ?side1 ?side2 A55.out).mono ?_
      (case side1 => repeat (first|exact (Kd.C_below HR0_1.out HB.out)|(with_reducible refine Kd.C_alloc ?_ _)|(with_reducible refine Kd.C_drewN ?_ _)|(with_reducible refine Kd.C_drew ?_)))
      (case side2 => exact HC0_1.out)
      rintro e w63 ⟨v224, rfl, ho0, hb⟩
      refine ⟨_, rfl, ?_⟩
      have n0_:=Aside0.mk (Kd.R_elder' (by (with_reducible repeat (first|apply Kd.R_alloc|apply Kd.R_drewN|apply Kd.R_drew));exact HO_215001.out) (Kd.R_base ho0) hb)
      have n1_:=Aside0.mk (Kd.R_lower (Kd.R_newB (Kd.R_newB (Kd.R_new' ho0 (Kd.R_lt (by (with_reducible repeat (first|apply Kd.R_alloc|apply Kd.R_drewN|apply Kd.R_drew));exact HO_215001.out))) (g:=gb209) (o:=.cells #[.int .i64 t204,.string t205,.int .i64 t206,.string t207] 36 (0,0)) (by (with_reducible repeat (first|refine blk_drewN ?_ _|refine blk_drew ?_|refine blk_alloc ?_ _));exact BK209.out)) (g:=gb220) (o:=.cells #[.int .i64 t215,.string t216,.int .i64 t217,.string t218] 36 (0,0)) (by (with_reducible repeat (first|refine blk_drewN ?_ _|refine blk_drew ?_|refine blk_alloc ?_ _));exact BK220.out)) (below_size (by repeat (first|(with_reducible first|exact HB.out|apply below_alloc|apply pw_below_drewN|apply below_drew1|refine below_set ?_ GE198.out|refine below_set ?_ GE209.out|refine below_set ?_ GE214.out|refine below_set ?_ GE220.out)|exact HB.out))))
      have n2_:=Aside0.mk (blk_below (g:=gb198) (o:=.cells #[.int .i64 a0_0,.slice A0_1 l0_1.length c0_1] 24 (0,0)) (by (with_reducible repeat (first|refine blk_drewN ?_ _|refine blk_drew ?_|refine blk_alloc ?_ _));exact BK198.out) hb)
      have n3_:=Aside0.mk (blk_below (g:=gb209) (o:=.cells #[.int .i64 t204,.string t205,.int .i64 t206,.string t207] 36 (0,0)) (by (with_reducible repeat (first|refine blk_drewN ?_ _|refine blk_drew ?_|refine blk_alloc ?_ _));exact BK209.out) hb)
      have n4_:=Aside0.mk (blk_below (g:=gb214) (o:=.cells #[.int .i64 t210,.slice Ao29 t211.length co29] 29 (0,0)) (by (with_reducible repeat (first|refine blk_drewN ?_ _|refine blk_drew ?_|refine blk_alloc ?_ _));exact BK214.out) hb)
      have n5_:=Aside0.mk (blk_below (g:=gb220) (o:=.cells #[.int .i64 t215,.string t216,.int .i64 t217,.string t218] 36 (0,0)) (by (with_reducible repeat (first|refine blk_drewN ?_ _|refine blk_drew ?_|refine blk_alloc ?_ _));exact BK220.out) hb)
      have n6_:=Aside0.mk (below_step (by repeat (first|(with_reducible first|exact HB.out|apply below_alloc|apply pw_below_drewN|apply below_drew1|refine below_set ?_ GE198.out|refine below_set ?_ GE209.out|refine below_set ?_ GE214.out|refine below_set ?_ GE220.out)|exact HB.out)) hb)
      clear HO_215001
      clear BK198
      clear BK209
      clear BK214
      clear BK220
      clear HB
      have HO_215001 := n0_
      have HO225 := n1_
      have BK198 := n2_
      have BK209 := n3_
      have BK214 := n4_
      have BK220 := n5_
      have HB := n6_
      clear n0_ n1_ n2_ n3_ n4_ n5_ n6_
      (try clear hb)
      (try clear hb2)
      (try clear hk)
      (try clear hi)
      (try clear ho0)
      obtain ⟨Ao64, co64, eo64⟩ := Kd.R_slice HO225.out
      (first|subst eo64|(injection eo64 with f1_ f2_ f3_;have f4_:=f1_.symm;have f5_:=f3_.symm;clear f1_ f2_ f3_;subst f4_;subst f5_))
      refine hK.out _ _ ⟨(blk_cell BK214.out 0).trans rfl,(blk_cell BK214.out 1).trans rfl,(blk_cell BK198.out 0).trans rfl,(blk_cell BK198.out 1).trans rfl⟩ (fun hHeld => ?_)
      clear hK K
      refine norm_ (a' := ?_) ?_ ?_
      rotate_left
      ·show Act.put _ (some 42) _ = _
       simp only [Act.put,List.setIfInBounds_toArray,List.set_cons_zero,List.set_cons_succ,i64_w,i32_w]
       rfl
      refine one_ (i:=3) (N:=some 43) #[true,true,true,true,false] rfl rfl (by kernel_rfl) (by decide) (fun K hK => ?_)
      refine goes_ Try.func17 (by kernel_rfl) rfl #[.agg #[.int .i64 t210,.slice Ao29 t211.length co29],.agg #[.int .i64 t222,.slice Ao64 t223.length co64]] (by rfl) rfl rfl (by (try simp only [List.map_toArray,List.map_cons,List.map_nil]);first|done|rfl|(simp only [List.length_drop,List.length_take];rfl)) ?_
      with_reducible refine (laws_eqCat.calls kj11 t210 _ _ t211 t222 _ _ t223 false _ ?side1 ?side2 ?side3 ?side4 A56.out).mono ?_
      (case side1 => repeat (first|exact (Kd.R_reads' HO_215001.out).2.2|(with_reducible refine Kd.C_alloc ?_ _)|(with_reducible refine Kd.C_drewN ?_ _)|(with_reducible refine Kd.C_drew ?_)))
      (case side2 => exact (Kd.R_reads' HO_215001.out).2.1)
      (case side3 => repeat (first|exact (Kd.R_reads' HO225.out).2.2|(with_reducible refine Kd.C_alloc ?_ _)|(with_reducible refine Kd.C_drewN ?_ _)|(with_reducible refine Kd.C_drew ?_)))
      (case side4 => exact (Kd.R_reads' HO225.out).2.1)
      rintro e w65 ⟨rfl, hb⟩
      refine ⟨_, rfl, ?_⟩
      have n0_:=Aside0.mk (Kd.R_below (by (with_reducible repeat (first|apply Kd.R_alloc|apply Kd.R_drewN|apply Kd.R_drew));exact HO_215001.out) hb)
      have n1_:=Aside0.mk (Kd.R_below (by (with_reducible repeat (first|apply Kd.R_alloc|apply Kd.R_drewN|apply Kd.R_drew));exact HO225.out) hb)
      have n2_:=Aside0.mk (blk_below (g:=gb198) (o:=.cells #[.int .i64 a0_0,.slice A0_1 l0_1.length c0_1] 24 (0,0)) (by (with_reducible repeat (first|refine blk_drewN ?_ _|refine blk_drew ?_|refine blk_alloc ?_ _));exact BK198.out) hb)
      have n3_:=Aside0.mk (blk_below (g:=gb209) (o:=.cells #[.int .i64 t204,.string t205,.int .i64 t206,.string t207] 36 (0,0)) (by (with_reducible repeat (first|refine blk_drewN ?_ _|refine blk_drew ?_|refine blk_alloc ?_ _));exact BK209.out) hb)
      have n4_:=Aside0.mk (blk_below (g:=gb214) (o:=.cells #[.int .i64 t210,.slice Ao29 t211.length co29] 29 (0,0)) (by (with_reducible repeat (first|refine blk_drewN ?_ _|refine blk_drew ?_|refine blk_alloc ?_ _));exact BK214.out) hb)
      have n5_:=Aside0.mk (blk_below (g:=gb220) (o:=.cells #[.int .i64 t215,.string t216,.int .i64 t217,.string t218] 36 (0,0)) (by (with_reducible repeat (first|refine blk_drewN ?_ _|refine blk_drew ?_|refine blk_alloc ?_ _));exact BK220.out) hb)
      have n6_:=Aside0.mk (below_step (by repeat (first|(with_reducible first|exact HB.out|apply below_alloc|apply pw_below_drewN|apply below_drew1|refine below_set ?_ GE198.out|refine below_set ?_ GE209.out|refine below_set ?_ GE214.out|refine below_set ?_ GE220.out)|exact HB.out)) hb)
      clear HO_215001
      clear HO225
      clear BK198
      clear BK209
      clear BK214
      clear BK220
      clear HB
      have HO_215001 := n0_
      have HO225 := n1_
      have BK198 := n2_
      have BK209 := n3_
      have BK214 := n4_
      have BK220 := n5_
      have HB := n6_
      clear n0_ n1_ n2_ n3_ n4_ n5_ n6_
      (try clear hb)
      (try clear hb2)
      (try clear hk)
      (try clear hi)
      refine hK.out _ _ ⟨(blk_cell BK214.out 0).trans rfl,(blk_cell BK214.out 1).trans rfl,(blk_cell BK198.out 0).trans rfl,(blk_cell BK198.out 1).trans rfl⟩ (fun hHeld => ?_)
      clear hK K
      refine norm_ (a' := ?_) ?_ ?_
      rotate_left
      ·show Act.put _ (some 43) _ = _
       simp only [Act.put,List.setIfInBounds_toArray,List.set_cons_zero,List.set_cons_succ,i64_w,i32_w]
       rfl
      refine pure_ (i:=4) (N:=some 44) (v:=?_) (a':=?_) #[true,true,true,true,true] rfl rfl (by kernel_rfl) (fun _ _ _ h => h) (Or.inl ⟨by rfl,?_⟩) ?_ ?_
      rotate_left
      ·intro w'
       go_simp
       with_reducible rfl
      rotate_left
      ·simp only [Act.put,List.setIfInBounds_toArray,List.set_cons_zero,List.set_cons_succ,i64_w,i32_w]
       rfl
      refine done_ (by kernel_rfl) ?_
      try go_wp2
      go_ret
      exact ⟨by first|rfl|(simp [errW_none,errW_some] <;> rfl)|(simp [*,errW_none,errW_some] <;> rfl),by repeat (first|(with_reducible first|exact HB.out|apply below_alloc|apply pw_below_drewN|apply below_drew1|refine below_set ?_ GE198.out|refine below_set ?_ GE209.out|refine below_set ?_ GE214.out|refine below_set ?_ GE220.out)|exact HB.out)⟩

end Go.Proofs.Ytbpmfdpbgcpjeaa.PFnExactCatEdition
