-- Written by a program of this session over the print's form. Lean checks it.
import Derived.Test.YtbpmfdpbgcpjeaaPFnExactCatGetx0
import Derived.Test.YtbpmfdpbgcpjeaaPFnExactCatGetx1
import Derived.Test.YtbpmfdpbgcpjeaaPFnExactCatGetx2
import Derived.Test.YtbpmfdpbgcpjeaaPFnExactCatGetx4
import Derived.Test.YtbpmfdpbgcpjeaaPFnExactCatGetx7
import Derived.Test.YtbpmfdpbgcpjeaaPFnExactCatGetx13
namespace Go.Proofs.Ytbpmfdpbgcpjeaa.PFnExactCatGet
open Go.RowKit Go.Proofs.YtbpmfdpbgcpjeaaW.PrintWords Go.Proofs.YtbpmfdpbgcpjeaaW.PrintLast Go.Proofs.YtbpmfdpbgcpjeaaW.PrintMore
attribute [local go_sem] max2_int min2_int max_two min_two max_three min_three max_four min_four   -- for this text's walks alone
set_option linter.unusedVariables false
set_option linter.unusedSimpArgs false

/-! ### laws_FnExactCatGet: function 6 -/
def laws_FnExactCatGet.j0 : Nat → Bool → Int → List (S78) → Int → List (S36) → Option (Bool)
 | 0, _, _, _, _, _ => none
 | k + 1, x46, x195000, x195001, x211000, x211001 => if x46 = true then (some false) else ((laws_toCat.f k x195000 x195001).bind fun bt218 => ((laws_eqCat.f k x211000 x211001 bt218.1 bt218.2).bind fun t222 => (if t222 = true then (some true) else (some false))))
def laws_FnExactCatGet.f (k : Nat) (a0_0 : Int) (l0_1 : List (S78)) (a1 : Int) (a2 : ByteArray) : Option (Bool) := if (a2.size : Int) > 1048576 then (some true) else ((laws_szCat.f k a0_0 l0_1 1048576).bind fun t195 => (if t195 < 0 then (some true) else ((laws_toCat.f k a0_0 l0_1).bind fun bt196 => ((spec_CatGet.f k bt196.1 bt196.2 a1 a2).bind fun bt200 => ((laws_toCat.f k a0_0 l0_1).bind fun bt206 => ((impl_CatGet.f k bt206.1 bt206.2 a1 a2).bind fun bt211 => ((laws_eqItem.f bt211.1 bt211.2.1 bt211.2.2.1 bt211.2.2.2.1 bt200.1 bt200.2.1 bt200.2.2.1 bt200.2.2.2.1).bind fun t217 => (if t217 = true then (laws_FnExactCatGet.j0 k (bt211.2.2.2.2 != bt200.2.2.2.2) a0_0 l0_1 bt206.1 bt206.2) else (laws_FnExactCatGet.j0 k true a0_0 l0_1 bt206.1 bt206.2)))))))))
theorem laws_FnExactCatGet.mono_l : ∀ k, (∀ y0 y1 y2 y3 y4, LeO (laws_FnExactCatGet.j0 k y0 y1 y2 y3 y4) (laws_FnExactCatGet.j0 (k + 1) y0 y1 y2 y3 y4))
 | 0 => fun _ _ _ _ _ r h => by simp [laws_FnExactCatGet.j0] at h
 | k + 1 => by
  have ih0 := laws_FnExactCatGet.mono_l k
  ·intro y0 y1 y2 y3 y4
   unfold laws_FnExactCatGet.j0
   repeat' first
   | (with_reducible exact ih0 _ _ _ _ _)
   | (with_reducible exact impl_CatGet.mono _ _ _ _ _)
   | (with_reducible exact laws_eqCat.mono _ _ _ _ _)
   | (with_reducible exact laws_szCat.mono _ _ _ _)
   | (with_reducible exact laws_toCat.mono _ _ _)
   | (with_reducible exact spec_CatGet.mono _ _ _ _ _)
   | (with_reducible exact LeO.refl _)
   | (with_reducible exact LeO.none _)
   | (with_reducible refine LeO.ite ?_ ?_)
   | (with_reducible refine LeO.bind ?_ (fun _ => ?_))
   | exact ih0 _ _ _ _ _
   | exact impl_CatGet.mono _ _ _ _ _
   | exact laws_eqCat.mono _ _ _ _ _
   | exact laws_szCat.mono _ _ _ _
   | exact laws_toCat.mono _ _ _
   | exact spec_CatGet.mono _ _ _ _ _
   | exact LeO.none _
   | refine LeO.ite ?_ ?_
   | refine LeO.bind ?_ (fun _ => ?_)
theorem laws_FnExactCatGet.mono : ∀ a0 a1 a2 a3 k, LeO (laws_FnExactCatGet.f k a0 a1 a2 a3) (laws_FnExactCatGet.f (k + 1) a0 a1 a2 a3) := by
 intro a0 a1 a2 a3 k
 have ih0 := laws_FnExactCatGet.mono_l k
 unfold laws_FnExactCatGet.f
 repeat' first
   | (with_reducible exact ih0 _ _ _ _ _)
   | (with_reducible exact impl_CatGet.mono _ _ _ _ _)
   | (with_reducible exact laws_eqCat.mono _ _ _ _ _)
   | (with_reducible exact laws_szCat.mono _ _ _ _)
   | (with_reducible exact laws_toCat.mono _ _ _)
   | (with_reducible exact spec_CatGet.mono _ _ _ _ _)
   | (with_reducible exact LeO.refl _)
   | (with_reducible exact LeO.none _)
   | (with_reducible refine LeO.ite ?_ ?_)
   | (with_reducible refine LeO.bind ?_ (fun _ => ?_))
   | exact ih0 _ _ _ _ _
   | exact impl_CatGet.mono _ _ _ _ _
   | exact laws_eqCat.mono _ _ _ _ _
   | exact laws_szCat.mono _ _ _ _
   | exact laws_toCat.mono _ _ _
   | exact spec_CatGet.mono _ _ _ _ _
   | exact LeO.none _
   | refine LeO.ite ?_ ?_
   | refine LeO.bind ?_ (fun _ => ?_)
set_option maxHeartbeats 8000000 in
set_option maxRecDepth 100000 in
theorem laws_FnExactCatGet.calls (k : Nat) (a0_0 : Int) (A0_1 : Option Addr) (c0_1 : Nat) (l0_1 : List (S78)) (a1 : Int) (a2 : ByteArray) (r : Bool) (w : World) (hr0_1 : Kd.C k78 w A0_1 l0_1.length l0_1) (hc0_1 : l0_1.length ≤ c0_1) (h : laws_FnExactCatGet.f k a0_0 l0_1 a1 a2 = some r) :
  Calls Try.prog 6 #[.agg #[.int .i64 a0_0, .slice A0_1 l0_1.length c0_1], .int .i64 a1, .string a2] w fun e w' => e = .returned (.bool r) ∧ Below w.heap.size w w' := by
 have hu24 := Try.underlying24
 have hu36 := Try.underlying36
 have hu29 := Try.underlying29
 have HR0_1 := Aside0.mk hr0_1
 have HC0_1 := Aside0.mk hc0_1
 clear hr0_1 hc0_1
 have HB := Aside0.mk (Below.refl w.heap.size w)
 have H : (if (a2.size : Int) > 1048576 then (some true) else ((laws_szCat.f k a0_0 l0_1 1048576).bind fun t195 => (if t195 < 0 then (some true) else ((laws_toCat.f k a0_0 l0_1).bind fun bt196 => ((spec_CatGet.f k bt196.1 bt196.2 a1 a2).bind fun bt200 => ((laws_toCat.f k a0_0 l0_1).bind fun bt206 => ((impl_CatGet.f k bt206.1 bt206.2 a1 a2).bind fun bt211 => ((laws_eqItem.f bt211.1 bt211.2.1 bt211.2.2.1 bt211.2.2.2.1 bt200.1 bt200.2.1 bt200.2.2.1 bt200.2.2.2.1).bind fun t217 => (if t217 = true then (laws_FnExactCatGet.j0 k (bt211.2.2.2.2 != bt200.2.2.2.2) a0_0 l0_1 bt206.1 bt206.2) else (laws_FnExactCatGet.j0 k true a0_0 l0_1 bt206.1 bt206.2)))))))))) = some r:=h
 clear h
 by_cases c4 : (a2.size : Int) > 1048576
 ·rw [if_pos c4] at H
  have c4b0 : decide (1048576 < (a2.size : Int)) = true:=decide_eq_true c4
  have c4b1 : decide (1048576 < a2.size) = true:=decide_eq_true (by omega)
  clear c4
  obtain rfl := Option.some.inj H
  go_enter Try.func6, Try.ntmps6
  go_wp2_with (first|((with_reducible refine gate_dst (N:=3) rfl ?_);refine box_event ?hg (N:=3) ?hd (cs:=#[.int .i64 a0_0,.slice A0_1 l0_1.length c0_1]) (t:=24) ?hr ?_;(case hd => rfl);(case hg => rfl);(case hr => first|(go_simp;done)|(go_simp;rfl));intro gb194 hg w5 hbox hb;have n0_:=Aside0.mk (below_step (by repeat (first|(with_reducible first|exact HB.out|apply below_alloc|apply pw_below_drewN|apply below_drew1)|exact HB.out)) hb);have n1_:=Aside0.mk (hbox);have n2_:=Aside0.mk ((by rw [hg];exact (below_size (by repeat (first|(with_reducible first|exact HB.out|apply below_alloc|apply pw_below_drewN|apply below_drew1)|exact HB.out))) : w.heap.size ≤ gb194));have n3_:=Aside0.mk ((by rw [hg];exact (below_size (by repeat (first|(with_reducible first|exact HB.out|apply below_alloc|apply pw_below_drewN|apply below_drew1)|exact HB.out))) : w.heap.size ≤ gb194));clear HB;have HB:=n0_;have BK194:=n1_;have GW194:=n2_;have GE194:=n3_;clear n0_ n1_ n2_ n3_;clear hb hbox hg))
  go_ret
  exact ⟨by first|rfl|(simp [errW_none,errW_some] <;> rfl)|(simp [*,errW_none,errW_some] <;> rfl),by repeat (first|(with_reducible first|exact HB.out|apply below_alloc|apply pw_below_drewN|apply below_drew1|refine below_set ?_ GE194.out)|exact HB.out)⟩
 ·rw [if_neg c4] at H
  have c4b0 : decide (1048576 < (a2.size : Int)) = false:=decide_eq_false c4
  have c4b1 : decide (1048576 < a2.size) = false:=decide_eq_false (by omega)
  clear c4
  replace H := Option.bind_eq_some_iff.mp H
  obtain ⟨t195, A60, H⟩ := H
  replace H : (if t195 < 0 then (some true) else ((laws_toCat.f k a0_0 l0_1).bind fun bt196 => ((spec_CatGet.f k bt196.1 bt196.2 a1 a2).bind fun bt200 => ((laws_toCat.f k a0_0 l0_1).bind fun bt206 => ((impl_CatGet.f k bt206.1 bt206.2 a1 a2).bind fun bt211 => ((laws_eqItem.f bt211.1 bt211.2.1 bt211.2.2.1 bt211.2.2.2.1 bt200.1 bt200.2.1 bt200.2.2.1 bt200.2.2.2.1).bind fun t217 => (if t217 = true then (laws_FnExactCatGet.j0 k (bt211.2.2.2.2 != bt200.2.2.2.2) a0_0 l0_1 bt206.1 bt206.2) else (laws_FnExactCatGet.j0 k true a0_0 l0_1 bt206.1 bt206.2)))))))) = some r:=H
  have A6 := Aside0.mk A60
  clear A60
  by_cases c7 : t195 < 0
  ·rw [if_pos c7] at H
   have c7b0 : decide (t195 < 0) = true := decide_eq_true c7
   clear c7
   obtain rfl := Option.some.inj H
   go_enter Try.func6, Try.ntmps6
   go_wp2_with (first|((with_reducible refine gate_dst (N:=3) rfl ?_);refine box_event ?hg (N:=3) ?hd (cs:=#[.int .i64 a0_0,.slice A0_1 l0_1.length c0_1]) (t:=24) ?hr ?_;(case hd => rfl);(case hg => rfl);(case hr => first|(go_simp;done)|(go_simp;rfl));intro gb194 hg w8 hbox hb;have n0_:=Aside0.mk (below_step (by repeat (first|(with_reducible first|exact HB.out|apply below_alloc|apply pw_below_drewN|apply below_drew1)|exact HB.out)) hb);have n1_:=Aside0.mk (hbox);have n2_:=Aside0.mk ((by rw [hg];exact (below_size (by repeat (first|(with_reducible first|exact HB.out|apply below_alloc|apply pw_below_drewN|apply below_drew1)|exact HB.out))) : w.heap.size ≤ gb194));have n3_:=Aside0.mk ((by rw [hg];exact (below_size (by repeat (first|(with_reducible first|exact HB.out|apply below_alloc|apply pw_below_drewN|apply below_drew1)|exact HB.out))) : w.heap.size ≤ gb194));clear HB;have HB:=n0_;have BK194:=n1_;have GW194:=n2_;have GE194:=n3_;clear n0_ n1_ n2_ n3_;clear hb hbox hg;have hcz9_0 : w8.cell? ⟨gb194,0,none⟩ = some (.int .i64 a0_0):=(blk_cell BK194.out 0).trans rfl;have hcz9_1 : w8.cell? ⟨gb194,1,none⟩ = some (.slice A0_1 l0_1.length c0_1):=(blk_cell BK194.out 1).trans rfl;have hfz9_0:=blk_frozen BK194.out 0;have hfz9_1:=blk_frozen BK194.out 1)|((with_reducible refine gate_callee (f:=13) rfl ?_);refine goesL_ (some 18) rfl rfl Try.func13 (by kernel_rfl) rfl #[.agg #[.int .i64 a0_0,.slice A0_1 l0_1.length c0_1],.int .i64 1048576] rfl (by (try simp only [List.map_toArray,List.map_cons,List.map_nil]);first|done|rfl|(simp only [List.length_drop,List.length_take];rfl)) ?_;(with_reducible refine (laws_szCat.calls k a0_0 _ _ l0_1 1048576 t195 _ ?side1 ?side2 A6.out).mono ?_);(case side1 => repeat (first|exact (Kd.C_below HR0_1.out HB.out)|(with_reducible refine Kd.C_alloc ?_ _)|(with_reducible refine Kd.C_drewN ?_ _)|(with_reducible refine Kd.C_drew ?_)));(case side2 => exact HC0_1.out);rintro e w10 ⟨rfl,hb⟩;refine ⟨_,rfl,?_⟩;have n0_:=Aside0.mk (blk_below (g:=gb194) (o:=.cells #[.int .i64 a0_0,.slice A0_1 l0_1.length c0_1] 24 (0,0)) (by (with_reducible repeat (first|refine blk_drewN ?_ _|refine blk_drew ?_|refine blk_alloc ?_ _));exact BK194.out) hb);have n1_:=Aside0.mk (below_step (by repeat (first|(with_reducible first|exact HB.out|apply below_alloc|apply pw_below_drewN|apply below_drew1|refine below_set ?_ GE194.out)|exact HB.out)) hb);clear BK194 HB;have BK194:=n0_;have HB:=n1_;clear n0_ n1_;(try clear hb);(try clear hb2);(try clear hk);(try clear hi)))
   go_ret
   exact ⟨by first|rfl|(simp [errW_none,errW_some] <;> rfl)|(simp [*,errW_none,errW_some] <;> rfl),by repeat (first|(with_reducible first|exact HB.out|apply below_alloc|apply pw_below_drewN|apply below_drew1|refine below_set ?_ GE194.out)|exact HB.out)⟩
  ·rw [if_neg c7] at H
   have c7b0 : decide (t195 < 0) = false := decide_eq_false c7
   clear c7
   replace H := Option.bind_eq_some_iff.mp H
   obtain ⟨⟨t196, t197⟩, A110, H⟩ := H
   replace H : ((spec_CatGet.f k t196 t197 a1 a2).bind fun bt200 => ((laws_toCat.f k a0_0 l0_1).bind fun bt206 => ((impl_CatGet.f k bt206.1 bt206.2 a1 a2).bind fun bt211 => ((laws_eqItem.f bt211.1 bt211.2.1 bt211.2.2.1 bt211.2.2.2.1 bt200.1 bt200.2.1 bt200.2.2.1 bt200.2.2.2.1).bind fun t217 => (if t217 = true then (laws_FnExactCatGet.j0 k (bt211.2.2.2.2 != bt200.2.2.2.2) a0_0 l0_1 bt206.1 bt206.2) else (laws_FnExactCatGet.j0 k true a0_0 l0_1 bt206.1 bt206.2)))))) = some r:=H
   have A11 := Aside0.mk A110
   clear A110
   replace H := Option.bind_eq_some_iff.mp H
   obtain ⟨⟨t200, t201, t202, t203, t204⟩, A120, H⟩ := H
   replace H : ((laws_toCat.f k a0_0 l0_1).bind fun bt206 => ((impl_CatGet.f k bt206.1 bt206.2 a1 a2).bind fun bt211 => ((laws_eqItem.f bt211.1 bt211.2.1 bt211.2.2.1 bt211.2.2.2.1 t200 t201 t202 t203).bind fun t217 => (if t217 = true then (laws_FnExactCatGet.j0 k (bt211.2.2.2.2 != t204) a0_0 l0_1 bt206.1 bt206.2) else (laws_FnExactCatGet.j0 k true a0_0 l0_1 bt206.1 bt206.2))))) = some r:=H
   have A12 := Aside0.mk A120
   clear A120
   replace H := Option.bind_eq_some_iff.mp H
   obtain ⟨⟨t206, t207⟩, A130, H⟩ := H
   replace H : ((impl_CatGet.f k t206 t207 a1 a2).bind fun bt211 => ((laws_eqItem.f bt211.1 bt211.2.1 bt211.2.2.1 bt211.2.2.2.1 t200 t201 t202 t203).bind fun t217 => (if t217 = true then (laws_FnExactCatGet.j0 k (bt211.2.2.2.2 != t204) a0_0 l0_1 t206 t207) else (laws_FnExactCatGet.j0 k true a0_0 l0_1 t206 t207)))) = some r:=H
   have A13 := Aside0.mk A130
   clear A130
   replace H := Option.bind_eq_some_iff.mp H
   obtain ⟨⟨t211, t212, t213, t214, t215⟩, A140, H⟩ := H
   replace H : ((laws_eqItem.f t211 t212 t213 t214 t200 t201 t202 t203).bind fun t217 => (if t217 = true then (laws_FnExactCatGet.j0 k (t215 != t204) a0_0 l0_1 t206 t207) else (laws_FnExactCatGet.j0 k true a0_0 l0_1 t206 t207))) = some r:=H
   have A14 := Aside0.mk A140
   clear A140
   have HC15 := Aside0.mk H
   clear H
   go_enter Try.func6, Try.ntmps6
   go_upto_region 10 with (first|((with_reducible refine gate_dst (N:=3) rfl ?_);refine box_event ?hg (N:=3) ?hd (cs:=#[.int .i64 a0_0,.slice A0_1 l0_1.length c0_1]) (t:=24) ?hr ?_;(case hd => rfl);(case hg => rfl);(case hr => first|(go_simp;done)|(go_simp;rfl));intro gb194 hg w16 hbox hb;have n0_:=Aside0.mk (below_step (by repeat (first|(with_reducible first|exact HB.out|apply below_alloc|apply pw_below_drewN|apply below_drew1)|exact HB.out)) hb);have n1_:=Aside0.mk (hbox);have n2_:=Aside0.mk ((by rw [hg];exact (below_size (by repeat (first|(with_reducible first|exact HB.out|apply below_alloc|apply pw_below_drewN|apply below_drew1)|exact HB.out))) : w.heap.size ≤ gb194));have n3_:=Aside0.mk ((by rw [hg];exact (below_size (by repeat (first|(with_reducible first|exact HB.out|apply below_alloc|apply pw_below_drewN|apply below_drew1)|exact HB.out))) : w.heap.size ≤ gb194));clear HB;have HB:=n0_;have BK194:=n1_;have GW194:=n2_;have GE194:=n3_;clear n0_ n1_ n2_ n3_;clear hb hbox hg;have hcz17_0 : w16.cell? ⟨gb194,0,none⟩ = some (.int .i64 a0_0):=(blk_cell BK194.out 0).trans rfl;have hcz17_1 : w16.cell? ⟨gb194,1,none⟩ = some (.slice A0_1 l0_1.length c0_1):=(blk_cell BK194.out 1).trans rfl;have hfz17_0:=blk_frozen BK194.out 0;have hfz17_1:=blk_frozen BK194.out 1)|((with_reducible refine gate_callee (f:=13) rfl ?_);refine goesL_ (some 18) rfl rfl Try.func13 (by kernel_rfl) rfl #[.agg #[.int .i64 a0_0,.slice A0_1 l0_1.length c0_1],.int .i64 1048576] rfl (by (try simp only [List.map_toArray,List.map_cons,List.map_nil]);first|done|rfl|(simp only [List.length_drop,List.length_take];rfl)) ?_;(with_reducible refine (laws_szCat.calls k a0_0 _ _ l0_1 1048576 t195 _ ?side1 ?side2 A6.out).mono ?_);(case side1 => repeat (first|exact (Kd.C_below HR0_1.out HB.out)|(with_reducible refine Kd.C_alloc ?_ _)|(with_reducible refine Kd.C_drewN ?_ _)|(with_reducible refine Kd.C_drew ?_)));(case side2 => exact HC0_1.out);rintro e w18 ⟨rfl,hb⟩;refine ⟨_,rfl,?_⟩;have n0_:=Aside0.mk (blk_below (g:=gb194) (o:=.cells #[.int .i64 a0_0,.slice A0_1 l0_1.length c0_1] 24 (0,0)) (by (with_reducible repeat (first|refine blk_drewN ?_ _|refine blk_drew ?_|refine blk_alloc ?_ _));exact BK194.out) hb);have n1_:=Aside0.mk (below_step (by repeat (first|(with_reducible first|exact HB.out|apply below_alloc|apply pw_below_drewN|apply below_drew1|refine below_set ?_ GE194.out)|exact HB.out)) hb);clear BK194 HB;have BK194:=n0_;have HB:=n1_;clear n0_ n1_;(try clear hb);(try clear hb2);(try clear hk);(try clear hi);have hcz19_0 : w18.cell? ⟨gb194,0,none⟩ = some (.int .i64 a0_0):=(blk_cell BK194.out 0).trans rfl;have hcz19_1 : w18.cell? ⟨gb194,1,none⟩ = some (.slice A0_1 l0_1.length c0_1):=(blk_cell BK194.out 1).trans rfl;have hfz19_0:=blk_frozen BK194.out 0;have hfz19_1:=blk_frozen BK194.out 1)|((with_reducible refine gate_callee (f:=15) rfl ?_);refine goesL_ (some 23) rfl rfl Try.func15 (by kernel_rfl) rfl #[.agg #[.int .i64 a0_0,.slice A0_1 l0_1.length c0_1]] rfl (by (try simp only [List.map_toArray,List.map_cons,List.map_nil]);first|done|rfl|(simp only [List.length_drop,List.length_take];rfl)) ?_;(with_reducible refine (laws_toCat.calls k a0_0 _ _ l0_1 t196 t197 _ ?side1 ?side2 A11.out).mono ?_);(case side1 => repeat (first|exact (Kd.C_below HR0_1.out HB.out)|(with_reducible refine Kd.C_alloc ?_ _)|(with_reducible refine Kd.C_drewN ?_ _)|(with_reducible refine Kd.C_drew ?_)));(case side2 => exact HC0_1.out);rintro e w20 ⟨v198,rfl,ho0,hb⟩;refine ⟨_,rfl,?_⟩;have n0_:=Aside0.mk (Kd.R_lower ho0 (below_size (by repeat (first|(with_reducible first|exact HB.out|apply below_alloc|apply pw_below_drewN|apply below_drew1|refine below_set ?_ GE194.out)|exact HB.out))));have n1_:=Aside0.mk (blk_below (g:=gb194) (o:=.cells #[.int .i64 a0_0,.slice A0_1 l0_1.length c0_1] 24 (0,0)) (by (with_reducible repeat (first|refine blk_drewN ?_ _|refine blk_drew ?_|refine blk_alloc ?_ _));exact BK194.out) hb);have n2_:=Aside0.mk (below_step (by repeat (first|(with_reducible first|exact HB.out|apply below_alloc|apply pw_below_drewN|apply below_drew1|refine below_set ?_ GE194.out)|exact HB.out)) hb);clear BK194 HB;have HO199:=n0_;have BK194:=n1_;have HB:=n2_;clear n0_ n1_ n2_;(try clear hb);(try clear hb2);(try clear hk);(try clear hi);(try clear ho0);obtain ⟨Ao21,co21,eo21⟩:=Kd.R_slice HO199.out;subst eo21)|((with_reducible refine gate_callee (f:=23) rfl ?_);refine goesL_ (some 26) rfl rfl Try.func23 (by kernel_rfl) rfl #[.agg #[.int .i64 t196,.slice Ao21 t197.length co21],.int .i64 a1,.string a2] rfl (by (try simp only [List.map_toArray,List.map_cons,List.map_nil]);first|done|rfl|(simp only [List.length_drop,List.length_take];rfl)) ?_;(with_reducible refine (spec_CatGet.calls k t196 _ _ t197 a1 a2 t200 t201 t202 t203 t204 _ ?side1 ?side2 A12.out).mono ?_);(case side1 => repeat (first|exact (Kd.R_reads' HO199.out).2.2|(with_reducible refine Kd.C_alloc ?_ _)|(with_reducible refine Kd.C_drewN ?_ _)|(with_reducible refine Kd.C_drew ?_)));(case side2 => exact (Kd.R_reads' HO199.out).2.1);rintro e w22 ⟨rfl,hb⟩;refine ⟨_,rfl,?_⟩;have n0_:=Aside0.mk (Kd.R_below (by (with_reducible repeat (first|apply Kd.R_alloc|apply Kd.R_drewN|apply Kd.R_drew));exact HO199.out) hb);have n1_:=Aside0.mk (blk_below (g:=gb194) (o:=.cells #[.int .i64 a0_0,.slice A0_1 l0_1.length c0_1] 24 (0,0)) (by (with_reducible repeat (first|refine blk_drewN ?_ _|refine blk_drew ?_|refine blk_alloc ?_ _));exact BK194.out) hb);have n2_:=Aside0.mk (below_step (by repeat (first|(with_reducible first|exact HB.out|apply below_alloc|apply pw_below_drewN|apply below_drew1|refine below_set ?_ GE194.out)|exact HB.out)) hb);clear HO199 BK194 HB;have HO199:=n0_;have BK194:=n1_;have HB:=n2_;clear n0_ n1_ n2_;(try clear hb);(try clear hb2);(try clear hk);(try clear hi))|((with_reducible refine gate_dst (N:=8) rfl ?_);refine box_event ?hg (N:=8) ?hd (cs:=#[.int .i64 0,.string (⟨#[]⟩ : ByteArray),.int .i64 0,.string (⟨#[]⟩ : ByteArray)]) (t:=36) ?hr ?_;(case hd => rfl);(case hg => rfl);(case hr => first|(go_simp;done)|(go_simp;rfl));intro gb205 hg w23 hbox hb;have n0_:=Aside0.mk (Kd.R_below (Kd.R_elderB (by (with_reducible repeat (first|apply Kd.R_alloc|apply Kd.R_drewN|apply Kd.R_drew));exact HO199.out) gb205 (Nat.le_of_eq hg.symm)) hb);have n1_:=Aside0.mk (blk_below (g:=gb194) (o:=.cells #[.int .i64 a0_0,.slice A0_1 l0_1.length c0_1] 24 (0,0)) (by (with_reducible repeat (first|refine blk_drewN ?_ _|refine blk_drew ?_|refine blk_alloc ?_ _));exact BK194.out) hb);have n2_:=Aside0.mk (below_step (by repeat (first|(with_reducible first|exact HB.out|apply below_alloc|apply pw_below_drewN|apply below_drew1|refine below_set ?_ GE194.out)|exact HB.out)) hb);have n3_:=Aside0.mk (hbox);have n4_:=Aside0.mk ((by rw [hg];exact (below_size (by repeat (first|(with_reducible first|exact HB.out|apply below_alloc|apply pw_below_drewN|apply below_drew1|refine below_set ?_ GE194.out)|exact HB.out))) : w.heap.size ≤ gb205));have n5_:=Aside0.mk ((by rw [hg];exact (below_size (by repeat (first|(with_reducible first|exact HB.out|apply below_alloc|apply pw_below_drewN|apply below_drew1|refine below_set ?_ GE194.out)|exact HB.out))) : w.heap.size ≤ gb205));have n6_:=Aside0.mk ((by rw [hg];exact Nat.ne_of_lt (blk_lt (g:=gb194) (o:=.cells #[.int .i64 a0_0,.slice A0_1 l0_1.length c0_1] 24 (0,0)) (by (with_reducible repeat (first|refine blk_drewN ?_ _|refine blk_drew ?_|refine blk_alloc ?_ _));exact BK194.out)) : gb194 ≠ gb205));have n7_:=Aside0.mk ((by rw [hg];exact Nat.ne_of_gt (blk_lt (g:=gb194) (o:=.cells #[.int .i64 a0_0,.slice A0_1 l0_1.length c0_1] 24 (0,0)) (by (with_reducible repeat (first|refine blk_drewN ?_ _|refine blk_drew ?_|refine blk_alloc ?_ _));exact BK194.out)) : gb205 ≠ gb194));clear HO199 BK194 HB;have HO199:=n0_;have BK194:=n1_;have HB:=n2_;have BK205:=n3_;have GW205:=n4_;have GE205:=n5_;have NB194_205:=n6_;have NB205_194:=n7_;clear n0_ n1_ n2_ n3_ n4_ n5_ n6_ n7_;clear hb hbox hg;have hnb24:=NB205_194.out;have hnc24:=NB194_205.out;have hcz25_0 : w23.cell? ⟨gb205,0,none⟩ = some (.int .i64 0):=(blk_cell BK205.out 0).trans rfl;have hcz25_1 : w23.cell? ⟨gb205,1,none⟩ = some (.string (⟨#[]⟩ : ByteArray)):=(blk_cell BK205.out 1).trans rfl;have hcz25_2 : w23.cell? ⟨gb205,2,none⟩ = some (.int .i64 0):=(blk_cell BK205.out 2).trans rfl;have hcz25_3 : w23.cell? ⟨gb205,3,none⟩ = some (.string (⟨#[]⟩ : ByteArray)):=(blk_cell BK205.out 3).trans rfl;have hfz25_0:=blk_frozen BK205.out 0;have hfz25_1:=blk_frozen BK205.out 1;have hfz25_2:=blk_frozen BK205.out 2;have hfz25_3:=blk_frozen BK205.out 3;have hcz26_0 : w23.cell? ⟨gb194,0,none⟩ = some (.int .i64 a0_0):=(blk_cell BK194.out 0).trans rfl;have hcz26_1 : w23.cell? ⟨gb194,1,none⟩ = some (.slice A0_1 l0_1.length c0_1):=(blk_cell BK194.out 1).trans rfl;have hfz26_0:=blk_frozen BK194.out 0;have hfz26_1:=blk_frozen BK194.out 1)|((with_reducible refine gate_callee (f:=15) rfl ?_);refine goesL_ (some 30) rfl rfl Try.func15 (by kernel_rfl) rfl #[.agg #[.int .i64 a0_0,.slice A0_1 l0_1.length c0_1]] rfl (by (try simp only [List.map_toArray,List.map_cons,List.map_nil]);first|done|rfl|(simp only [List.length_drop,List.length_take];rfl)) ?_;(with_reducible refine (laws_toCat.calls k a0_0 _ _ l0_1 t206 t207 _ ?side1 ?side2 A13.out).mono ?_);(case side1 => exact Kd.C_below HR0_1.out (by repeat (first|(with_reducible first|exact HB.out|apply below_alloc|apply pw_below_drewN|apply below_drew1|refine below_set ?_ GE194.out|refine below_set ?_ GE205.out)|exact HB.out)));(case side2 => exact HC0_1.out);rintro e w27 ⟨v208,rfl,ho0,hb⟩;refine ⟨_,rfl,?_⟩;have n0_:=Aside0.mk (Kd.R_elder' (by (with_reducible repeat (first|apply Kd.R_alloc|apply Kd.R_drewN|apply Kd.R_drew));exact (Kd.R_mono (Kd.R_far (p:=⟨gb205,3,none⟩) (Kd.R_far (p:=⟨gb205,2,none⟩) (Kd.R_far (p:=⟨gb205,1,none⟩) (Kd.R_far (p:=⟨gb205,0,none⟩) (Kd.R_mono HO199.out (fun k_ hk => (⟨hk,hk.2⟩ : _ ∧ k_ ≠ gb205))) (fun _ hk => hk.2) (.int .i64 t200)) (fun _ hk => hk.2) (.string t201)) (fun _ hk => hk.2) (.int .i64 t202)) (fun _ hk => hk.2) (.string t203)) (fun _ h_ => h_.1))) (Kd.R_base ho0) hb);have n1_:=Aside0.mk (Kd.R_lower (Kd.R_newB (Kd.R_new' ho0 (Kd.R_lt (by (with_reducible repeat (first|apply Kd.R_alloc|apply Kd.R_drewN|apply Kd.R_drew));exact (Kd.R_mono (Kd.R_far (p:=⟨gb205,3,none⟩) (Kd.R_far (p:=⟨gb205,2,none⟩) (Kd.R_far (p:=⟨gb205,1,none⟩) (Kd.R_far (p:=⟨gb205,0,none⟩) (Kd.R_mono HO199.out (fun k_ hk => (⟨hk,hk.2⟩ : _ ∧ k_ ≠ gb205))) (fun _ hk => hk.2) (.int .i64 t200)) (fun _ hk => hk.2) (.string t201)) (fun _ hk => hk.2) (.int .i64 t202)) (fun _ hk => hk.2) (.string t203)) (fun _ h_ => h_.1))))) (g:=gb205) (o:=.cells #[.int .i64 t200,.string t201,.int .i64 t202,.string t203] 36 (0,0)) (by (with_reducible repeat (first|refine blk_drewN ?_ _|refine blk_drew ?_|refine blk_alloc ?_ _));refine blk_put (cs:=#[.int .i64 t200,.string t201,.int .i64 t202,.string (⟨#[]⟩ : ByteArray)]) ?_ 3 _ rfl;(with_reducible repeat (first|refine blk_drewN ?_ _|refine blk_drew ?_|refine blk_alloc ?_ _));refine blk_put (cs:=#[.int .i64 t200,.string t201,.int .i64 0,.string (⟨#[]⟩ : ByteArray)]) ?_ 2 _ rfl;(with_reducible repeat (first|refine blk_drewN ?_ _|refine blk_drew ?_|refine blk_alloc ?_ _));refine blk_put (cs:=#[.int .i64 t200,.string (⟨#[]⟩ : ByteArray),.int .i64 0,.string (⟨#[]⟩ : ByteArray)]) ?_ 1 _ rfl;(with_reducible repeat (first|refine blk_drewN ?_ _|refine blk_drew ?_|refine blk_alloc ?_ _));refine blk_put (cs:=#[.int .i64 0,.string (⟨#[]⟩ : ByteArray),.int .i64 0,.string (⟨#[]⟩ : ByteArray)]) ?_ 0 _ rfl;(with_reducible repeat (first|refine blk_drewN ?_ _|refine blk_drew ?_|refine blk_alloc ?_ _));exact BK205.out)) (below_size (by repeat (first|(with_reducible first|exact HB.out|apply below_alloc|apply pw_below_drewN|apply below_drew1|refine below_set ?_ GE194.out|refine below_set ?_ GE205.out)|exact HB.out))));have n2_:=Aside0.mk (blk_below (g:=gb194) (o:=.cells #[.int .i64 a0_0,.slice A0_1 l0_1.length c0_1] 24 (0,0)) (by (with_reducible repeat (first|refine blk_drewN ?_ _|refine blk_drew ?_|refine blk_alloc ?_ _));refine blk_far ?_ NB194_205.out _;(with_reducible repeat (first|refine blk_drewN ?_ _|refine blk_drew ?_|refine blk_alloc ?_ _));refine blk_far ?_ NB194_205.out _;(with_reducible repeat (first|refine blk_drewN ?_ _|refine blk_drew ?_|refine blk_alloc ?_ _));refine blk_far ?_ NB194_205.out _;(with_reducible repeat (first|refine blk_drewN ?_ _|refine blk_drew ?_|refine blk_alloc ?_ _));refine blk_far ?_ NB194_205.out _;(with_reducible repeat (first|refine blk_drewN ?_ _|refine blk_drew ?_|refine blk_alloc ?_ _));exact BK194.out) hb);have n3_:=Aside0.mk (blk_below (g:=gb205) (o:=.cells #[.int .i64 t200,.string t201,.int .i64 t202,.string t203] 36 (0,0)) (by (with_reducible repeat (first|refine blk_drewN ?_ _|refine blk_drew ?_|refine blk_alloc ?_ _));refine blk_put (cs:=#[.int .i64 t200,.string t201,.int .i64 t202,.string (⟨#[]⟩ : ByteArray)]) ?_ 3 _ rfl;(with_reducible repeat (first|refine blk_drewN ?_ _|refine blk_drew ?_|refine blk_alloc ?_ _));refine blk_put (cs:=#[.int .i64 t200,.string t201,.int .i64 0,.string (⟨#[]⟩ : ByteArray)]) ?_ 2 _ rfl;(with_reducible repeat (first|refine blk_drewN ?_ _|refine blk_drew ?_|refine blk_alloc ?_ _));refine blk_put (cs:=#[.int .i64 t200,.string (⟨#[]⟩ : ByteArray),.int .i64 0,.string (⟨#[]⟩ : ByteArray)]) ?_ 1 _ rfl;(with_reducible repeat (first|refine blk_drewN ?_ _|refine blk_drew ?_|refine blk_alloc ?_ _));refine blk_put (cs:=#[.int .i64 0,.string (⟨#[]⟩ : ByteArray),.int .i64 0,.string (⟨#[]⟩ : ByteArray)]) ?_ 0 _ rfl;(with_reducible repeat (first|refine blk_drewN ?_ _|refine blk_drew ?_|refine blk_alloc ?_ _));exact BK205.out) hb);have n4_:=Aside0.mk (below_step (by repeat (first|(with_reducible first|exact HB.out|apply below_alloc|apply pw_below_drewN|apply below_drew1|refine below_set ?_ GE194.out|refine below_set ?_ GE205.out)|exact HB.out)) hb);clear HO199 BK194 BK205 HB;have HO199:=n0_;have HO209:=n1_;have BK194:=n2_;have BK205:=n3_;have HB:=n4_;clear n0_ n1_ n2_ n3_ n4_;(try clear hb);(try clear hb2);(try clear hk);(try clear hi);(try clear ho0))|((with_reducible refine gate_dst (N:=10) rfl ?_);refine box_event ?hg (N:=10) ?hd (cs:=#[.int .i64 0,.slice none 0 0]) (t:=29) ?hr ?_;(case hd => rfl);(case hg => rfl);(case hr => first|(go_simp;done)|(go_simp;rfl));intro gb210 hg w28 hbox hb;have n0_:=Aside0.mk (Kd.R_below (by (with_reducible repeat (first|apply Kd.R_alloc|apply Kd.R_drewN|apply Kd.R_drew));exact HO199.out) hb);have n1_:=Aside0.mk (Kd.R_below (by (with_reducible repeat (first|apply Kd.R_alloc|apply Kd.R_drewN|apply Kd.R_drew));exact HO209.out) hb);have n2_:=Aside0.mk (blk_below (g:=gb194) (o:=.cells #[.int .i64 a0_0,.slice A0_1 l0_1.length c0_1] 24 (0,0)) (by (with_reducible repeat (first|refine blk_drewN ?_ _|refine blk_drew ?_|refine blk_alloc ?_ _));exact BK194.out) hb);have n3_:=Aside0.mk (blk_below (g:=gb205) (o:=.cells #[.int .i64 t200,.string t201,.int .i64 t202,.string t203] 36 (0,0)) (by (with_reducible repeat (first|refine blk_drewN ?_ _|refine blk_drew ?_|refine blk_alloc ?_ _));exact BK205.out) hb);have n4_:=Aside0.mk (below_step (by repeat (first|(with_reducible first|exact HB.out|apply below_alloc|apply pw_below_drewN|apply below_drew1|refine below_set ?_ GE194.out|refine below_set ?_ GE205.out)|exact HB.out)) hb);have n5_:=Aside0.mk (hbox);have n6_:=Aside0.mk ((by rw [hg];exact (below_size (by repeat (first|(with_reducible first|exact HB.out|apply below_alloc|apply pw_below_drewN|apply below_drew1|refine below_set ?_ GE194.out|refine below_set ?_ GE205.out)|exact HB.out))) : w.heap.size ≤ gb210));have n7_:=Aside0.mk ((by rw [hg];exact (below_size (by repeat (first|(with_reducible first|exact HB.out|apply below_alloc|apply pw_below_drewN|apply below_drew1|refine below_set ?_ GE194.out|refine below_set ?_ GE205.out)|exact HB.out))) : w.heap.size ≤ gb210));have n8_:=Aside0.mk ((by rw [hg];exact Nat.ne_of_lt (blk_lt (g:=gb194) (o:=.cells #[.int .i64 a0_0,.slice A0_1 l0_1.length c0_1] 24 (0,0)) (by (with_reducible repeat (first|refine blk_drewN ?_ _|refine blk_drew ?_|refine blk_alloc ?_ _));exact BK194.out)) : gb194 ≠ gb210));have n9_:=Aside0.mk ((by rw [hg];exact Nat.ne_of_gt (blk_lt (g:=gb194) (o:=.cells #[.int .i64 a0_0,.slice A0_1 l0_1.length c0_1] 24 (0,0)) (by (with_reducible repeat (first|refine blk_drewN ?_ _|refine blk_drew ?_|refine blk_alloc ?_ _));exact BK194.out)) : gb210 ≠ gb194));have n10_:=Aside0.mk ((by rw [hg];exact Nat.ne_of_lt (blk_lt (g:=gb205) (o:=.cells #[.int .i64 t200,.string t201,.int .i64 t202,.string t203] 36 (0,0)) (by (with_reducible repeat (first|refine blk_drewN ?_ _|refine blk_drew ?_|refine blk_alloc ?_ _));exact BK205.out)) : gb205 ≠ gb210));have n11_:=Aside0.mk ((by rw [hg];exact Nat.ne_of_gt (blk_lt (g:=gb205) (o:=.cells #[.int .i64 t200,.string t201,.int .i64 t202,.string t203] 36 (0,0)) (by (with_reducible repeat (first|refine blk_drewN ?_ _|refine blk_drew ?_|refine blk_alloc ?_ _));exact BK205.out)) : gb210 ≠ gb205));clear HO199 HO209 BK194 BK205 HB;have HO199:=n0_;have HO209:=n1_;have BK194:=n2_;have BK205:=n3_;have HB:=n4_;have BK210:=n5_;have GW210:=n6_;have GE210:=n7_;have NB194_210:=n8_;have NB210_194:=n9_;have NB205_210:=n10_;have NB210_205:=n11_;clear n0_ n1_ n2_ n3_ n4_ n5_ n6_ n7_ n8_ n9_ n10_ n11_;clear hb hbox hg;have hnb29:=NB210_194.out;have hnc29:=NB194_210.out;have hnb30:=NB210_205.out;have hnc30:=NB205_210.out;have hcz31_0 : w28.cell? ⟨gb210,0,none⟩ = some (.int .i64 0):=(blk_cell BK210.out 0).trans rfl;have hcz31_1 : w28.cell? ⟨gb210,1,none⟩ = some (.slice none 0 0):=(blk_cell BK210.out 1).trans rfl;have hfz31_0:=blk_frozen BK210.out 0;have hfz31_1:=blk_frozen BK210.out 1;obtain ⟨Ao32,co32,eo32⟩:=Kd.R_slice HO209.out;subst eo32)|((with_reducible refine gate_callee (f:=24) rfl ?_);refine goesL_ (some 35) rfl rfl Try.func24 (by kernel_rfl) rfl #[.agg #[.int .i64 t206,.slice Ao32 t207.length co32],.int .i64 a1,.string a2] rfl (by (try simp only [List.map_toArray,List.map_cons,List.map_nil]);first|done|rfl|(simp only [List.length_drop,List.length_take];rfl)) ?_;(with_reducible refine (impl_CatGet.calls k t206 _ _ t207 a1 a2 t211 t212 t213 t214 t215 _ ?side1 ?side2 A14.out).mono ?_);(case side1 => refine (Kd.R_reads' (e:=36) (base:=w.heap.size) (ok:=fun k_ => ((True ∧ some k_ ≠ (.slice Ao21 t197.length co21 : Value).ownBlock) ∧ k_ ≠ gb205)) (n:=t207.length) (c:=co32) ?_).2.2;exact (by (with_reducible repeat (first|apply Kd.R_alloc|apply Kd.R_drewN|apply Kd.R_drew));exact (Kd.R_mono (Kd.R_far (p:=⟨gb210,1,none⟩) (Kd.R_far (p:=⟨gb210,0,none⟩) (Kd.R_types HO209.out BK210.out (by decide)) (fun _ hk => hk.2) (.int .i64 t206)) (fun _ hk => hk.2) (.slice Ao32 t207.length co32)) (fun _ h_ => h_.1))));(case side2 => exact (Kd.R_reads' HO209.out).2.1);rintro e w33 ⟨rfl,hb⟩;refine ⟨_,rfl,?_⟩;have n0_:=Aside0.mk (Kd.R_below (by (with_reducible repeat (first|apply Kd.R_alloc|apply Kd.R_drewN|apply Kd.R_drew));exact (Kd.R_mono (Kd.R_far (p:=⟨gb210,1,none⟩) (Kd.R_far (p:=⟨gb210,0,none⟩) (Kd.R_types HO199.out BK210.out (by decide)) (fun _ hk => hk.2) (.int .i64 t206)) (fun _ hk => hk.2) (.slice Ao32 t207.length co32)) (fun _ h_ => h_.1))) hb);have n1_:=Aside0.mk (Kd.R_below (by (with_reducible repeat (first|apply Kd.R_alloc|apply Kd.R_drewN|apply Kd.R_drew));exact (Kd.R_mono (Kd.R_far (p:=⟨gb210,1,none⟩) (Kd.R_far (p:=⟨gb210,0,none⟩) (Kd.R_types HO209.out BK210.out (by decide)) (fun _ hk => hk.2) (.int .i64 t206)) (fun _ hk => hk.2) (.slice Ao32 t207.length co32)) (fun _ h_ => h_.1))) hb);have n2_:=Aside0.mk (blk_below (g:=gb194) (o:=.cells #[.int .i64 a0_0,.slice A0_1 l0_1.length c0_1] 24 (0,0)) (by (with_reducible repeat (first|refine blk_drewN ?_ _|refine blk_drew ?_|refine blk_alloc ?_ _));refine blk_far ?_ NB194_210.out _;(with_reducible repeat (first|refine blk_drewN ?_ _|refine blk_drew ?_|refine blk_alloc ?_ _));refine blk_far ?_ NB194_210.out _;(with_reducible repeat (first|refine blk_drewN ?_ _|refine blk_drew ?_|refine blk_alloc ?_ _));exact BK194.out) hb);have n3_:=Aside0.mk (blk_below (g:=gb205) (o:=.cells #[.int .i64 t200,.string t201,.int .i64 t202,.string t203] 36 (0,0)) (by (with_reducible repeat (first|refine blk_drewN ?_ _|refine blk_drew ?_|refine blk_alloc ?_ _));refine blk_far ?_ NB205_210.out _;(with_reducible repeat (first|refine blk_drewN ?_ _|refine blk_drew ?_|refine blk_alloc ?_ _));refine blk_far ?_ NB205_210.out _;(with_reducible repeat (first|refine blk_drewN ?_ _|refine blk_drew ?_|refine blk_alloc ?_ _));exact BK205.out) hb);have n4_:=Aside0.mk (blk_below (g:=gb210) (o:=.cells #[.int .i64 t206,.slice Ao32 t207.length co32] 29 (0,0)) (by (with_reducible repeat (first|refine blk_drewN ?_ _|refine blk_drew ?_|refine blk_alloc ?_ _));refine blk_put (cs:=#[.int .i64 t206,.slice none 0 0]) ?_ 1 _ rfl;(with_reducible repeat (first|refine blk_drewN ?_ _|refine blk_drew ?_|refine blk_alloc ?_ _));refine blk_put (cs:=#[.int .i64 0,.slice none 0 0]) ?_ 0 _ rfl;(with_reducible repeat (first|refine blk_drewN ?_ _|refine blk_drew ?_|refine blk_alloc ?_ _));exact BK210.out) hb);have n5_:=Aside0.mk (below_step (by repeat (first|(with_reducible first|exact HB.out|apply below_alloc|apply pw_below_drewN|apply below_drew1|refine below_set ?_ GE194.out|refine below_set ?_ GE205.out|refine below_set ?_ GE210.out)|exact HB.out)) hb);clear HO199 HO209 BK194 BK205 BK210 HB;have HO199:=n0_;have HO209:=n1_;have BK194:=n2_;have BK205:=n3_;have BK210:=n4_;have HB:=n5_;clear n0_ n1_ n2_ n3_ n4_ n5_;(try clear hb);(try clear hb2);(try clear hk);(try clear hi))|((with_reducible refine gate_dst (N:=11) rfl ?_);refine box_event ?hg (N:=11) ?hd (cs:=#[.int .i64 0,.string (⟨#[]⟩ : ByteArray),.int .i64 0,.string (⟨#[]⟩ : ByteArray)]) (t:=36) ?hr ?_;(case hd => rfl);(case hg => rfl);(case hr => first|(go_simp;done)|(go_simp;rfl));intro gb216 hg w34 hbox hb;have n0_:=Aside0.mk (Kd.R_below (Kd.R_elderB (by (with_reducible repeat (first|apply Kd.R_alloc|apply Kd.R_drewN|apply Kd.R_drew));exact HO199.out) gb216 (Nat.le_of_eq hg.symm)) hb);have n1_:=Aside0.mk (Kd.R_below (Kd.R_elderB (by (with_reducible repeat (first|apply Kd.R_alloc|apply Kd.R_drewN|apply Kd.R_drew));exact HO209.out) gb216 (Nat.le_of_eq hg.symm)) hb);have n2_:=Aside0.mk (blk_below (g:=gb194) (o:=.cells #[.int .i64 a0_0,.slice A0_1 l0_1.length c0_1] 24 (0,0)) (by (with_reducible repeat (first|refine blk_drewN ?_ _|refine blk_drew ?_|refine blk_alloc ?_ _));exact BK194.out) hb);have n3_:=Aside0.mk (blk_below (g:=gb205) (o:=.cells #[.int .i64 t200,.string t201,.int .i64 t202,.string t203] 36 (0,0)) (by (with_reducible repeat (first|refine blk_drewN ?_ _|refine blk_drew ?_|refine blk_alloc ?_ _));exact BK205.out) hb);have n4_:=Aside0.mk (blk_below (g:=gb210) (o:=.cells #[.int .i64 t206,.slice Ao32 t207.length co32] 29 (0,0)) (by (with_reducible repeat (first|refine blk_drewN ?_ _|refine blk_drew ?_|refine blk_alloc ?_ _));exact BK210.out) hb);have n5_:=Aside0.mk (below_step (by repeat (first|(with_reducible first|exact HB.out|apply below_alloc|apply pw_below_drewN|apply below_drew1|refine below_set ?_ GE194.out|refine below_set ?_ GE205.out|refine below_set ?_ GE210.out)|exact HB.out)) hb);have n6_:=Aside0.mk (hbox);have n7_:=Aside0.mk ((by rw [hg];exact (below_size (by repeat (first|(with_reducible first|exact HB.out|apply below_alloc|apply pw_below_drewN|apply below_drew1|refine below_set ?_ GE194.out|refine below_set ?_ GE205.out|refine below_set ?_ GE210.out)|exact HB.out))) : w.heap.size ≤ gb216));have n8_:=Aside0.mk ((by rw [hg];exact (below_size (by repeat (first|(with_reducible first|exact HB.out|apply below_alloc|apply pw_below_drewN|apply below_drew1|refine below_set ?_ GE194.out|refine below_set ?_ GE205.out|refine below_set ?_ GE210.out)|exact HB.out))) : w.heap.size ≤ gb216));have n9_:=Aside0.mk ((by rw [hg];exact Nat.ne_of_lt (blk_lt (g:=gb194) (o:=.cells #[.int .i64 a0_0,.slice A0_1 l0_1.length c0_1] 24 (0,0)) (by (with_reducible repeat (first|refine blk_drewN ?_ _|refine blk_drew ?_|refine blk_alloc ?_ _));exact BK194.out)) : gb194 ≠ gb216));have n10_:=Aside0.mk ((by rw [hg];exact Nat.ne_of_gt (blk_lt (g:=gb194) (o:=.cells #[.int .i64 a0_0,.slice A0_1 l0_1.length c0_1] 24 (0,0)) (by (with_reducible repeat (first|refine blk_drewN ?_ _|refine blk_drew ?_|refine blk_alloc ?_ _));exact BK194.out)) : gb216 ≠ gb194));have n11_:=Aside0.mk ((by rw [hg];exact Nat.ne_of_lt (blk_lt (g:=gb205) (o:=.cells #[.int .i64 t200,.string t201,.int .i64 t202,.string t203] 36 (0,0)) (by (with_reducible repeat (first|refine blk_drewN ?_ _|refine blk_drew ?_|refine blk_alloc ?_ _));exact BK205.out)) : gb205 ≠ gb216));have n12_:=Aside0.mk ((by rw [hg];exact Nat.ne_of_gt (blk_lt (g:=gb205) (o:=.cells #[.int .i64 t200,.string t201,.int .i64 t202,.string t203] 36 (0,0)) (by (with_reducible repeat (first|refine blk_drewN ?_ _|refine blk_drew ?_|refine blk_alloc ?_ _));exact BK205.out)) : gb216 ≠ gb205));have n13_:=Aside0.mk ((by rw [hg];exact Nat.ne_of_lt (blk_lt (g:=gb210) (o:=.cells #[.int .i64 t206,.slice Ao32 t207.length co32] 29 (0,0)) (by (with_reducible repeat (first|refine blk_drewN ?_ _|refine blk_drew ?_|refine blk_alloc ?_ _));exact BK210.out)) : gb210 ≠ gb216));have n14_:=Aside0.mk ((by rw [hg];exact Nat.ne_of_gt (blk_lt (g:=gb210) (o:=.cells #[.int .i64 t206,.slice Ao32 t207.length co32] 29 (0,0)) (by (with_reducible repeat (first|refine blk_drewN ?_ _|refine blk_drew ?_|refine blk_alloc ?_ _));exact BK210.out)) : gb216 ≠ gb210));clear HO199 HO209 BK194 BK205 BK210 HB;have HO199:=n0_;have HO209:=n1_;have BK194:=n2_;have BK205:=n3_;have BK210:=n4_;have HB:=n5_;have BK216:=n6_;have GW216:=n7_;have GE216:=n8_;have NB194_216:=n9_;have NB216_194:=n10_;have NB205_216:=n11_;have NB216_205:=n12_;have NB210_216:=n13_;have NB216_210:=n14_;clear n0_ n1_ n2_ n3_ n4_ n5_ n6_ n7_ n8_ n9_ n10_ n11_ n12_ n13_ n14_;clear hb hbox hg;have hnb35:=NB216_194.out;have hnc35:=NB194_216.out;have hnb36:=NB216_205.out;have hnc36:=NB205_216.out;have hnb37:=NB216_210.out;have hnc37:=NB210_216.out;have hcz38_0 : w34.cell? ⟨gb216,0,none⟩ = some (.int .i64 0):=(blk_cell BK216.out 0).trans rfl;have hcz38_1 : w34.cell? ⟨gb216,1,none⟩ = some (.string (⟨#[]⟩ : ByteArray)):=(blk_cell BK216.out 1).trans rfl;have hcz38_2 : w34.cell? ⟨gb216,2,none⟩ = some (.int .i64 0):=(blk_cell BK216.out 2).trans rfl;have hcz38_3 : w34.cell? ⟨gb216,3,none⟩ = some (.string (⟨#[]⟩ : ByteArray)):=(blk_cell BK216.out 3).trans rfl;have hfz38_0:=blk_frozen BK216.out 0;have hfz38_1:=blk_frozen BK216.out 1;have hfz38_2:=blk_frozen BK216.out 2;have hfz38_3:=blk_frozen BK216.out 3))
   (try simp only [Act.put,List.setIfInBounds_toArray,List.set_cons_zero,List.set_cons_succ])
   go_cut [46] (fun v46 wc => ∃ (kq : Nat) (x46_14 : Bool),v46 = .bool x46_14 ∧ Aside0 (laws_FnExactCatGet.j0 kq x46_14 a0_0 l0_1 t206 t207 = some r) ∧ Aside0 (kq ≤ k) ∧ Aside0 (Kd.R k36 36 wc w.heap.size (fun k_ => k_ ≠ gb205 ∧ k_ ≠ gb216) (.slice Ao32 t207.length co32) t207) ∧ Aside0 (wc.heap[gb194]? = some (.cells #[.int .i64 a0_0,(.slice A0_1 l0_1.length c0_1)] 24 (0,0))) ∧ Aside0 (wc.heap[gb205]? = some (.cells #[.int .i64 t200,.string t201,.int .i64 t202,.string t203] 36 (0,0))) ∧ Aside0 (wc.heap[gb210]? = some (.cells #[.int .i64 t206,(.slice Ao32 t207.length co32)] 29 (0,0))) ∧ Aside0 (wc.heap[gb216]? = some (.cells #[.int .i64 t211,.string t212,.int .i64 t213,.string t214] 36 (0,0))) ∧ Aside0 (Below w.heap.size w wc))
   case first =>
    have H := HC15.out
    clear HC15
    replace H := Option.bind_eq_some_iff.mp H
    obtain ⟨t217, A390, H⟩ := H
    replace H : (if t217 = true then (laws_FnExactCatGet.j0 k (t215 != t204) a0_0 l0_1 t206 t207) else (laws_FnExactCatGet.j0 k true a0_0 l0_1 t206 t207)) = some r:=H
    have A39 := Aside0.mk A390
    clear A390
    by_cases c40 : t217 = true
    ·subst c40
     have H1 : (laws_FnExactCatGet.j0 k (t215 != t204) a0_0 l0_1 t206 t207) = some r:=by rw [if_pos rfl] at H;exact H
     clear H
     have H := H1
     clear H1
     have H' := Aside0.mk H
     clear H
     have hnb41 := NB216_194.out
     have hnc41 := NB194_216.out
     have hnb42 := NB216_205.out
     have hnc42 := NB205_216.out
     have hnb43 := NB216_210.out
     have hnc43 := NB210_216.out
     have hcz44_0 : w34.cell? ⟨gb216,0,none⟩ = some (.int .i64 0):=(blk_cell BK216.out 0).trans rfl
     have hcz44_1 : w34.cell? ⟨gb216,1,none⟩ = some (.string (⟨#[]⟩ : ByteArray)):=(blk_cell BK216.out 1).trans rfl
     have hcz44_2 : w34.cell? ⟨gb216,2,none⟩ = some (.int .i64 0):=(blk_cell BK216.out 2).trans rfl
     have hcz44_3 : w34.cell? ⟨gb216,3,none⟩ = some (.string (⟨#[]⟩ : ByteArray)):=(blk_cell BK216.out 3).trans rfl
     have hfz44_0 := blk_frozen BK216.out 0
     have hfz44_1 := blk_frozen BK216.out 1
     have hfz44_2 := blk_frozen BK216.out 2
     have hfz44_3 := blk_frozen BK216.out 3
     have hnb45 := NB205_194.out
     have hnc45 := NB194_205.out
     have hnb46 := NB205_210.out
     have hnc46 := NB210_205.out
     have hcz47_0 : w34.cell? ⟨gb205,0,none⟩ = some (.int .i64 t200):=(blk_cell BK205.out 0).trans rfl
     have hcz47_1 : w34.cell? ⟨gb205,1,none⟩ = some (.string t201):=(blk_cell BK205.out 1).trans rfl
     have hcz47_2 : w34.cell? ⟨gb205,2,none⟩ = some (.int .i64 t202):=(blk_cell BK205.out 2).trans rfl
     have hcz47_3 : w34.cell? ⟨gb205,3,none⟩ = some (.string t203):=(blk_cell BK205.out 3).trans rfl
     have hfz47_0 := blk_frozen BK205.out 0
     have hfz47_1 := blk_frozen BK205.out 1
     have hfz47_2 := blk_frozen BK205.out 2
     have hfz47_3 := blk_frozen BK205.out 3
     go_wp2_with (first|((with_reducible refine gate_callee (f:=22) rfl ?_);refine goesL_ (some 40) rfl rfl Try.func22 (by kernel_rfl) rfl #[.agg #[.int .i64 t211,.string t212,.int .i64 t213,.string t214],.agg #[.int .i64 t200,.string t201,.int .i64 t202,.string t203]] rfl (by (try simp only [List.map_toArray,List.map_cons,List.map_nil]);first|done|rfl|(simp only [List.length_drop,List.length_take];rfl)) ?_;(with_reducible refine (laws_eqItem.calls t211 t212 t213 t214 t200 t201 t202 t203 true _ A39.out).mono ?_);rintro e w48 ⟨rfl,hb⟩;refine ⟨_,rfl,?_⟩;have n0_:=Aside0.mk (Kd.R_below (by (with_reducible repeat (first|apply Kd.R_alloc|apply Kd.R_drewN|apply Kd.R_drew));exact (Kd.R_mono (Kd.R_far (p:=⟨gb216,3,none⟩) (Kd.R_far (p:=⟨gb216,2,none⟩) (Kd.R_far (p:=⟨gb216,1,none⟩) (Kd.R_far (p:=⟨gb216,0,none⟩) (Kd.R_mono HO199.out (fun k_ hk => (⟨hk,hk.2⟩ : _ ∧ k_ ≠ gb216))) (fun _ hk => hk.2) (.int .i64 t211)) (fun _ hk => hk.2) (.string t212)) (fun _ hk => hk.2) (.int .i64 t213)) (fun _ hk => hk.2) (.string t214)) (fun _ h_ => h_.1))) hb);have n1_:=Aside0.mk (Kd.R_below (by (with_reducible repeat (first|apply Kd.R_alloc|apply Kd.R_drewN|apply Kd.R_drew));exact (Kd.R_mono (Kd.R_far (p:=⟨gb216,3,none⟩) (Kd.R_far (p:=⟨gb216,2,none⟩) (Kd.R_far (p:=⟨gb216,1,none⟩) (Kd.R_far (p:=⟨gb216,0,none⟩) (Kd.R_mono HO209.out (fun k_ hk => (⟨hk,hk.2⟩ : _ ∧ k_ ≠ gb216))) (fun _ hk => hk.2) (.int .i64 t211)) (fun _ hk => hk.2) (.string t212)) (fun _ hk => hk.2) (.int .i64 t213)) (fun _ hk => hk.2) (.string t214)) (fun _ h_ => h_.1))) hb);have n2_:=Aside0.mk (blk_below (g:=gb194) (o:=.cells #[.int .i64 a0_0,.slice A0_1 l0_1.length c0_1] 24 (0,0)) (by (with_reducible repeat (first|refine blk_drewN ?_ _|refine blk_drew ?_|refine blk_alloc ?_ _));refine blk_far ?_ NB194_216.out _;(with_reducible repeat (first|refine blk_drewN ?_ _|refine blk_drew ?_|refine blk_alloc ?_ _));refine blk_far ?_ NB194_216.out _;(with_reducible repeat (first|refine blk_drewN ?_ _|refine blk_drew ?_|refine blk_alloc ?_ _));refine blk_far ?_ NB194_216.out _;(with_reducible repeat (first|refine blk_drewN ?_ _|refine blk_drew ?_|refine blk_alloc ?_ _));refine blk_far ?_ NB194_216.out _;(with_reducible repeat (first|refine blk_drewN ?_ _|refine blk_drew ?_|refine blk_alloc ?_ _));exact BK194.out) hb);have n3_:=Aside0.mk (blk_below (g:=gb205) (o:=.cells #[.int .i64 t200,.string t201,.int .i64 t202,.string t203] 36 (0,0)) (by (with_reducible repeat (first|refine blk_drewN ?_ _|refine blk_drew ?_|refine blk_alloc ?_ _));refine blk_far ?_ NB205_216.out _;(with_reducible repeat (first|refine blk_drewN ?_ _|refine blk_drew ?_|refine blk_alloc ?_ _));refine blk_far ?_ NB205_216.out _;(with_reducible repeat (first|refine blk_drewN ?_ _|refine blk_drew ?_|refine blk_alloc ?_ _));refine blk_far ?_ NB205_216.out _;(with_reducible repeat (first|refine blk_drewN ?_ _|refine blk_drew ?_|refine blk_alloc ?_ _));refine blk_far ?_ NB205_216.out _;(with_reducible repeat (first|refine blk_drewN ?_ _|refine blk_drew ?_|refine blk_alloc ?_ _));exact BK205.out) hb);have n4_:=Aside0.mk (blk_below (g:=gb210) (o:=.cells #[.int .i64 t206,.slice Ao32 t207.length co32] 29 (0,0)) (by (with_reducible repeat (first|refine blk_drewN ?_ _|refine blk_drew ?_|refine blk_alloc ?_ _));refine blk_far ?_ NB210_216.out _;(with_reducible repeat (first|refine blk_drewN ?_ _|refine blk_drew ?_|refine blk_alloc ?_ _));refine blk_far ?_ NB210_216.out _;(with_reducible repeat (first|refine blk_drewN ?_ _|refine blk_drew ?_|refine blk_alloc ?_ _));refine blk_far ?_ NB210_216.out _;(with_reducible repeat (first|refine blk_drewN ?_ _|refine blk_drew ?_|refine blk_alloc ?_ _));refine blk_far ?_ NB210_216.out _;(with_reducible repeat (first|refine blk_drewN ?_ _|refine blk_drew ?_|refine blk_alloc ?_ _));exact BK210.out) hb);have n5_:=Aside0.mk (blk_below (g:=gb216) (o:=.cells #[.int .i64 t211,.string t212,.int .i64 t213,.string t214] 36 (0,0)) (by (with_reducible repeat (first|refine blk_drewN ?_ _|refine blk_drew ?_|refine blk_alloc ?_ _));refine blk_put (cs:=#[.int .i64 t211,.string t212,.int .i64 t213,.string (⟨#[]⟩ : ByteArray)]) ?_ 3 _ rfl;(with_reducible repeat (first|refine blk_drewN ?_ _|refine blk_drew ?_|refine blk_alloc ?_ _));refine blk_put (cs:=#[.int .i64 t211,.string t212,.int .i64 0,.string (⟨#[]⟩ : ByteArray)]) ?_ 2 _ rfl;(with_reducible repeat (first|refine blk_drewN ?_ _|refine blk_drew ?_|refine blk_alloc ?_ _));refine blk_put (cs:=#[.int .i64 t211,.string (⟨#[]⟩ : ByteArray),.int .i64 0,.string (⟨#[]⟩ : ByteArray)]) ?_ 1 _ rfl;(with_reducible repeat (first|refine blk_drewN ?_ _|refine blk_drew ?_|refine blk_alloc ?_ _));refine blk_put (cs:=#[.int .i64 0,.string (⟨#[]⟩ : ByteArray),.int .i64 0,.string (⟨#[]⟩ : ByteArray)]) ?_ 0 _ rfl;(with_reducible repeat (first|refine blk_drewN ?_ _|refine blk_drew ?_|refine blk_alloc ?_ _));exact BK216.out) hb);have n6_:=Aside0.mk (below_step (by repeat (first|(with_reducible first|exact HB.out|apply below_alloc|apply pw_below_drewN|apply below_drew1|refine below_set ?_ GE194.out|refine below_set ?_ GE205.out|refine below_set ?_ GE210.out|refine below_set ?_ GE216.out)|exact HB.out)) hb);clear HO199 HO209 BK194 BK205 BK210 BK216 HB;have HO199:=n0_;have HO209:=n1_;have BK194:=n2_;have BK205:=n3_;have BK210:=n4_;have BK216:=n5_;have HB:=n6_;clear n0_ n1_ n2_ n3_ n4_ n5_ n6_;(try clear hb);(try clear hb2);(try clear hk);(try clear hi)))
     go_meet
     case rel => exact ⟨_,((t215 != t204)),(by first|rfl|(simp;done)|(simp [*];done)),H',⟨by first|omega|exact Nat.le_refl _⟩,⟨by (with_reducible repeat (first|apply Kd.R_alloc|apply Kd.R_drewN|apply Kd.R_drew));exact Kd.R_mono HO209.out (fun _ hk => ⟨hk.1.2,hk.2⟩)⟩,⟨by (with_reducible repeat (first|refine blk_drewN ?_ _|refine blk_drew ?_|refine blk_alloc ?_ _));exact BK194.out⟩,⟨by (with_reducible repeat (first|refine blk_drewN ?_ _|refine blk_drew ?_|refine blk_alloc ?_ _));exact BK205.out⟩,⟨by (with_reducible repeat (first|refine blk_drewN ?_ _|refine blk_drew ?_|refine blk_alloc ?_ _));exact BK210.out⟩,⟨by (with_reducible repeat (first|refine blk_drewN ?_ _|refine blk_drew ?_|refine blk_alloc ?_ _));exact BK216.out⟩,⟨by repeat (first|(with_reducible first|exact HB.out|apply below_alloc|apply pw_below_drewN|apply below_drew1|refine below_set ?_ GE194.out|refine below_set ?_ GE205.out|refine below_set ?_ GE210.out|refine below_set ?_ GE216.out)|exact HB.out)⟩⟩
    ·replace c40 := Bool.eq_false_iff.mpr c40
     subst c40
     have H1 : (laws_FnExactCatGet.j0 k true a0_0 l0_1 t206 t207) = some r:=by rw [if_neg (show ¬ (false = true) by decide)] at H;exact H
     clear H
     have H := H1
     clear H1
     have H' := Aside0.mk H
     clear H
     have hnb49 := NB216_194.out
     have hnc49 := NB194_216.out
     have hnb50 := NB216_205.out
     have hnc50 := NB205_216.out
     have hnb51 := NB216_210.out
     have hnc51 := NB210_216.out
     have hcz52_0 : w34.cell? ⟨gb216,0,none⟩ = some (.int .i64 0):=(blk_cell BK216.out 0).trans rfl
     have hcz52_1 : w34.cell? ⟨gb216,1,none⟩ = some (.string (⟨#[]⟩ : ByteArray)):=(blk_cell BK216.out 1).trans rfl
     have hcz52_2 : w34.cell? ⟨gb216,2,none⟩ = some (.int .i64 0):=(blk_cell BK216.out 2).trans rfl
     have hcz52_3 : w34.cell? ⟨gb216,3,none⟩ = some (.string (⟨#[]⟩ : ByteArray)):=(blk_cell BK216.out 3).trans rfl
     have hfz52_0 := blk_frozen BK216.out 0
     have hfz52_1 := blk_frozen BK216.out 1
     have hfz52_2 := blk_frozen BK216.out 2
     have hfz52_3 := blk_frozen BK216.out 3
     have hnb53 := NB205_194.out
     have hnc53 := NB194_205.out
     have hnb54 := NB205_210.out
     have hnc54 := NB210_205.out
     have hcz55_0 : w34.cell? ⟨gb205,0,none⟩ = some (.int .i64 t200):=(blk_cell BK205.out 0).trans rfl
     have hcz55_1 : w34.cell? ⟨gb205,1,none⟩ = some (.string t201):=(blk_cell BK205.out 1).trans rfl
     have hcz55_2 : w34.cell? ⟨gb205,2,none⟩ = some (.int .i64 t202):=(blk_cell BK205.out 2).trans rfl
     have hcz55_3 : w34.cell? ⟨gb205,3,none⟩ = some (.string t203):=(blk_cell BK205.out 3).trans rfl
     have hfz55_0 := blk_frozen BK205.out 0
     have hfz55_1 := blk_frozen BK205.out 1
     have hfz55_2 := blk_frozen BK205.out 2
     have hfz55_3 := blk_frozen BK205.out 3
     go_wp2_with (first|((with_reducible refine gate_callee (f:=22) rfl ?_);refine goesL_ (some 40) rfl rfl Try.func22 (by kernel_rfl) rfl #[.agg #[.int .i64 t211,.string t212,.int .i64 t213,.string t214],.agg #[.int .i64 t200,.string t201,.int .i64 t202,.string t203]] rfl (by (try simp only [List.map_toArray,List.map_cons,List.map_nil]);first|done|rfl|(simp only [List.length_drop,List.length_take];rfl)) ?_;(with_reducible refine (laws_eqItem.calls t211 t212 t213 t214 t200 t201 t202 t203 false _ A39.out).mono ?_);rintro e w56 ⟨rfl,hb⟩;refine ⟨_,rfl,?_⟩;have n0_:=Aside0.mk (Kd.R_below (by (with_reducible repeat (first|apply Kd.R_alloc|apply Kd.R_drewN|apply Kd.R_drew));exact (Kd.R_mono (Kd.R_far (p:=⟨gb216,3,none⟩) (Kd.R_far (p:=⟨gb216,2,none⟩) (Kd.R_far (p:=⟨gb216,1,none⟩) (Kd.R_far (p:=⟨gb216,0,none⟩) (Kd.R_mono HO199.out (fun k_ hk => (⟨hk,hk.2⟩ : _ ∧ k_ ≠ gb216))) (fun _ hk => hk.2) (.int .i64 t211)) (fun _ hk => hk.2) (.string t212)) (fun _ hk => hk.2) (.int .i64 t213)) (fun _ hk => hk.2) (.string t214)) (fun _ h_ => h_.1))) hb);have n1_:=Aside0.mk (Kd.R_below (by (with_reducible repeat (first|apply Kd.R_alloc|apply Kd.R_drewN|apply Kd.R_drew));exact (Kd.R_mono (Kd.R_far (p:=⟨gb216,3,none⟩) (Kd.R_far (p:=⟨gb216,2,none⟩) (Kd.R_far (p:=⟨gb216,1,none⟩) (Kd.R_far (p:=⟨gb216,0,none⟩) (Kd.R_mono HO209.out (fun k_ hk => (⟨hk,hk.2⟩ : _ ∧ k_ ≠ gb216))) (fun _ hk => hk.2) (.int .i64 t211)) (fun _ hk => hk.2) (.string t212)) (fun _ hk => hk.2) (.int .i64 t213)) (fun _ hk => hk.2) (.string t214)) (fun _ h_ => h_.1))) hb);have n2_:=Aside0.mk (blk_below (g:=gb194) (o:=.cells #[.int .i64 a0_0,.slice A0_1 l0_1.length c0_1] 24 (0,0)) (by (with_reducible repeat (first|refine blk_drewN ?_ _|refine blk_drew ?_|refine blk_alloc ?_ _));refine blk_far ?_ NB194_216.out _;(with_reducible repeat (first|refine blk_drewN ?_ _|refine blk_drew ?_|refine blk_alloc ?_ _));refine blk_far ?_ NB194_216.out _;(with_reducible repeat (first|refine blk_drewN ?_ _|refine blk_drew ?_|refine blk_alloc ?_ _));refine blk_far ?_ NB194_216.out _;(with_reducible repeat (first|refine blk_drewN ?_ _|refine blk_drew ?_|refine blk_alloc ?_ _));refine blk_far ?_ NB194_216.out _;(with_reducible repeat (first|refine blk_drewN ?_ _|refine blk_drew ?_|refine blk_alloc ?_ _));exact BK194.out) hb);have n3_:=Aside0.mk (blk_below (g:=gb205) (o:=.cells #[.int .i64 t200,.string t201,.int .i64 t202,.string t203] 36 (0,0)) (by (with_reducible repeat (first|refine blk_drewN ?_ _|refine blk_drew ?_|refine blk_alloc ?_ _));refine blk_far ?_ NB205_216.out _;(with_reducible repeat (first|refine blk_drewN ?_ _|refine blk_drew ?_|refine blk_alloc ?_ _));refine blk_far ?_ NB205_216.out _;(with_reducible repeat (first|refine blk_drewN ?_ _|refine blk_drew ?_|refine blk_alloc ?_ _));refine blk_far ?_ NB205_216.out _;(with_reducible repeat (first|refine blk_drewN ?_ _|refine blk_drew ?_|refine blk_alloc ?_ _));refine blk_far ?_ NB205_216.out _;(with_reducible repeat (first|refine blk_drewN ?_ _|refine blk_drew ?_|refine blk_alloc ?_ _));exact BK205.out) hb);have n4_:=Aside0.mk (blk_below (g:=gb210) (o:=.cells #[.int .i64 t206,.slice Ao32 t207.length co32] 29 (0,0)) (by (with_reducible repeat (first|refine blk_drewN ?_ _|refine blk_drew ?_|refine blk_alloc ?_ _));refine blk_far ?_ NB210_216.out _;(with_reducible repeat (first|refine blk_drewN ?_ _|refine blk_drew ?_|refine blk_alloc ?_ _));refine blk_far ?_ NB210_216.out _;(with_reducible repeat (first|refine blk_drewN ?_ _|refine blk_drew ?_|refine blk_alloc ?_ _));refine blk_far ?_ NB210_216.out _;(with_reducible repeat (first|refine blk_drewN ?_ _|refine blk_drew ?_|refine blk_alloc ?_ _));refine blk_far ?_ NB210_216.out _;(with_reducible repeat (first|refine blk_drewN ?_ _|refine blk_drew ?_|refine blk_alloc ?_ _));exact BK210.out) hb);have n5_:=Aside0.mk (blk_below (g:=gb216) (o:=.cells #[.int .i64 t211,.string t212,.int .i64 t213,.string t214] 36 (0,0)) (by (with_reducible repeat (first|refine blk_drewN ?_ _|refine blk_drew ?_|refine blk_alloc ?_ _));refine blk_put (cs:=#[.int .i64 t211,.string t212,.int .i64 t213,.string (⟨#[]⟩ : ByteArray)]) ?_ 3 _ rfl;(with_reducible repeat (first|refine blk_drewN ?_ _|refine blk_drew ?_|refine blk_alloc ?_ _));refine blk_put (cs:=#[.int .i64 t211,.string t212,.int .i64 0,.string (⟨#[]⟩ : ByteArray)]) ?_ 2 _ rfl;(with_reducible repeat (first|refine blk_drewN ?_ _|refine blk_drew ?_|refine blk_alloc ?_ _));refine blk_put (cs:=#[.int .i64 t211,.string (⟨#[]⟩ : ByteArray),.int .i64 0,.string (⟨#[]⟩ : ByteArray)]) ?_ 1 _ rfl;(with_reducible repeat (first|refine blk_drewN ?_ _|refine blk_drew ?_|refine blk_alloc ?_ _));refine blk_put (cs:=#[.int .i64 0,.string (⟨#[]⟩ : ByteArray),.int .i64 0,.string (⟨#[]⟩ : ByteArray)]) ?_ 0 _ rfl;(with_reducible repeat (first|refine blk_drewN ?_ _|refine blk_drew ?_|refine blk_alloc ?_ _));exact BK216.out) hb);have n6_:=Aside0.mk (below_step (by repeat (first|(with_reducible first|exact HB.out|apply below_alloc|apply pw_below_drewN|apply below_drew1|refine below_set ?_ GE194.out|refine below_set ?_ GE205.out|refine below_set ?_ GE210.out|refine below_set ?_ GE216.out)|exact HB.out)) hb);clear HO199 HO209 BK194 BK205 BK210 BK216 HB;have HO199:=n0_;have HO209:=n1_;have BK194:=n2_;have BK205:=n3_;have BK210:=n4_;have BK216:=n5_;have HB:=n6_;clear n0_ n1_ n2_ n3_ n4_ n5_ n6_;(try clear hb);(try clear hb2);(try clear hk);(try clear hi)))
     go_meet
     case rel => exact ⟨_,(true),(by first|rfl|(simp;done)|(simp [*];done)),H',⟨by first|omega|exact Nat.le_refl _⟩,⟨by (with_reducible repeat (first|apply Kd.R_alloc|apply Kd.R_drewN|apply Kd.R_drew));exact Kd.R_mono HO209.out (fun _ hk => ⟨hk.1.2,hk.2⟩)⟩,⟨by (with_reducible repeat (first|refine blk_drewN ?_ _|refine blk_drew ?_|refine blk_alloc ?_ _));exact BK194.out⟩,⟨by (with_reducible repeat (first|refine blk_drewN ?_ _|refine blk_drew ?_|refine blk_alloc ?_ _));exact BK205.out⟩,⟨by (with_reducible repeat (first|refine blk_drewN ?_ _|refine blk_drew ?_|refine blk_alloc ?_ _));exact BK210.out⟩,⟨by (with_reducible repeat (first|refine blk_drewN ?_ _|refine blk_drew ?_|refine blk_alloc ?_ _));exact BK216.out⟩,⟨by repeat (first|(with_reducible first|exact HB.out|apply below_alloc|apply pw_below_drewN|apply below_drew1|refine below_set ?_ GE194.out|refine below_set ?_ GE205.out|refine below_set ?_ GE210.out|refine below_set ?_ GE216.out)|exact HB.out)⟩⟩
   case rest =>
    clear HC15
    try clear c1
    try clear c2
    try clear p2
    try clear c3
    try clear c4
    try clear c4b0
    try clear c4b1
    try clear c5
    try clear c6
    try clear c7
    try clear c7b0
    try clear c13
    try clear c15
    try clear c22
    try clear c23
    try clear c24
    try clear c29
    try clear c30
    try clear c35
    try clear c36
    try clear c37
    try clear c40
    try clear c41
    try clear c42
    try clear c43
    try clear c45
    try clear c46
    try clear c49
    try clear c50
    try clear c51
    try clear c53
    try clear c54
    try clear hcz17_0
    try clear hcz17_1
    try clear hcz19_0
    try clear hcz19_1
    try clear hcz25_0
    try clear hcz25_1
    try clear hcz25_2
    try clear hcz25_3
    try clear hcz26_0
    try clear hcz26_1
    try clear hcz31_0
    try clear hcz31_1
    try clear hcz38_0
    try clear hcz38_1
    try clear hcz38_2
    try clear hcz38_3
    try clear hcz44_0
    try clear hcz44_1
    try clear hcz44_2
    try clear hcz44_3
    try clear hcz47_0
    try clear hcz47_1
    try clear hcz47_2
    try clear hcz47_3
    try clear hcz52_0
    try clear hcz52_1
    try clear hcz52_2
    try clear hcz52_3
    try clear hcz55_0
    try clear hcz55_1
    try clear hcz55_2
    try clear hcz55_3
    try clear hcz9_0
    try clear hcz9_1
    try clear hfz17_0
    try clear hfz17_1
    try clear hfz19_0
    try clear hfz19_1
    try clear hfz25_0
    try clear hfz25_1
    try clear hfz25_2
    try clear hfz25_3
    try clear hfz26_0
    try clear hfz26_1
    try clear hfz31_0
    try clear hfz31_1
    try clear hfz38_0
    try clear hfz38_1
    try clear hfz38_2
    try clear hfz38_3
    try clear hfz44_0
    try clear hfz44_1
    try clear hfz44_2
    try clear hfz44_3
    try clear hfz47_0
    try clear hfz47_1
    try clear hfz47_2
    try clear hfz47_3
    try clear hfz52_0
    try clear hfz52_1
    try clear hfz52_2
    try clear hfz52_3
    try clear hfz55_0
    try clear hfz55_1
    try clear hfz55_2
    try clear hfz55_3
    try clear hfz9_0
    try clear hfz9_1
    obtain ⟨kq,x46_14,rfl,HA,HJ14,HO_211001,BK194,BK205,BK210,BK216,HB⟩:=hcut
    cases kq with
    | zero => exact absurd HA.out (by simp [laws_FnExactCatGet.j0])
    | succ kj14 =>
     have H := HA.out
     clear HA
     simp only [laws_FnExactCatGet.j0] at H
     by_cases c57 : x46_14 = true
     ·subst c57
      have H1 : (some false) = some r:=by rw [if_pos rfl] at H;exact H
      clear H
      have H := H1
      clear H1
      obtain rfl := Option.some.inj H
      go_wp2
      go_ret
      exact ⟨by first|rfl|(simp [errW_none,errW_some] <;> rfl)|(simp [*,errW_none,errW_some] <;> rfl),by repeat (first|(with_reducible first|exact HB.out|apply below_alloc|apply pw_below_drewN|apply below_drew1|refine below_set ?_ GE194.out|refine below_set ?_ GE205.out|refine below_set ?_ GE210.out|refine below_set ?_ GE216.out)|exact HB.out)⟩
     ·replace c57 := Bool.eq_false_iff.mpr c57
      subst c57
      have H1 : ((laws_toCat.f kj14 a0_0 l0_1).bind fun bt218 => ((laws_eqCat.f kj14 t206 t207 bt218.1 bt218.2).bind fun t222 => (if t222 = true then (some true) else (some false)))) = some r:=by rw [if_neg (show ¬ (false = true) by decide)] at H;exact H
      clear H
      have H := H1
      clear H1
      replace H := Option.bind_eq_some_iff.mp H
      obtain ⟨⟨t218, t219⟩, A580, H⟩ := H
      replace H : ((laws_eqCat.f kj14 t206 t207 t218 t219).bind fun t222 => (if t222 = true then (some true) else (some false))) = some r:=H
      have A58 := Aside0.mk A580
      clear A580
      replace H := Option.bind_eq_some_iff.mp H
      obtain ⟨t222, A590, H⟩ := H
      replace H : (if t222 = true then (some true) else (some false)) = some r:=H
      have A59 := Aside0.mk A590
      clear A590
      by_cases c60 : t222 = true
      ·subst c60
       have H1 : (some true) = some r:=by rw [if_pos rfl] at H;exact H
       clear H
       have H := H1
       clear H1
       obtain rfl := Option.some.inj H
       try go_wp2
       have n0_ := Aside0.mk (Kd.R_drew HO_211001.out)
       have n1_ := Aside0.mk (blk_drew BK194.out)
       have n2_ := Aside0.mk (blk_drew BK205.out)
       have n3_ := Aside0.mk (blk_drew BK210.out)
       have n4_ := Aside0.mk (blk_drew BK216.out)
       have n5_ := Aside0.mk (below_drew1 HB.out)
       clear HO_211001
       clear BK194
       clear BK205
       clear BK210
       clear BK216
       clear HB
       have HO_211001 := n0_
       have BK194 := n1_
       have BK205 := n2_
       have BK210 := n3_
       have BK216 := n4_
       have HB := n5_
       clear n0_ n1_ n2_ n3_ n4_ n5_
       refine start_ (n:=5) (S:=fun w' => w'.cell? ⟨gb210,0,none⟩ = some (.int .i64 t206) ∧ w'.cell? ⟨gb210,1,none⟩ = some (.slice Ao32 t207.length co32) ∧ w'.cell? ⟨gb194,0,none⟩ = some (.int .i64 a0_0) ∧ w'.cell? ⟨gb194,1,none⟩ = some (.slice A0_1 l0_1.length c0_1)) (ds:=[]) #[false,false,false,false,false] (by kernel_rfl) rfl rfl ⟨(blk_cell BK210.out 0).trans rfl,(blk_cell BK210.out 1).trans rfl,(blk_cell BK194.out 0).trans rfl,(blk_cell BK194.out 1).trans rfl⟩ (fun hHeld => ?_)
       generalize wc.drew = w61 at HO_211001 BK194 BK205 BK210 BK216 HB hHeld ⊢
       refine take_ (i:=0) (N:=some 47) (v:=?_) (a':=?_) #[true,false,false,false,false] rfl rfl (by kernel_rfl) (fun _ _ _ h => h) (Or.inl ⟨by rfl,?_⟩) hHeld ?_ ?_
       rotate_left
       ·rintro w' ⟨s0, s1, s2, s3⟩
        go_simp
        with_reducible rfl
       rotate_left
       ·simp only [Act.put,List.setIfInBounds_toArray,List.set_cons_zero,List.set_cons_succ,i64_w,i32_w]
        rfl
       refine take_ (i:=1) (N:=some 48) (v:=?_) (a':=?_) #[true,true,false,false,false] rfl rfl (by kernel_rfl) (fun _ _ _ h => h) (Or.inl ⟨by rfl,?_⟩) hHeld ?_ ?_
       rotate_left
       ·rintro w' ⟨s0, s1, s2, s3⟩
        go_simp
        with_reducible rfl
       rotate_left
       ·simp only [Act.put,List.setIfInBounds_toArray,List.set_cons_zero,List.set_cons_succ,i64_w,i32_w]
        rfl
       refine one_ (i:=2) (N:=some 49) #[true,true,true,false,false] rfl rfl (by kernel_rfl) (by decide) (fun K hK => ?_)
       refine goes_ Try.func15 (by kernel_rfl) rfl #[.agg #[.int .i64 a0_0,.slice A0_1 l0_1.length c0_1]] (by rfl) rfl rfl (by (try simp only [List.map_toArray,List.map_cons,List.map_nil]);first|done|rfl|(simp only [List.length_drop,List.length_take];rfl)) ?_
       with_reducible refine (laws_toCat.calls kj14 a0_0 _ _ l0_1 t218 t219 _ ?side1 ?side2 A58.out).mono ?_
       (case side1 => repeat (first|exact (Kd.C_below HR0_1.out HB.out)|(with_reducible refine Kd.C_alloc ?_ _)|(with_reducible refine Kd.C_drewN ?_ _)|(with_reducible refine Kd.C_drew ?_)))
       (case side2 => exact HC0_1.out)
       rintro e w62 ⟨v220, rfl, ho0, hb⟩
       refine ⟨_, rfl, ?_⟩
       have n0_:=Aside0.mk (Kd.R_elder' (by (with_reducible repeat (first|apply Kd.R_alloc|apply Kd.R_drewN|apply Kd.R_drew));exact HO_211001.out) (Kd.R_base ho0) hb)
       have n1_:=Aside0.mk (Kd.R_lower (Kd.R_newB (Kd.R_newB (Kd.R_new' ho0 (Kd.R_lt (by (with_reducible repeat (first|apply Kd.R_alloc|apply Kd.R_drewN|apply Kd.R_drew));exact HO_211001.out))) (g:=gb205) (o:=.cells #[.int .i64 t200,.string t201,.int .i64 t202,.string t203] 36 (0,0)) (by (with_reducible repeat (first|refine blk_drewN ?_ _|refine blk_drew ?_|refine blk_alloc ?_ _));exact BK205.out)) (g:=gb216) (o:=.cells #[.int .i64 t211,.string t212,.int .i64 t213,.string t214] 36 (0,0)) (by (with_reducible repeat (first|refine blk_drewN ?_ _|refine blk_drew ?_|refine blk_alloc ?_ _));exact BK216.out)) (below_size (by repeat (first|(with_reducible first|exact HB.out|apply below_alloc|apply pw_below_drewN|apply below_drew1|refine below_set ?_ GE194.out|refine below_set ?_ GE205.out|refine below_set ?_ GE210.out|refine below_set ?_ GE216.out)|exact HB.out))))
       have n2_:=Aside0.mk (blk_below (g:=gb194) (o:=.cells #[.int .i64 a0_0,.slice A0_1 l0_1.length c0_1] 24 (0,0)) (by (with_reducible repeat (first|refine blk_drewN ?_ _|refine blk_drew ?_|refine blk_alloc ?_ _));exact BK194.out) hb)
       have n3_:=Aside0.mk (blk_below (g:=gb205) (o:=.cells #[.int .i64 t200,.string t201,.int .i64 t202,.string t203] 36 (0,0)) (by (with_reducible repeat (first|refine blk_drewN ?_ _|refine blk_drew ?_|refine blk_alloc ?_ _));exact BK205.out) hb)
       have n4_:=Aside0.mk (blk_below (g:=gb210) (o:=.cells #[.int .i64 t206,.slice Ao32 t207.length co32] 29 (0,0)) (by (with_reducible repeat (first|refine blk_drewN ?_ _|refine blk_drew ?_|refine blk_alloc ?_ _));exact BK210.out) hb)
       have n5_:=Aside0.mk (blk_below (g:=gb216) (o:=.cells #[.int .i64 t211,.string t212,.int .i64 t213,.string t214] 36 (0,0)) (by (with_reducible repeat (first|refine blk_drewN ?_ _|refine blk_drew ?_|refine blk_alloc ?_ _));exact BK216.out) hb)
       have n6_:=Aside0.mk (below_step (by repeat (first|(with_reducible first|exact HB.out|apply below_alloc|apply pw_below_drewN|apply below_drew1|refine below_set ?_ GE194.out|refine below_set ?_ GE205.out|refine below_set ?_ GE210.out|refine below_set ?_ GE216.out)|exact HB.out)) hb)
       clear HO_211001
       clear BK194
       clear BK205
       clear BK210
       clear BK216
       clear HB
       have HO_211001 := n0_
       have HO221 := n1_
       have BK194 := n2_
       have BK205 := n3_
       have BK210 := n4_
       have BK216 := n5_
       have HB := n6_
       clear n0_ n1_ n2_ n3_ n4_ n5_ n6_
       (try clear hb)
       (try clear hb2)
       (try clear hk)
       (try clear hi)
       (try clear ho0)
       obtain ⟨Ao63, co63, eo63⟩ := Kd.R_slice HO221.out
       (first|subst eo63|(injection eo63 with f1_ f2_ f3_;have f4_:=f1_.symm;have f5_:=f3_.symm;clear f1_ f2_ f3_;subst f4_;subst f5_))
       refine hK.out _ _ ⟨(blk_cell BK210.out 0).trans rfl,(blk_cell BK210.out 1).trans rfl,(blk_cell BK194.out 0).trans rfl,(blk_cell BK194.out 1).trans rfl⟩ (fun hHeld => ?_)
       clear hK K
       refine norm_ (a' := ?_) ?_ ?_
       rotate_left
       ·show Act.put _ (some 49) _ = _
        simp only [Act.put,List.setIfInBounds_toArray,List.set_cons_zero,List.set_cons_succ,i64_w,i32_w]
        rfl
       refine one_ (i:=3) (N:=some 50) #[true,true,true,true,false] rfl rfl (by kernel_rfl) (by decide) (fun K hK => ?_)
       refine goes_ Try.func17 (by kernel_rfl) rfl #[.agg #[.int .i64 t206,.slice Ao32 t207.length co32],.agg #[.int .i64 t218,.slice Ao63 t219.length co63]] (by rfl) rfl rfl (by (try simp only [List.map_toArray,List.map_cons,List.map_nil]);first|done|rfl|(simp only [List.length_drop,List.length_take];rfl)) ?_
       with_reducible refine (laws_eqCat.calls kj14 t206 _ _ t207 t218 _ _ t219 true _ ?side1 ?side2 ?side3 ?side4 A59.out).mono ?_
       (case side1 => repeat (first|exact (Kd.R_reads' HO_211001.out).2.2|(with_reducible refine Kd.C_alloc ?_ _)|(with_reducible refine Kd.C_drewN ?_ _)|(with_reducible refine Kd.C_drew ?_)))
       (case side2 => exact (Kd.R_reads' HO_211001.out).2.1)
       (case side3 => repeat (first|exact (Kd.R_reads' HO221.out).2.2|(with_reducible refine Kd.C_alloc ?_ _)|(with_reducible refine Kd.C_drewN ?_ _)|(with_reducible refine Kd.C_drew ?_)))
       (case side4 => exact (Kd.R_reads' HO221.out).2.1)
       rintro e w64 ⟨rfl, hb⟩
       refine ⟨_, rfl, ?_⟩
       have n0_:=Aside0.mk (Kd.R_below (by (with_reducible repeat (first|apply Kd.R_alloc|apply Kd.R_drewN|apply Kd.R_drew));exact HO_211001.out) hb)
       have n1_:=Aside0.mk (Kd.R_below (by (with_reducible repeat (first|apply Kd.R_alloc|apply Kd.R_drewN|apply Kd.R_drew));exact HO221.out) hb)
       have n2_:=Aside0.mk (blk_below (g:=gb194) (o:=.cells #[.int .i64 a0_0,.slice A0_1 l0_1.length c0_1] 24 (0,0)) (by (with_reducible repeat (first|refine blk_drewN ?_ _|refine blk_drew ?_|refine blk_alloc ?_ _));exact BK194.out) hb)
       have n3_:=Aside0.mk (blk_below (g:=gb205) (o:=.cells #[.int .i64 t200,.string t201,.int .i64 t202,.string t203] 36 (0,0)) (by (with_reducible repeat (first|refine blk_drewN ?_ _|refine blk_drew ?_|refine blk_alloc ?_ _));exact BK205.out) hb)
       have n4_:=Aside0.mk (blk_below (g:=gb210) (o:=.cells #[.int .i64 t206,.slice Ao32 t207.length co32] 29 (0,0)) (by (with_reducible repeat (first|refine blk_drewN ?_ _|refine blk_drew ?_|refine blk_alloc ?_ _));exact BK210.out) hb)
       have n5_:=Aside0.mk (blk_below (g:=gb216) (o:=.cells #[.int .i64 t211,.string t212,.int .i64 t213,.string t214] 36 (0,0)) (by (with_reducible repeat (first|refine blk_drewN ?_ _|refine blk_drew ?_|refine blk_alloc ?_ _));exact BK216.out) hb)
       have n6_:=Aside0.mk (below_step (by repeat (first|(with_reducible first|exact HB.out|apply below_alloc|apply pw_below_drewN|apply below_drew1|refine below_set ?_ GE194.out|refine below_set ?_ GE205.out|refine below_set ?_ GE210.out|refine below_set ?_ GE216.out)|exact HB.out)) hb)
       clear HO_211001
       clear HO221
       clear BK194
       clear BK205
       clear BK210
       clear BK216
       clear HB
       have HO_211001 := n0_
       have HO221 := n1_
       have BK194 := n2_
       have BK205 := n3_
       have BK210 := n4_
       have BK216 := n5_
       have HB := n6_
       clear n0_ n1_ n2_ n3_ n4_ n5_ n6_
       (try clear hb)
       (try clear hb2)
       (try clear hk)
       (try clear hi)
       refine hK.out _ _ ⟨(blk_cell BK210.out 0).trans rfl,(blk_cell BK210.out 1).trans rfl,(blk_cell BK194.out 0).trans rfl,(blk_cell BK194.out 1).trans rfl⟩ (fun hHeld => ?_)
       clear hK K
       refine norm_ (a' := ?_) ?_ ?_
       rotate_left
       ·show Act.put _ (some 50) _ = _
        simp only [Act.put,List.setIfInBounds_toArray,List.set_cons_zero,List.set_cons_succ,i64_w,i32_w]
        rfl
       refine pure_ (i:=4) (N:=some 51) (v:=?_) (a':=?_) #[true,true,true,true,true] rfl rfl (by kernel_rfl) (fun _ _ _ h => h) (Or.inl ⟨by rfl,?_⟩) ?_ ?_
       rotate_left
       ·intro w'
        go_simp
        with_reducible rfl
       rotate_left
       ·simp only [Act.put,List.setIfInBounds_toArray,List.set_cons_zero,List.set_cons_succ,i64_w,i32_w]
        rfl
       refine done_ (by kernel_rfl) ?_
       try go_wp2
       go_ret
       exact ⟨by first|rfl|(simp [errW_none,errW_some] <;> rfl)|(simp [*,errW_none,errW_some] <;> rfl),by repeat (first|(with_reducible first|exact HB.out|apply below_alloc|apply pw_below_drewN|apply below_drew1|refine below_set ?_ GE194.out|refine below_set ?_ GE205.out|refine below_set ?_ GE210.out|refine below_set ?_ GE216.out)|exact HB.out)⟩
      ·replace c60 := Bool.eq_false_iff.mpr c60
       subst c60
       have H1 : (some false) = some r:=by rw [if_neg (show ¬ (false = true) by decide)] at H;exact H
       clear H
       have H := H1
       clear H1
       obtain rfl := Option.some.inj H
       try go_wp2
       have n0_ := Aside0.mk (Kd.R_drew HO_211001.out)
       have n1_ := Aside0.mk (blk_drew BK194.out)
       have n2_ := Aside0.mk (blk_drew BK205.out)
       have n3_ := Aside0.mk (blk_drew BK210.out)
       have n4_ := Aside0.mk (blk_drew BK216.out)
       have n5_ := Aside0.mk (below_drew1 HB.out)
       clear HO_211001
       clear BK194
       clear BK205
       clear BK210
       clear BK216
       clear HB
       have HO_211001 := n0_
       have BK194 := n1_
       have BK205 := n2_
       have BK210 := n3_
       have BK216 := n4_
       have HB := n5_
       clear n0_ n1_ n2_ n3_ n4_ n5_
       refine start_ (n:=5) (S:=fun w' => w'.cell? ⟨gb210,0,none⟩ = some (.int .i64 t206) ∧ w'.cell? ⟨gb210,1,none⟩ = some (.slice Ao32 t207.length co32) ∧ w'.cell? ⟨gb194,0,none⟩ = some (.int .i64 a0_0) ∧ w'.cell? ⟨gb194,1,none⟩ = some (.slice A0_1 l0_1.length c0_1)) (ds:=[]) #[false,false,false,false,false] (by kernel_rfl) rfl rfl ⟨(blk_cell BK210.out 0).trans rfl,(blk_cell BK210.out 1).trans rfl,(blk_cell BK194.out 0).trans rfl,(blk_cell BK194.out 1).trans rfl⟩ (fun hHeld => ?_)
       generalize wc.drew = w65 at HO_211001 BK194 BK205 BK210 BK216 HB hHeld ⊢
       refine take_ (i:=0) (N:=some 47) (v:=?_) (a':=?_) #[true,false,false,false,false] rfl rfl (by kernel_rfl) (fun _ _ _ h => h) (Or.inl ⟨by rfl,?_⟩) hHeld ?_ ?_
       rotate_left
       ·rintro w' ⟨s0, s1, s2, s3⟩
        go_simp
        with_reducible rfl
       rotate_left
       ·simp only [Act.put,List.setIfInBounds_toArray,List.set_cons_zero,List.set_cons_succ,i64_w,i32_w]
        rfl
       refine take_ (i:=1) (N:=some 48) (v:=?_) (a':=?_) #[true,true,false,false,false] rfl rfl (by kernel_rfl) (fun _ _ _ h => h) (Or.inl ⟨by rfl,?_⟩) hHeld ?_ ?_
       rotate_left
       ·rintro w' ⟨s0, s1, s2, s3⟩
        go_simp
        with_reducible rfl
       rotate_left
       ·simp only [Act.put,List.setIfInBounds_toArray,List.set_cons_zero,List.set_cons_succ,i64_w,i32_w]
        rfl
       refine one_ (i:=2) (N:=some 49) #[true,true,true,false,false] rfl rfl (by kernel_rfl) (by decide) (fun K hK => ?_)
       refine goes_ Try.func15 (by kernel_rfl) rfl #[.agg #[.int .i64 a0_0,.slice A0_1 l0_1.length c0_1]] (by rfl) rfl rfl (by (try simp only [List.map_toArray,List.map_cons,List.map_nil]);first|done|rfl|(simp only [List.length_drop,List.length_take];rfl)) ?_
       with_reducible refine (laws_toCat.calls kj14 a0_0 _ _ l0_1 t218 t219 _ ?side1 ?side2 A58.out).mono ?_
       (case side1 => repeat (first|exact (Kd.C_below HR0_1.out HB.out)|(with_reducible refine Kd.C_alloc ?_ _)|(with_reducible refine Kd.C_drewN ?_ _)|(with_reducible refine Kd.C_drew ?_)))
       (case side2 => exact HC0_1.out)
       rintro e w66 ⟨v220, rfl, ho0, hb⟩
       refine ⟨_, rfl, ?_⟩
       have n0_:=Aside0.mk (Kd.R_elder' (by (with_reducible repeat (first|apply Kd.R_alloc|apply Kd.R_drewN|apply Kd.R_drew));exact HO_211001.out) (Kd.R_base ho0) hb)
       have n1_:=Aside0.mk (Kd.R_lower (Kd.R_newB (Kd.R_newB (Kd.R_new' ho0 (Kd.R_lt (by (with_reducible repeat (first|apply Kd.R_alloc|apply Kd.R_drewN|apply Kd.R_drew));exact HO_211001.out))) (g:=gb205) (o:=.cells #[.int .i64 t200,.string t201,.int .i64 t202,.string t203] 36 (0,0)) (by (with_reducible repeat (first|refine blk_drewN ?_ _|refine blk_drew ?_|refine blk_alloc ?_ _));exact BK205.out)) (g:=gb216) (o:=.cells #[.int .i64 t211,.string t212,.int .i64 t213,.string t214] 36 (0,0)) (by (with_reducible repeat (first|refine blk_drewN ?_ _|refine blk_drew ?_|refine blk_alloc ?_ _));exact BK216.out)) (below_size (by repeat (first|(with_reducible first|exact HB.out|apply below_alloc|apply pw_below_drewN|apply below_drew1|refine below_set ?_ GE194.out|refine below_set ?_ GE205.out|refine below_set ?_ GE210.out|refine below_set ?_ GE216.out)|exact HB.out))))
       have n2_:=Aside0.mk (blk_below (g:=gb194) (o:=.cells #[.int .i64 a0_0,.slice A0_1 l0_1.length c0_1] 24 (0,0)) (by (with_reducible repeat (first|refine blk_drewN ?_ _|refine blk_drew ?_|refine blk_alloc ?_ _));exact BK194.out) hb)
       have n3_:=Aside0.mk (blk_below (g:=gb205) (o:=.cells #[.int .i64 t200,.string t201,.int .i64 t202,.string t203] 36 (0,0)) (by (with_reducible repeat (first|refine blk_drewN ?_ _|refine blk_drew ?_|refine blk_alloc ?_ _));exact BK205.out) hb)
       have n4_:=Aside0.mk (blk_below (g:=gb210) (o:=.cells #[.int .i64 t206,.slice Ao32 t207.length co32] 29 (0,0)) (by (with_reducible repeat (first|refine blk_drewN ?_ _|refine blk_drew ?_|refine blk_alloc ?_ _));exact BK210.out) hb)
       have n5_:=Aside0.mk (blk_below (g:=gb216) (o:=.cells #[.int .i64 t211,.string t212,.int .i64 t213,.string t214] 36 (0,0)) (by (with_reducible repeat (first|refine blk_drewN ?_ _|refine blk_drew ?_|refine blk_alloc ?_ _));exact BK216.out) hb)
       have n6_:=Aside0.mk (below_step (by repeat (first|(with_reducible first|exact HB.out|apply below_alloc|apply pw_below_drewN|apply below_drew1|refine below_set ?_ GE194.out|refine below_set ?_ GE205.out|refine below_set ?_ GE210.out|refine below_set ?_ GE216.out)|exact HB.out)) hb)
       clear HO_211001
       clear BK194
       clear BK205
       clear BK210
       clear BK216
       clear HB
       have HO_211001 := n0_
       have HO221 := n1_
       have BK194 := n2_
       have BK205 := n3_
       have BK210 := n4_
       have BK216 := n5_
       have HB := n6_
       clear n0_ n1_ n2_ n3_ n4_ n5_ n6_
       (try clear hb)
       (try clear hb2)
       (try clear hk)
       (try clear hi)
       (try clear ho0)
       obtain ⟨Ao67, co67, eo67⟩ := Kd.R_slice HO221.out
       (first|subst eo67|(injection eo67 with f1_ f2_ f3_;have f4_:=f1_.symm;have f5_:=f3_.symm;clear f1_ f2_ f3_;subst f4_;subst f5_))
       refine hK.out _ _ ⟨(blk_cell BK210.out 0).trans rfl,(blk_cell BK210.out 1).trans rfl,(blk_cell BK194.out 0).trans rfl,(blk_cell BK194.out 1).trans rfl⟩ (fun hHeld => ?_)
       clear hK K
       refine norm_ (a' := ?_) ?_ ?_
       rotate_left
       ·show Act.put _ (some 49) _ = _
        simp only [Act.put,List.setIfInBounds_toArray,List.set_cons_zero,List.set_cons_succ,i64_w,i32_w]
        rfl
       refine one_ (i:=3) (N:=some 50) #[true,true,true,true,false] rfl rfl (by kernel_rfl) (by decide) (fun K hK => ?_)
       refine goes_ Try.func17 (by kernel_rfl) rfl #[.agg #[.int .i64 t206,.slice Ao32 t207.length co32],.agg #[.int .i64 t218,.slice Ao67 t219.length co67]] (by rfl) rfl rfl (by (try simp only [List.map_toArray,List.map_cons,List.map_nil]);first|done|rfl|(simp only [List.length_drop,List.length_take];rfl)) ?_
       with_reducible refine (laws_eqCat.calls kj14 t206 _ _ t207 t218 _ _ t219 false _ ?side1 ?side2 ?side3 ?side4 A59.out).mono ?_
       (case side1 => repeat (first|exact (Kd.R_reads' HO_211001.out).2.2|(with_reducible refine Kd.C_alloc ?_ _)|(with_reducible refine Kd.C_drewN ?_ _)|(with_reducible refine Kd.C_drew ?_)))
       (case side2 => exact (Kd.R_reads' HO_211001.out).2.1)
       (case side3 => repeat (first|exact (Kd.R_reads' HO221.out).2.2|(with_reducible refine Kd.C_alloc ?_ _)|(with_reducible refine Kd.C_drewN ?_ _)|(with_reducible refine Kd.C_drew ?_)))
       (case side4 => exact (Kd.R_reads' HO221.out).2.1)
       rintro e w68 ⟨rfl, hb⟩
       refine ⟨_, rfl, ?_⟩
       have n0_:=Aside0.mk (Kd.R_below (by (with_reducible repeat (first|apply Kd.R_alloc|apply Kd.R_drewN|apply Kd.R_drew));exact HO_211001.out) hb)
       have n1_:=Aside0.mk (Kd.R_below (by (with_reducible repeat (first|apply Kd.R_alloc|apply Kd.R_drewN|apply Kd.R_drew));exact HO221.out) hb)
       have n2_:=Aside0.mk (blk_below (g:=gb194) (o:=.cells #[.int .i64 a0_0,.slice A0_1 l0_1.length c0_1] 24 (0,0)) (by (with_reducible repeat (first|refine blk_drewN ?_ _|refine blk_drew ?_|refine blk_alloc ?_ _));exact BK194.out) hb)
       have n3_:=Aside0.mk (blk_below (g:=gb205) (o:=.cells #[.int .i64 t200,.string t201,.int .i64 t202,.string t203] 36 (0,0)) (by (with_reducible repeat (first|refine blk_drewN ?_ _|refine blk_drew ?_|refine blk_alloc ?_ _));exact BK205.out) hb)
       have n4_:=Aside0.mk (blk_below (g:=gb210) (o:=.cells #[.int .i64 t206,.slice Ao32 t207.length co32] 29 (0,0)) (by (with_reducible repeat (first|refine blk_drewN ?_ _|refine blk_drew ?_|refine blk_alloc ?_ _));exact BK210.out) hb)
       have n5_:=Aside0.mk (blk_below (g:=gb216) (o:=.cells #[.int .i64 t211,.string t212,.int .i64 t213,.string t214] 36 (0,0)) (by (with_reducible repeat (first|refine blk_drewN ?_ _|refine blk_drew ?_|refine blk_alloc ?_ _));exact BK216.out) hb)
       have n6_:=Aside0.mk (below_step (by repeat (first|(with_reducible first|exact HB.out|apply below_alloc|apply pw_below_drewN|apply below_drew1|refine below_set ?_ GE194.out|refine below_set ?_ GE205.out|refine below_set ?_ GE210.out|refine below_set ?_ GE216.out)|exact HB.out)) hb)
       clear HO_211001
       clear HO221
       clear BK194
       clear BK205
       clear BK210
       clear BK216
       clear HB
       have HO_211001 := n0_
       have HO221 := n1_
       have BK194 := n2_
       have BK205 := n3_
       have BK210 := n4_
       have BK216 := n5_
       have HB := n6_
       clear n0_ n1_ n2_ n3_ n4_ n5_ n6_
       (try clear hb)
       (try clear hb2)
       (try clear hk)
       (try clear hi)
       refine hK.out _ _ ⟨(blk_cell BK210.out 0).trans rfl,(blk_cell BK210.out 1).trans rfl,(blk_cell BK194.out 0).trans rfl,(blk_cell BK194.out 1).trans rfl⟩ (fun hHeld => ?_)
       clear hK K
       refine norm_ (a' := ?_) ?_ ?_
       rotate_left
       ·show Act.put _ (some 50) _ = _
        simp only [Act.put,List.setIfInBounds_toArray,List.set_cons_zero,List.set_cons_succ,i64_w,i32_w]
        rfl
       refine pure_ (i:=4) (N:=some 51) (v:=?_) (a':=?_) #[true,true,true,true,true] rfl rfl (by kernel_rfl) (fun _ _ _ h => h) (Or.inl ⟨by rfl,?_⟩) ?_ ?_
       rotate_left
       ·intro w'
        go_simp
        with_reducible rfl
       rotate_left
       ·simp only [Act.put,List.setIfInBounds_toArray,List.set_cons_zero,List.set_cons_succ,i64_w,i32_w]
        rfl
       refine done_ (by kernel_rfl) ?_
       try go_wp2
       go_ret
       exact ⟨by first|rfl|(simp [errW_none,errW_some] <;> rfl)|(simp [*,errW_none,errW_some] <;> rfl),by repeat (first|(with_reducible first|exact HB.out|apply below_alloc|apply pw_below_drewN|apply below_drew1|refine below_set ?_ GE194.out|refine below_set ?_ GE205.out|refine below_set ?_ GE210.out|refine below_set ?_ GE216.out)|exact HB.out)⟩

end Go.Proofs.Ytbpmfdpbgcpjeaa.PFnExactCatGet
