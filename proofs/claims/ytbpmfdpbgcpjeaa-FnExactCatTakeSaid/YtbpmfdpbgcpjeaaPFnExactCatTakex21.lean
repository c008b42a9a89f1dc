-- Written by a program of this session over the print's form. Lean checks it.
import Derived.Test.YtbpmfdpbgcpjeaaPFnExactCatTakex0
import Derived.Test.YtbpmfdpbgcpjeaaPFnExactCatTakex1
import Derived.Test.YtbpmfdpbgcpjeaaPFnExactCatTakex2
import Derived.Test.YtbpmfdpbgcpjeaaPFnExactCatTakex4
import Derived.Test.YtbpmfdpbgcpjeaaPFnExactCatTakex9
import Derived.Test.YtbpmfdpbgcpjeaaPFnExactCatTakex17
import Derived.Test.YtbpmfdpbgcpjeaaPFnExactCatTakex18
import Derived.Test.YtbpmfdpbgcpjeaaPFnExactCatTakex20
namespace Go.Proofs.Ytbpmfdpbgcpjeaa.PFnExactCatTake
open Go.RowKit Go.Proofs.YtbpmfdpbgcpjeaaW.PrintWords Go.Proofs.YtbpmfdpbgcpjeaaW.PrintLast Go.Proofs.YtbpmfdpbgcpjeaaW.PrintMore
attribute [local go_sem] max2_int min2_int max_two min_two max_three min_three max_four min_four   -- for this text's walks alone
set_option linter.unusedVariables false
set_option linter.unusedSimpArgs false

/-! ### laws_FnExactCatTake: function 8 -/
mutual
def laws_FnExactCatTake.j0 : Nat → Int → ByteArray → Int → Int → Bool → Int → List (S78) → Int → List (S36) → Int → List (S36) → Int → List (S36) → Option (Bool)
 | 0, _, _, _, _, _, _, _, _, _, _, _, _, _ => none
 | k + 1, x1, x2, x9, x12, x51, x260000, x260001, x271000, x271001, x276000, x276001, x282000, x282001 => if x51 = true then (some false) else ((laws_toCat.f k x260000 x260001).bind fun bt283 => ((laws_eqCat.f k x276000 x276001 bt283.1 bt283.2).bind fun t287 => (if t287 = true then ((laws_markCat.f k x276000 x276001 1).bind fun bt288 => (if bt288.1 < 0 then (laws_FnExactCatTake.j1 k x1 x2 x9 true x260000 x260001 x271000 x271001 x282000 x282001) else ((laws_eqCat.f k x282000 x282001 x271000 x271001).bind fun t290 => (if t290 = true then (laws_FnExactCatTake.j1 k x1 x2 x9 (x12 != x9) x260000 x260001 x271000 x271001 x282000 x282001) else (laws_FnExactCatTake.j1 k x1 x2 x9 true x260000 x260001 x271000 x271001 x282000 x282001))))) else (some false))))
def laws_FnExactCatTake.j1 : Nat → Int → ByteArray → Int → Bool → Int → List (S78) → Int → List (S36) → Int → List (S36) → Option (Bool)
 | 0, _, _, _, _, _, _, _, _, _, _ => none
 | k + 1, x1, x2, x9, x72, x260000, x260001, x271000, x271001, x282000, x282001 => if x72 = true then (some false) else ((laws_markCat.f k x282000 x282001 1).bind fun bt291 => ((laws_heldCat.f k x282000 bt291.2 1).bind fun t293 => (if t293 < 0 then (some false) else (if t293 = bt291.1 then ((laws_toCat.f k x260000 x260001).bind fun bt294 => ((impl_CatTake.f k bt294.1 bt294.2 x1 x2).bind fun bt298 => ((laws_eqCat.f k bt298.1 bt298.2.1 x271000 x271001).bind fun t304 => (if t304 = true then (laws_FnExactCatTake.j2 k bt291.1 (bt298.2.2 != x9) x282000 bt291.2) else (laws_FnExactCatTake.j2 k bt291.1 true x282000 bt291.2))))) else (some false)))))
def laws_FnExactCatTake.j2 : Nat → Int → Bool → Int → List (S36) → Option (Bool)
 | 0, _, _, _, _ => none
 | k + 1, x14, x100, x282000, x282001 => if x100 = true then (some false) else ((laws_heldCat.f k x282000 x282001 1).bind fun t305 => (if t305 < 0 then (some false) else (if t305 = x14 then (some true) else (some false))))
end
def laws_FnExactCatTake.f (k : Nat) (a0_0 : Int) (l0_1 : List (S78)) (a1 : Int) (a2 : ByteArray) : Option (Bool) := if (a2.size : Int) > 1048576 then (some true) else ((laws_szCat.f k a0_0 l0_1 1048576).bind fun t260 => (if t260 < 0 then (some true) else ((laws_toCat.f k a0_0 l0_1).bind fun bt261 => ((spec_CatTake.f k bt261.1 bt261.2 a1 a2).bind fun bt265 => ((laws_toCat.f k a0_0 l0_1).bind fun bt271 => ((impl_CatTake.f k bt271.1 bt271.2 a1 a2).bind fun bt276 => ((laws_eqCat.f k bt276.1 bt276.2.1 bt265.1 bt265.2.1).bind fun t282 => (if t282 = true then (laws_FnExactCatTake.j0 k a1 a2 bt265.2.2 bt276.2.2 (bt276.2.2 != bt265.2.2) a0_0 l0_1 bt265.1 bt265.2.1 bt271.1 bt271.2 bt276.1 bt276.2.1) else (laws_FnExactCatTake.j0 k a1 a2 bt265.2.2 bt276.2.2 true a0_0 l0_1 bt265.1 bt265.2.1 bt271.1 bt271.2 bt276.1 bt276.2.1)))))))))
theorem laws_FnExactCatTake.mono_l : ∀ k, (∀ y0 y1 y2 y3 y4 y5 y6 y7 y8 y9 y10 y11 y12, LeO (laws_FnExactCatTake.j0 k y0 y1 y2 y3 y4 y5 y6 y7 y8 y9 y10 y11 y12) (laws_FnExactCatTake.j0 (k + 1) y0 y1 y2 y3 y4 y5 y6 y7 y8 y9 y10 y11 y12)) ∧ (∀ y0 y1 y2 y3 y4 y5 y6 y7 y8 y9, LeO (laws_FnExactCatTake.j1 k y0 y1 y2 y3 y4 y5 y6 y7 y8 y9) (laws_FnExactCatTake.j1 (k + 1) y0 y1 y2 y3 y4 y5 y6 y7 y8 y9)) ∧ (∀ y0 y1 y2 y3, LeO (laws_FnExactCatTake.j2 k y0 y1 y2 y3) (laws_FnExactCatTake.j2 (k + 1) y0 y1 y2 y3))
 | 0 => ⟨fun _ _ _ _ _ _ _ _ _ _ _ _ _ r h => by simp [laws_FnExactCatTake.j0] at h, fun _ _ _ _ _ _ _ _ _ _ r h => by simp [laws_FnExactCatTake.j1] at h, fun _ _ _ _ r h => by simp [laws_FnExactCatTake.j2] at h⟩
 | k + 1 => by
  obtain ⟨ih0, ih1, ih2⟩ := laws_FnExactCatTake.mono_l k
  refine ⟨?_, ?_, ?_⟩
  ·intro y0 y1 y2 y3 y4 y5 y6 y7 y8 y9 y10 y11 y12
   unfold laws_FnExactCatTake.j0
   repeat' first
   | (with_reducible exact ih0 _ _ _ _ _ _ _ _ _ _ _ _ _)
   | (with_reducible exact ih1 _ _ _ _ _ _ _ _ _ _)
   | (with_reducible exact ih2 _ _ _ _)
   | (with_reducible exact impl_CatTake.mono _ _ _ _ _)
   | (with_reducible exact laws_eqCat.mono _ _ _ _ _)
   | (with_reducible exact laws_heldCat.mono _ _ _ _)
   | (with_reducible exact laws_markCat.mono _ _ _ _)
   | (with_reducible exact laws_szCat.mono _ _ _ _)
   | (with_reducible exact laws_toCat.mono _ _ _)
   | (with_reducible exact spec_CatTake.mono _ _ _ _ _)
   | (with_reducible exact LeO.refl _)
   | (with_reducible exact LeO.none _)
   | (with_reducible refine LeO.ite ?_ ?_)
   | (with_reducible refine LeO.bind ?_ (fun _ => ?_))
   | exact ih0 _ _ _ _ _ _ _ _ _ _ _ _ _
   | exact ih1 _ _ _ _ _ _ _ _ _ _
   | exact ih2 _ _ _ _
   | exact impl_CatTake.mono _ _ _ _ _
   | exact laws_eqCat.mono _ _ _ _ _
   | exact laws_heldCat.mono _ _ _ _
   | exact laws_markCat.mono _ _ _ _
   | exact laws_szCat.mono _ _ _ _
   | exact laws_toCat.mono _ _ _
   | exact spec_CatTake.mono _ _ _ _ _
   | exact LeO.none _
   | refine LeO.ite ?_ ?_
   | refine LeO.bind ?_ (fun _ => ?_)
  ·intro y0 y1 y2 y3 y4 y5 y6 y7 y8 y9
   unfold laws_FnExactCatTake.j1
   repeat' first
   | (with_reducible exact ih0 _ _ _ _ _ _ _ _ _ _ _ _ _)
   | (with_reducible exact ih1 _ _ _ _ _ _ _ _ _ _)
   | (with_reducible exact ih2 _ _ _ _)
   | (with_reducible exact impl_CatTake.mono _ _ _ _ _)
   | (with_reducible exact laws_eqCat.mono _ _ _ _ _)
   | (with_reducible exact laws_heldCat.mono _ _ _ _)
   | (with_reducible exact laws_markCat.mono _ _ _ _)
   | (with_reducible exact laws_szCat.mono _ _ _ _)
   | (with_reducible exact laws_toCat.mono _ _ _)
   | (with_reducible exact spec_CatTake.mono _ _ _ _ _)
   | (with_reducible exact LeO.refl _)
   | (with_reducible exact LeO.none _)
   | (with_reducible refine LeO.ite ?_ ?_)
   | (with_reducible refine LeO.bind ?_ (fun _ => ?_))
   | exact ih0 _ _ _ _ _ _ _ _ _ _ _ _ _
   | exact ih1 _ _ _ _ _ _ _ _ _ _
   | exact ih2 _ _ _ _
   | exact impl_CatTake.mono _ _ _ _ _
   | exact laws_eqCat.mono _ _ _ _ _
   | exact laws_heldCat.mono _ _ _ _
   | exact laws_markCat.mono _ _ _ _
   | exact laws_szCat.mono _ _ _ _
   | exact laws_toCat.mono _ _ _
   | exact spec_CatTake.mono _ _ _ _ _
   | exact LeO.none _
   | refine LeO.ite ?_ ?_
   | refine LeO.bind ?_ (fun _ => ?_)
  ·intro y0 y1 y2 y3
   unfold laws_FnExactCatTake.j2
   repeat' first
   | (with_reducible exact ih0 _ _ _ _ _ _ _ _ _ _ _ _ _)
   | (with_reducible exact ih1 _ _ _ _ _ _ _ _ _ _)
   | (with_reducible exact ih2 _ _ _ _)
   | (with_reducible exact impl_CatTake.mono _ _ _ _ _)
   | (with_reducible exact laws_eqCat.mono _ _ _ _ _)
   | (with_reducible exact laws_heldCat.mono _ _ _ _)
   | (with_reducible exact laws_markCat.mono _ _ _ _)
   | (with_reducible exact laws_szCat.mono _ _ _ _)
   | (with_reducible exact laws_toCat.mono _ _ _)
   | (with_reducible exact spec_CatTake.mono _ _ _ _ _)
   | (with_reducible exact LeO.refl _)
   | (with_reducible exact LeO.none _)
   | (with_reducible refine LeO.ite ?_ ?_)
   | (with_reducible refine LeO.bind ?_ (fun _ => ?_))
   | exact ih0 _ _ _ _ _ _ _ _ _ _ _ _ _
   | exact ih1 _ _ _ _ _ _ _ _ _ _
   | exact ih2 _ _ _ _
   | exact impl_CatTake.mono _ _ _ _ _
   | exact laws_eqCat.mono _ _ _ _ _
   | exact laws_heldCat.mono _ _ _ _
   | exact laws_markCat.mono _ _ _ _
   | exact laws_szCat.mono _ _ _ _
   | exact laws_toCat.mono _ _ _
   | exact spec_CatTake.mono _ _ _ _ _
   | exact LeO.none _
   | refine LeO.ite ?_ ?_
   | refine LeO.bind ?_ (fun _ => ?_)
theorem laws_FnExactCatTake.mono : ∀ a0 a1 a2 a3 k, LeO (laws_FnExactCatTake.f k a0 a1 a2 a3) (laws_FnExactCatTake.f (k + 1) a0 a1 a2 a3) := by
 intro a0 a1 a2 a3 k
 obtain ⟨ih0, ih1, ih2⟩ := laws_FnExactCatTake.mono_l k
 unfold laws_FnExactCatTake.f
 repeat' first
   | (with_reducible exact ih0 _ _ _ _ _ _ _ _ _ _ _ _ _)
   | (with_reducible exact ih1 _ _ _ _ _ _ _ _ _ _)
   | (with_reducible exact ih2 _ _ _ _)
   | (with_reducible exact impl_CatTake.mono _ _ _ _ _)
   | (with_reducible exact laws_eqCat.mono _ _ _ _ _)
   | (with_reducible exact laws_heldCat.mono _ _ _ _)
   | (with_reducible exact laws_markCat.mono _ _ _ _)
   | (with_reducible exact laws_szCat.mono _ _ _ _)
   | (with_reducible exact laws_toCat.mono _ _ _)
   | (with_reducible exact spec_CatTake.mono _ _ _ _ _)
   | (with_reducible exact LeO.refl _)
   | (with_reducible exact LeO.none _)
   | (with_reducible refine LeO.ite ?_ ?_)
   | (with_reducible refine LeO.bind ?_ (fun _ => ?_))
   | exact ih0 _ _ _ _ _ _ _ _ _ _ _ _ _
   | exact ih1 _ _ _ _ _ _ _ _ _ _
   | exact ih2 _ _ _ _
   | exact impl_CatTake.mono _ _ _ _ _
   | exact laws_eqCat.mono _ _ _ _ _
   | exact laws_heldCat.mono _ _ _ _
   | exact laws_markCat.mono _ _ _ _
   | exact laws_szCat.mono _ _ _ _
   | exact laws_toCat.mono _ _ _
   | exact spec_CatTake.mono _ _ _ _ _
   | exact LeO.none _
   | refine LeO.ite ?_ ?_
   | refine LeO.bind ?_ (fun _ => ?_)
set_option maxHeartbeats 8000000 in
set_option maxRecDepth 100000 in
theorem laws_FnExactCatTake.calls (k : Nat) (a0_0 : Int) (A0_1 : Option Addr) (c0_1 : Nat) (l0_1 : List (S78)) (a1 : Int) (a2 : ByteArray) (r : Bool) (w : World) (hr0_1 : Kd.C k78 w A0_1 l0_1.length l0_1) (hc0_1 : l0_1.length ≤ c0_1) (h : laws_FnExactCatTake.f k a0_0 l0_1 a1 a2 = some r) :
  Calls Try.prog 8 #[.agg #[.int .i64 a0_0, .slice A0_1 l0_1.length c0_1], .int .i64 a1, .string a2] w fun e w' => e = .returned (.bool r) ∧ Below w.heap.size w w' := by
 have hu24 := Try.underlying24
 have hu29 := Try.underlying29
 have HR0_1 := Aside0.mk hr0_1
 have HC0_1 := Aside0.mk hc0_1
 clear hr0_1 hc0_1
 have HB := Aside0.mk (Below.refl w.heap.size w)
 have H : (if (a2.size : Int) > 1048576 then (some true) else ((laws_szCat.f k a0_0 l0_1 1048576).bind fun t260 => (if t260 < 0 then (some true) else ((laws_toCat.f k a0_0 l0_1).bind fun bt261 => ((spec_CatTake.f k bt261.1 bt261.2 a1 a2).bind fun bt265 => ((laws_toCat.f k a0_0 l0_1).bind fun bt271 => ((impl_CatTake.f k bt271.1 bt271.2 a1 a2).bind fun bt276 => ((laws_eqCat.f k bt276.1 bt276.2.1 bt265.1 bt265.2.1).bind fun t282 => (if t282 = true then (laws_FnExactCatTake.j0 k a1 a2 bt265.2.2 bt276.2.2 (bt276.2.2 != bt265.2.2) a0_0 l0_1 bt265.1 bt265.2.1 bt271.1 bt271.2 bt276.1 bt276.2.1) else (laws_FnExactCatTake.j0 k a1 a2 bt265.2.2 bt276.2.2 true a0_0 l0_1 bt265.1 bt265.2.1 bt271.1 bt271.2 bt276.1 bt276.2.1)))))))))) = some r:=h
 clear h
 by_cases c4 : (a2.size : Int) > 1048576
 ·rw [if_pos c4] at H
  have c4b0 : decide (1048576 < (a2.size : Int)) = true:=decide_eq_true c4
  have c4b1 : decide (1048576 < a2.size) = true:=decide_eq_true (by omega)
  clear c4
  obtain rfl := Option.some.inj H
  go_enter Try.func8, Try.ntmps8
  go_wp2_with (first|((with_reducible refine gate_dst (N:=3) rfl ?_);refine box_event ?hg (N:=3) ?hd (cs:=#[.int .i64 a0_0,.slice A0_1 l0_1.length c0_1]) (t:=24) ?hr ?_;(case hd => rfl);(case hg => rfl);(case hr => first|(go_simp;done)|(go_simp;rfl));intro gb259 hg w5 hbox hb;have n0_:=Aside0.mk (below_step (by repeat (first|(with_reducible first|exact HB.out|apply below_alloc|apply pw_below_drewN|apply below_drew1)|exact HB.out)) hb);have n1_:=Aside0.mk (hbox);have n2_:=Aside0.mk ((by rw [hg];exact (below_size (by repeat (first|(with_reducible first|exact HB.out|apply below_alloc|apply pw_below_drewN|apply below_drew1)|exact HB.out))) : w.heap.size ≤ gb259));have n3_:=Aside0.mk ((by rw [hg];exact (below_size (by repeat (first|(with_reducible first|exact HB.out|apply below_alloc|apply pw_below_drewN|apply below_drew1)|exact HB.out))) : w.heap.size ≤ gb259));clear HB;have HB:=n0_;have BK259:=n1_;have GW259:=n2_;have GE259:=n3_;clear n0_ n1_ n2_ n3_;clear hb hbox hg))
  go_ret
  exact ⟨by first|rfl|(simp [errW_none,errW_some] <;> rfl)|(simp [*,errW_none,errW_some] <;> rfl),by repeat (first|(with_reducible first|exact HB.out|apply below_alloc|apply pw_below_drewN|apply below_drew1|refine below_set ?_ GE259.out)|exact HB.out)⟩
 ·rw [if_neg c4] at H
  have c4b0 : decide (1048576 < (a2.size : Int)) = false:=decide_eq_false c4
  have c4b1 : decide (1048576 < a2.size) = false:=decide_eq_false (by omega)
  clear c4
  replace H := Option.bind_eq_some_iff.mp H
  obtain ⟨t260, A60, H⟩ := H
  replace H : (if t260 < 0 then (some true) else ((laws_toCat.f k a0_0 l0_1).bind fun bt261 => ((spec_CatTake.f k bt261.1 bt261.2 a1 a2).bind fun bt265 => ((laws_toCat.f k a0_0 l0_1).bind fun bt271 => ((impl_CatTake.f k bt271.1 bt271.2 a1 a2).bind fun bt276 => ((laws_eqCat.f k bt276.1 bt276.2.1 bt265.1 bt265.2.1).bind fun t282 => (if t282 = true then (laws_FnExactCatTake.j0 k a1 a2 bt265.2.2 bt276.2.2 (bt276.2.2 != bt265.2.2) a0_0 l0_1 bt265.1 bt265.2.1 bt271.1 bt271.2 bt276.1 bt276.2.1) else (laws_FnExactCatTake.j0 k a1 a2 bt265.2.2 bt276.2.2 true a0_0 l0_1 bt265.1 bt265.2.1 bt271.1 bt271.2 bt276.1 bt276.2.1)))))))) = some r:=H
  have A6 := Aside0.mk A60
  clear A60
  by_cases c7 : t260 < 0
  ·rw [if_pos c7] at H
   have c7b0 : decide (t260 < 0) = true := decide_eq_true c7
   clear c7
   obtain rfl := Option.some.inj H
   go_enter Try.func8, Try.ntmps8
   go_wp2_with (first|((with_reducible refine gate_dst (N:=3) rfl ?_);refine box_event ?hg (N:=3) ?hd (cs:=#[.int .i64 a0_0,.slice A0_1 l0_1.length c0_1]) (t:=24) ?hr ?_;(case hd => rfl);(case hg => rfl);(case hr => first|(go_simp;done)|(go_simp;rfl));intro gb259 hg w8 hbox hb;have n0_:=Aside0.mk (below_step (by repeat (first|(with_reducible first|exact HB.out|apply below_alloc|apply pw_below_drewN|apply below_drew1)|exact HB.out)) hb);have n1_:=Aside0.mk (hbox);have n2_:=Aside0.mk ((by rw [hg];exact (below_size (by repeat (first|(with_reducible first|exact HB.out|apply below_alloc|apply pw_below_drewN|apply below_drew1)|exact HB.out))) : w.heap.size ≤ gb259));have n3_:=Aside0.mk ((by rw [hg];exact (below_size (by repeat (first|(with_reducible first|exact HB.out|apply below_alloc|apply pw_below_drewN|apply below_drew1)|exact HB.out))) : w.heap.size ≤ gb259));clear HB;have HB:=n0_;have BK259:=n1_;have GW259:=n2_;have GE259:=n3_;clear n0_ n1_ n2_ n3_;clear hb hbox hg;have hcz9_0 : w8.cell? ⟨gb259,0,none⟩ = some (.int .i64 a0_0):=(blk_cell BK259.out 0).trans rfl;have hcz9_1 : w8.cell? ⟨gb259,1,none⟩ = some (.slice A0_1 l0_1.length c0_1):=(blk_cell BK259.out 1).trans rfl;have hfz9_0:=blk_frozen BK259.out 0;have hfz9_1:=blk_frozen BK259.out 1)|((with_reducible refine gate_callee (f:=13) rfl ?_);refine goesL_ (some 23) rfl rfl Try.func13 (by kernel_rfl) rfl #[.agg #[.int .i64 a0_0,.slice A0_1 l0_1.length c0_1],.int .i64 1048576] rfl (by (try simp only [List.map_toArray,List.map_cons,List.map_nil]);first|done|rfl|(simp only [List.length_drop,List.length_take];rfl)) ?_;(with_reducible refine (laws_szCat.calls k a0_0 _ _ l0_1 1048576 t260 _ ?side1 ?side2 A6.out).mono ?_);(case side1 => repeat (first|exact (Kd.C_below HR0_1.out HB.out)|(with_reducible refine Kd.C_alloc ?_ _)|(with_reducible refine Kd.C_drewN ?_ _)|(with_reducible refine Kd.C_drew ?_)));(case side2 => exact HC0_1.out);rintro e w10 ⟨rfl,hb⟩;refine ⟨_,rfl,?_⟩;have n0_:=Aside0.mk (blk_below (g:=gb259) (o:=.cells #[.int .i64 a0_0,.slice A0_1 l0_1.length c0_1] 24 (0,0)) (by (with_reducible repeat (first|refine blk_drewN ?_ _|refine blk_drew ?_|refine blk_alloc ?_ _));exact BK259.out) hb);have n1_:=Aside0.mk (below_step (by repeat (first|(with_reducible first|exact HB.out|apply below_alloc|apply pw_below_drewN|apply below_drew1|refine below_set ?_ GE259.out)|exact HB.out)) hb);clear BK259 HB;have BK259:=n0_;have HB:=n1_;clear n0_ n1_;(try clear hb);(try clear hb2);(try clear hk);(try clear hi)))
   go_ret
   exact ⟨by first|rfl|(simp [errW_none,errW_some] <;> rfl)|(simp [*,errW_none,errW_some] <;> rfl),by repeat (first|(with_reducible first|exact HB.out|apply below_alloc|apply pw_below_drewN|apply below_drew1|refine below_set ?_ GE259.out)|exact HB.out)⟩
  ·rw [if_neg c7] at H
   have c7b0 : decide (t260 < 0) = false := decide_eq_false c7
   clear c7
   replace H := Option.bind_eq_some_iff.mp H
   obtain ⟨⟨t261, t262⟩, A110, H⟩ := H
   replace H : ((spec_CatTake.f k t261 t262 a1 a2).bind fun bt265 => ((laws_toCat.f k a0_0 l0_1).bind fun bt271 => ((impl_CatTake.f k bt271.1 bt271.2 a1 a2).bind fun bt276 => ((laws_eqCat.f k bt276.1 bt276.2.1 bt265.1 bt265.2.1).bind fun t282 => (if t282 = true then (laws_FnExactCatTake.j0 k a1 a2 bt265.2.2 bt276.2.2 (bt276.2.2 != bt265.2.2) a0_0 l0_1 bt265.1 bt265.2.1 bt271.1 bt271.2 bt276.1 bt276.2.1) else (laws_FnExactCatTake.j0 k a1 a2 bt265.2.2 bt276.2.2 true a0_0 l0_1 bt265.1 bt265.2.1 bt271.1 bt271.2 bt276.1 bt276.2.1)))))) = some r:=H
   have A11 := Aside0.mk A110
   clear A110
   replace H := Option.bind_eq_some_iff.mp H
   obtain ⟨⟨t265, t266, t269⟩, A120, H⟩ := H
   replace H : ((laws_toCat.f k a0_0 l0_1).bind fun bt271 => ((impl_CatTake.f k bt271.1 bt271.2 a1 a2).bind fun bt276 => ((laws_eqCat.f k bt276.1 bt276.2.1 t265 t266).bind fun t282 => (if t282 = true then (laws_FnExactCatTake.j0 k a1 a2 t269 bt276.2.2 (bt276.2.2 != t269) a0_0 l0_1 t265 t266 bt271.1 bt271.2 bt276.1 bt276.2.1) else (laws_FnExactCatTake.j0 k a1 a2 t269 bt276.2.2 true a0_0 l0_1 t265 t266 bt271.1 bt271.2 bt276.1 bt276.2.1))))) = some r:=H
   have A12 := Aside0.mk A120
   clear A120
   replace H := Option.bind_eq_some_iff.mp H
   obtain ⟨⟨t271, t272⟩, A130, H⟩ := H
   replace H : ((impl_CatTake.f k t271 t272 a1 a2).bind fun bt276 => ((laws_eqCat.f k bt276.1 bt276.2.1 t265 t266).bind fun t282 => (if t282 = true then (laws_FnExactCatTake.j0 k a1 a2 t269 bt276.2.2 (bt276.2.2 != t269) a0_0 l0_1 t265 t266 t271 t272 bt276.1 bt276.2.1) else (laws_FnExactCatTake.j0 k a1 a2 t269 bt276.2.2 true a0_0 l0_1 t265 t266 t271 t272 bt276.1 bt276.2.1)))) = some r:=H
   have A13 := Aside0.mk A130
   clear A130
   replace H := Option.bind_eq_some_iff.mp H
   obtain ⟨⟨t276, t277, t280⟩, A140, H⟩ := H
   replace H : ((laws_eqCat.f k t276 t277 t265 t266).bind fun t282 => (if t282 = true then (laws_FnExactCatTake.j0 k a1 a2 t269 t280 (t280 != t269) a0_0 l0_1 t265 t266 t271 t272 t276 t277) else (laws_FnExactCatTake.j0 k a1 a2 t269 t280 true a0_0 l0_1 t265 t266 t271 t272 t276 t277))) = some r:=H
   have A14 := Aside0.mk A140
   clear A140
   have HC15 := Aside0.mk H
   clear H
   go_enter Try.func8, Try.ntmps8
   go_upto_region 10 with (first|((with_reducible refine gate_dst (N:=3) rfl ?_);refine box_event ?hg (N:=3) ?hd (cs:=#[.int .i64 a0_0,.slice A0_1 l0_1.length c0_1]) (t:=24) ?hr ?_;(case hd => rfl);(case hg => rfl);(case hr => first|(go_simp;done)|(go_simp;rfl));intro gb259 hg w16 hbox hb;have n0_:=Aside0.mk (below_step (by repeat (first|(with_reducible first|exact HB.out|apply below_alloc|apply pw_below_drewN|apply below_drew1)|exact HB.out)) hb);have n1_:=Aside0.mk (hbox);have n2_:=Aside0.mk ((by rw [hg];exact (below_size (by repeat (first|(with_reducible first|exact HB.out|apply below_alloc|apply pw_below_drewN|apply below_drew1)|exact HB.out))) : w.heap.size ≤ gb259));have n3_:=Aside0.mk ((by rw [hg];exact (below_size (by repeat (first|(with_reducible first|exact HB.out|apply below_alloc|apply pw_below_drewN|apply below_drew1)|exact HB.out))) : w.heap.size ≤ gb259));clear HB;have HB:=n0_;have BK259:=n1_;have GW259:=n2_;have GE259:=n3_;clear n0_ n1_ n2_ n3_;clear hb hbox hg;have hcz17_0 : w16.cell? ⟨gb259,0,none⟩ = some (.int .i64 a0_0):=(blk_cell BK259.out 0).trans rfl;have hcz17_1 : w16.cell? ⟨gb259,1,none⟩ = some (.slice A0_1 l0_1.length c0_1):=(blk_cell BK259.out 1).trans rfl;have hfz17_0:=blk_frozen BK259.out 0;have hfz17_1:=blk_frozen BK259.out 1)|((with_reducible refine gate_callee (f:=13) rfl ?_);refine goesL_ (some 23) rfl rfl Try.func13 (by kernel_rfl) rfl #[.agg #[.int .i64 a0_0,.slice A0_1 l0_1.length c0_1],.int .i64 1048576] rfl (by (try simp only [List.map_toArray,List.map_cons,List.map_nil]);first|done|rfl|(simp only [List.length_drop,List.length_take];rfl)) ?_;(with_reducible refine (laws_szCat.calls k a0_0 _ _ l0_1 1048576 t260 _ ?side1 ?side2 A6.out).mono ?_);(case side1 => repeat (first|exact (Kd.C_below HR0_1.out HB.out)|(with_reducible refine Kd.C_alloc ?_ _)|(with_reducible refine Kd.C_drewN ?_ _)|(with_reducible refine Kd.C_drew ?_)));(case side2 => exact HC0_1.out);rintro e w18 ⟨rfl,hb⟩;refine ⟨_,rfl,?_⟩;have n0_:=Aside0.mk (blk_below (g:=gb259) (o:=.cells #[.int .i64 a0_0,.slice A0_1 l0_1.length c0_1] 24 (0,0)) (by (with_reducible repeat (first|refine blk_drewN ?_ _|refine blk_drew ?_|refine blk_alloc ?_ _));exact BK259.out) hb);have n1_:=Aside0.mk (below_step (by repeat (first|(with_reducible first|exact HB.out|apply below_alloc|apply pw_below_drewN|apply below_drew1|refine below_set ?_ GE259.out)|exact HB.out)) hb);clear BK259 HB;have BK259:=n0_;have HB:=n1_;clear n0_ n1_;(try clear hb);(try clear hb2);(try clear hk);(try clear hi);have hcz19_0 : w18.cell? ⟨gb259,0,none⟩ = some (.int .i64 a0_0):=(blk_cell BK259.out 0).trans rfl;have hcz19_1 : w18.cell? ⟨gb259,1,none⟩ = some (.slice A0_1 l0_1.length c0_1):=(blk_cell BK259.out 1).trans rfl;have hfz19_0:=blk_frozen BK259.out 0;have hfz19_1:=blk_frozen BK259.out 1)|((with_reducible refine gate_callee (f:=15) rfl ?_);refine goesL_ (some 28) rfl rfl Try.func15 (by kernel_rfl) rfl #[.agg #[.int .i64 a0_0,.slice A0_1 l0_1.length c0_1]] rfl (by (try simp only [List.map_toArray,List.map_cons,List.map_nil]);first|done|rfl|(simp only [List.length_drop,List.length_take];rfl)) ?_;(with_reducible refine (laws_toCat.calls k a0_0 _ _ l0_1 t261 t262 _ ?side1 ?side2 A11.out).mono ?_);(case side1 => repeat (first|exact (Kd.C_below HR0_1.out HB.out)|(with_reducible refine Kd.C_alloc ?_ _)|(with_reducible refine Kd.C_drewN ?_ _)|(with_reducible refine Kd.C_drew ?_)));(case side2 => exact HC0_1.out);rintro e w20 ⟨v263,rfl,ho0,hb⟩;refine ⟨_,rfl,?_⟩;have n0_:=Aside0.mk (Kd.R_lower ho0 (below_size (by repeat (first|(with_reducible first|exact HB.out|apply below_alloc|apply pw_below_drewN|apply below_drew1|refine below_set ?_ GE259.out)|exact HB.out))));have n1_:=Aside0.mk (blk_below (g:=gb259) (o:=.cells #[.int .i64 a0_0,.slice A0_1 l0_1.length c0_1] 24 (0,0)) (by (with_reducible repeat (first|refine blk_drewN ?_ _|refine blk_drew ?_|refine blk_alloc ?_ _));exact BK259.out) hb);have n2_:=Aside0.mk (below_step (by repeat (first|(with_reducible first|exact HB.out|apply below_alloc|apply pw_below_drewN|apply below_drew1|refine below_set ?_ GE259.out)|exact HB.out)) hb);clear BK259 HB;have HO264:=n0_;have BK259:=n1_;have HB:=n2_;clear n0_ n1_ n2_;(try clear hb);(try clear hb2);(try clear hk);(try clear hi);(try clear ho0);obtain ⟨Ao21,co21,eo21⟩:=Kd.R_slice HO264.out;subst eo21)|((with_reducible refine gate_callee (f:=26) rfl ?_);refine goesL_ (some 31) rfl rfl Try.func26 (by kernel_rfl) rfl #[.agg #[.int .i64 t261,.slice Ao21 t262.length co21],.int .i64 a1,.string a2] rfl (by (try simp only [List.map_toArray,List.map_cons,List.map_nil]);first|done|rfl|(simp only [List.length_drop,List.length_take];rfl)) ?_;(with_reducible refine (spec_CatTake.calls k t261 _ _ t262 a1 a2 t265 t266 t269 _ ?side1 ?side2 A12.out).mono ?_);(case side1 => repeat (first|exact (Kd.R_reads' HO264.out).2.2|(with_reducible refine Kd.C_alloc ?_ _)|(with_reducible refine Kd.C_drewN ?_ _)|(with_reducible refine Kd.C_drew ?_)));(case side2 => exact (Kd.R_reads' HO264.out).2.1);rintro e w22 ⟨v267,rfl,ho0,hb⟩;refine ⟨_,rfl,?_⟩;have n0_:=Aside0.mk (Kd.R_elder' (by (with_reducible repeat (first|apply Kd.R_alloc|apply Kd.R_drewN|apply Kd.R_drew));exact HO264.out) (Kd.R_base ho0) hb);have n1_:=Aside0.mk (Kd.R_lower (Kd.R_new' ho0 (Kd.R_lt (by (with_reducible repeat (first|apply Kd.R_alloc|apply Kd.R_drewN|apply Kd.R_drew));exact HO264.out))) (below_size (by repeat (first|(with_reducible first|exact HB.out|apply below_alloc|apply pw_below_drewN|apply below_drew1|refine below_set ?_ GE259.out)|exact HB.out))));have n2_:=Aside0.mk (blk_below (g:=gb259) (o:=.cells #[.int .i64 a0_0,.slice A0_1 l0_1.length c0_1] 24 (0,0)) (by (with_reducible repeat (first|refine blk_drewN ?_ _|refine blk_drew ?_|refine blk_alloc ?_ _));exact BK259.out) hb);have n3_:=Aside0.mk (below_step (by repeat (first|(with_reducible first|exact HB.out|apply below_alloc|apply pw_below_drewN|apply below_drew1|refine below_set ?_ GE259.out)|exact HB.out)) hb);clear HO264 BK259 HB;have HO264:=n0_;have HO268:=n1_;have BK259:=n2_;have HB:=n3_;clear n0_ n1_ n2_ n3_;(try clear hb);(try clear hb2);(try clear hk);(try clear hi);(try clear ho0))|((with_reducible refine gate_dst (N:=8) rfl ?_);refine box_event ?hg (N:=8) ?hd (cs:=#[.int .i64 0,.slice none 0 0]) (t:=29) ?hr ?_;(case hd => rfl);(case hg => rfl);(case hr => first|(go_simp;done)|(go_simp;rfl));intro gb270 hg w23 hbox hb;have n0_:=Aside0.mk (Kd.R_below (by (with_reducible repeat (first|apply Kd.R_alloc|apply Kd.R_drewN|apply Kd.R_drew));exact HO264.out) hb);have n1_:=Aside0.mk (Kd.R_below (by (with_reducible repeat (first|apply Kd.R_alloc|apply Kd.R_drewN|apply Kd.R_drew));exact HO268.out) hb);have n2_:=Aside0.mk (blk_below (g:=gb259) (o:=.cells #[.int .i64 a0_0,.slice A0_1 l0_1.length c0_1] 24 (0,0)) (by (with_reducible repeat (first|refine blk_drewN ?_ _|refine blk_drew ?_|refine blk_alloc ?_ _));exact BK259.out) hb);have n3_:=Aside0.mk (below_step (by repeat (first|(with_reducible first|exact HB.out|apply below_alloc|apply pw_below_drewN|apply below_drew1|refine below_set ?_ GE259.out)|exact HB.out)) hb);have n4_:=Aside0.mk (hbox);have n5_:=Aside0.mk ((by rw [hg];exact (below_size (by repeat (first|(with_reducible first|exact HB.out|apply below_alloc|apply pw_below_drewN|apply below_drew1|refine below_set ?_ GE259.out)|exact HB.out))) : w.heap.size ≤ gb270));have n6_:=Aside0.mk ((by rw [hg];exact (below_size (by repeat (first|(with_reducible first|exact HB.out|apply below_alloc|apply pw_below_drewN|apply below_drew1|refine below_set ?_ GE259.out)|exact HB.out))) : w.heap.size ≤ gb270));have n7_:=Aside0.mk ((by rw [hg];exact Nat.ne_of_lt (blk_lt (g:=gb259) (o:=.cells #[.int .i64 a0_0,.slice A0_1 l0_1.length c0_1] 24 (0,0)) (by (with_reducible repeat (first|refine blk_drewN ?_ _|refine blk_drew ?_|refine blk_alloc ?_ _));exact BK259.out)) : gb259 ≠ gb270));have n8_:=Aside0.mk ((by rw [hg];exact Nat.ne_of_gt (blk_lt (g:=gb259) (o:=.cells #[.int .i64 a0_0,.slice A0_1 l0_1.length c0_1] 24 (0,0)) (by (with_reducible repeat (first|refine blk_drewN ?_ _|refine blk_drew ?_|refine blk_alloc ?_ _));exact BK259.out)) : gb270 ≠ gb259));clear HO264 HO268 BK259 HB;have HO264:=n0_;have HO268:=n1_;have BK259:=n2_;have HB:=n3_;have BK270:=n4_;have GW270:=n5_;have GE270:=n6_;have NB259_270:=n7_;have NB270_259:=n8_;clear n0_ n1_ n2_ n3_ n4_ n5_ n6_ n7_ n8_;clear hb hbox hg;have hnb24:=NB270_259.out;have hnc24:=NB259_270.out;have hcz25_0 : w23.cell? ⟨gb270,0,none⟩ = some (.int .i64 0):=(blk_cell BK270.out 0).trans rfl;have hcz25_1 : w23.cell? ⟨gb270,1,none⟩ = some (.slice none 0 0):=(blk_cell BK270.out 1).trans rfl;have hfz25_0:=blk_frozen BK270.out 0;have hfz25_1:=blk_frozen BK270.out 1;obtain ⟨Ao26,co26,eo26⟩:=Kd.R_slice HO268.out;subst eo26;have hcz27_0 : w23.cell? ⟨gb259,0,none⟩ = some (.int .i64 a0_0):=(blk_cell BK259.out 0).trans rfl;have hcz27_1 : w23.cell? ⟨gb259,1,none⟩ = some (.slice A0_1 l0_1.length c0_1):=(blk_cell BK259.out 1).trans rfl;have hfz27_0:=blk_frozen BK259.out 0;have hfz27_1:=blk_frozen BK259.out 1)|((with_reducible refine gate_callee (f:=15) rfl ?_);refine goesL_ (some 35) rfl rfl Try.func15 (by kernel_rfl) rfl #[.agg #[.int .i64 a0_0,.slice A0_1 l0_1.length c0_1]] rfl (by (try simp only [List.map_toArray,List.map_cons,List.map_nil]);first|done|rfl|(simp only [List.length_drop,List.length_take];rfl)) ?_;(with_reducible refine (laws_toCat.calls k a0_0 _ _ l0_1 t271 t272 _ ?side1 ?side2 A13.out).mono ?_);(case side1 => exact Kd.C_below HR0_1.out (by repeat (first|(with_reducible first|exact HB.out|apply below_alloc|apply pw_below_drewN|apply below_drew1|refine below_set ?_ GE259.out|refine below_set ?_ GE270.out)|exact HB.out)));(case side2 => exact HC0_1.out);rintro e w28 ⟨v273,rfl,ho0,hb⟩;refine ⟨_,rfl,?_⟩;have n0_:=Aside0.mk (Kd.R_elder' (by (with_reducible repeat (first|apply Kd.R_alloc|apply Kd.R_drewN|apply Kd.R_drew));exact (Kd.R_mono (Kd.R_far (p:=⟨gb270,1,none⟩) (Kd.R_far (p:=⟨gb270,0,none⟩) (Kd.R_types HO264.out BK270.out (by decide)) (fun _ hk => hk.2) (.int .i64 t265)) (fun _ hk => hk.2) (.slice Ao26 t266.length co26)) (fun _ h_ => h_.1))) (Kd.R_base ho0) hb);have n1_:=Aside0.mk (Kd.R_elder' (by (with_reducible repeat (first|apply Kd.R_alloc|apply Kd.R_drewN|apply Kd.R_drew));exact (Kd.R_mono (Kd.R_far (p:=⟨gb270,1,none⟩) (Kd.R_far (p:=⟨gb270,0,none⟩) (Kd.R_types HO268.out BK270.out (by decide)) (fun _ hk => hk.2) (.int .i64 t265)) (fun _ hk => hk.2) (.slice Ao26 t266.length co26)) (fun _ h_ => h_.1))) (Kd.R_base ho0) hb);have n2_:=Aside0.mk (Kd.R_lower (Kd.R_new' (Kd.R_new' ho0 (Kd.R_lt (by (with_reducible repeat (first|apply Kd.R_alloc|apply Kd.R_drewN|apply Kd.R_drew));exact (Kd.R_mono (Kd.R_far (p:=⟨gb270,1,none⟩) (Kd.R_far (p:=⟨gb270,0,none⟩) (Kd.R_types HO264.out BK270.out (by decide)) (fun _ hk => hk.2) (.int .i64 t265)) (fun _ hk => hk.2) (.slice Ao26 t266.length co26)) (fun _ h_ => h_.1))))) (Kd.R_lt (by (with_reducible repeat (first|apply Kd.R_alloc|apply Kd.R_drewN|apply Kd.R_drew));exact (Kd.R_mono (Kd.R_far (p:=⟨gb270,1,none⟩) (Kd.R_far (p:=⟨gb270,0,none⟩) (Kd.R_types HO268.out BK270.out (by decide)) (fun _ hk => hk.2) (.int .i64 t265)) (fun _ hk => hk.2) (.slice Ao26 t266.length co26)) (fun _ h_ => h_.1))))) (below_size (by repeat (first|(with_reducible first|exact HB.out|apply below_alloc|apply pw_below_drewN|apply below_drew1|refine below_set ?_ GE259.out|refine below_set ?_ GE270.out)|exact HB.out))));have n3_:=Aside0.mk (blk_below (g:=gb259) (o:=.cells #[.int .i64 a0_0,.slice A0_1 l0_1.length c0_1] 24 (0,0)) (by (with_reducible repeat (first|refine blk_drewN ?_ _|refine blk_drew ?_|refine blk_alloc ?_ _));refine blk_far ?_ NB259_270.out _;(with_reducible repeat (first|refine blk_drewN ?_ _|refine blk_drew ?_|refine blk_alloc ?_ _));refine blk_far ?_ NB259_270.out _;(with_reducible repeat (first|refine blk_drewN ?_ _|refine blk_drew ?_|refine blk_alloc ?_ _));exact BK259.out) hb);have n4_:=Aside0.mk (blk_below (g:=gb270) (o:=.cells #[.int .i64 t265,.slice Ao26 t266.length co26] 29 (0,0)) (by (with_reducible repeat (first|refine blk_drewN ?_ _|refine blk_drew ?_|refine blk_alloc ?_ _));refine blk_put (cs:=#[.int .i64 t265,.slice none 0 0]) ?_ 1 _ rfl;(with_reducible repeat (first|refine blk_drewN ?_ _|refine blk_drew ?_|refine blk_alloc ?_ _));refine blk_put (cs:=#[.int .i64 0,.slice none 0 0]) ?_ 0 _ rfl;(with_reducible repeat (first|refine blk_drewN ?_ _|refine blk_drew ?_|refine blk_alloc ?_ _));exact BK270.out) hb);have n5_:=Aside0.mk (below_step (by repeat (first|(with_reducible first|exact HB.out|apply below_alloc|apply pw_below_drewN|apply below_drew1|refine below_set ?_ GE259.out|refine below_set ?_ GE270.out)|exact HB.out)) hb);clear HO264 HO268 BK259 BK270 HB;have HO264:=n0_;have HO268:=n1_;have HO274:=n2_;have BK259:=n3_;have BK270:=n4_;have HB:=n5_;clear n0_ n1_ n2_ n3_ n4_ n5_;(try clear hb);(try clear hb2);(try clear hk);(try clear hi);(try clear ho0))|((with_reducible refine gate_dst (N:=10) rfl ?_);refine box_event ?hg (N:=10) ?hd (cs:=#[.int .i64 0,.slice none 0 0]) (t:=29) ?hr ?_;(case hd => rfl);(case hg => rfl);(case hr => first|(go_simp;done)|(go_simp;rfl));intro gb275 hg w29 hbox hb;have n0_:=Aside0.mk (Kd.R_below (by (with_reducible repeat (first|apply Kd.R_alloc|apply Kd.R_drewN|apply Kd.R_drew));exact HO264.out) hb);have n1_:=Aside0.mk (Kd.R_below (by (with_reducible repeat (first|apply Kd.R_alloc|apply Kd.R_drewN|apply Kd.R_drew));exact HO268.out) hb);have n2_:=Aside0.mk (Kd.R_below (by (with_reducible repeat (first|apply Kd.R_alloc|apply Kd.R_drewN|apply Kd.R_drew));exact HO274.out) hb);have n3_:=Aside0.mk (blk_below (g:=gb259) (o:=.cells #[.int .i64 a0_0,.slice A0_1 l0_1.length c0_1] 24 (0,0)) (by (with_reducible repeat (first|refine blk_drewN ?_ _|refine blk_drew ?_|refine blk_alloc ?_ _));exact BK259.out) hb);have n4_:=Aside0.mk (blk_below (g:=gb270) (o:=.cells #[.int .i64 t265,.slice Ao26 t266.length co26] 29 (0,0)) (by (with_reducible repeat (first|refine blk_drewN ?_ _|refine blk_drew ?_|refine blk_alloc ?_ _));exact BK270.out) hb);have n5_:=Aside0.mk (below_step (by repeat (first|(with_reducible first|exact HB.out|apply below_alloc|apply pw_below_drewN|apply below_drew1|refine below_set ?_ GE259.out|refine below_set ?_ GE270.out)|exact HB.out)) hb);have n6_:=Aside0.mk (hbox);have n7_:=Aside0.mk ((by rw [hg];exact (below_size (by repeat (first|(with_reducible first|exact HB.out|apply below_alloc|apply pw_below_drewN|apply below_drew1|refine below_set ?_ GE259.out|refine below_set ?_ GE270.out)|exact HB.out))) : w.heap.size ≤ gb275));have n8_:=Aside0.mk ((by rw [hg];exact (below_size (by repeat (first|(with_reducible first|exact HB.out|apply below_alloc|apply pw_below_drewN|apply below_drew1|refine below_set ?_ GE259.out|refine below_set ?_ GE270.out)|exact HB.out))) : w.heap.size ≤ gb275));have n9_:=Aside0.mk ((by rw [hg];exact Nat.ne_of_lt (blk_lt (g:=gb259) (o:=.cells #[.int .i64 a0_0,.slice A0_1 l0_1.length c0_1] 24 (0,0)) (by (with_reducible repeat (first|refine blk_drewN ?_ _|refine blk_drew ?_|refine blk_alloc ?_ _));exact BK259.out)) : gb259 ≠ gb275));have n10_:=Aside0.mk ((by rw [hg];exact Nat.ne_of_gt (blk_lt (g:=gb259) (o:=.cells #[.int .i64 a0_0,.slice A0_1 l0_1.length c0_1] 24 (0,0)) (by (with_reducible repeat (first|refine blk_drewN ?_ _|refine blk_drew ?_|refine blk_alloc ?_ _));exact BK259.out)) : gb275 ≠ gb259));have n11_:=Aside0.mk ((by rw [hg];exact Nat.ne_of_lt (blk_lt (g:=gb270) (o:=.cells #[.int .i64 t265,.slice Ao26 t266.length co26] 29 (0,0)) (by (with_reducible repeat (first|refine blk_drewN ?_ _|refine blk_drew ?_|refine blk_alloc ?_ _));exact BK270.out)) : gb270 ≠ gb275));have n12_:=Aside0.mk ((by rw [hg];exact Nat.ne_of_gt (blk_lt (g:=gb270) (o:=.cells #[.int .i64 t265,.slice Ao26 t266.length co26] 29 (0,0)) (by (with_reducible repeat (first|refine blk_drewN ?_ _|refine blk_drew ?_|refine blk_alloc ?_ _));exact BK270.out)) : gb275 ≠ gb270));clear HO264 HO268 HO274 BK259 BK270 HB;have HO264:=n0_;have HO268:=n1_;have HO274:=n2_;have BK259:=n3_;have BK270:=n4_;have HB:=n5_;have BK275:=n6_;have GW275:=n7_;have GE275:=n8_;have NB259_275:=n9_;have NB275_259:=n10_;have NB270_275:=n11_;have NB275_270:=n12_;clear n0_ n1_ n2_ n3_ n4_ n5_ n6_ n7_ n8_ n9_ n10_ n11_ n12_;clear hb hbox hg;have hnb30:=NB275_259.out;have hnc30:=NB259_275.out;have hnb31:=NB275_270.out;have hnc31:=NB270_275.out;have hcz32_0 : w29.cell? ⟨gb275,0,none⟩ = some (.int .i64 0):=(blk_cell BK275.out 0).trans rfl;have hcz32_1 : w29.cell? ⟨gb275,1,none⟩ = some (.slice none 0 0):=(blk_cell BK275.out 1).trans rfl;have hfz32_0:=blk_frozen BK275.out 0;have hfz32_1:=blk_frozen BK275.out 1;obtain ⟨Ao33,co33,eo33⟩:=Kd.R_slice HO274.out;subst eo33)|((with_reducible refine gate_callee (f:=27) rfl ?_);refine goesL_ (some 40) rfl rfl Try.func27 (by kernel_rfl) rfl #[.agg #[.int .i64 t271,.slice Ao33 t272.length co33],.int .i64 a1,.string a2] rfl (by (try simp only [List.map_toArray,List.map_cons,List.map_nil]);first|done|rfl|(simp only [List.length_drop,List.length_take];rfl)) ?_;(with_reducible refine (impl_CatTake.calls k t271 _ _ t272 a1 a2 t276 t277 t280 _ ?side1 ?side2 A14.out).mono ?_);(case side1 => refine (Kd.R_reads' (e:=36) (base:=w.heap.size) (ok:=fun k_ => ((True ∧ some k_ ≠ (.slice Ao21 t262.length co21 : Value).ownBlock) ∧ some k_ ≠ (.slice Ao26 t266.length co26 : Value).ownBlock)) (n:=t272.length) (c:=co33) ?_).2.2;exact (by (with_reducible repeat (first|apply Kd.R_alloc|apply Kd.R_drewN|apply Kd.R_drew));exact (Kd.R_mono (Kd.R_far (p:=⟨gb275,1,none⟩) (Kd.R_far (p:=⟨gb275,0,none⟩) (Kd.R_types HO274.out BK275.out (by decide)) (fun _ hk => hk.2) (.int .i64 t271)) (fun _ hk => hk.2) (.slice Ao33 t272.length co33)) (fun _ h_ => h_.1))));(case side2 => exact (Kd.R_reads' HO274.out).2.1);rintro e w34 ⟨v278,rfl,ho0,hb⟩;refine ⟨_,rfl,?_⟩;have n0_:=Aside0.mk (Kd.R_elder' (by (with_reducible repeat (first|apply Kd.R_alloc|apply Kd.R_drewN|apply Kd.R_drew));exact (Kd.R_mono (Kd.R_far (p:=⟨gb275,1,none⟩) (Kd.R_far (p:=⟨gb275,0,none⟩) (Kd.R_types HO264.out BK275.out (by decide)) (fun _ hk => hk.2) (.int .i64 t271)) (fun _ hk => hk.2) (.slice Ao33 t272.length co33)) (fun _ h_ => h_.1))) (Kd.R_base ho0) hb);have n1_:=Aside0.mk (Kd.R_elder' (by (with_reducible repeat (first|apply Kd.R_alloc|apply Kd.R_drewN|apply Kd.R_drew));exact (Kd.R_mono (Kd.R_far (p:=⟨gb275,1,none⟩) (Kd.R_far (p:=⟨gb275,0,none⟩) (Kd.R_types HO268.out BK275.out (by decide)) (fun _ hk => hk.2) (.int .i64 t271)) (fun _ hk => hk.2) (.slice Ao33 t272.length co33)) (fun _ h_ => h_.1))) (Kd.R_base ho0) hb);have n2_:=Aside0.mk (Kd.R_elder' (by (with_reducible repeat (first|apply Kd.R_alloc|apply Kd.R_drewN|apply Kd.R_drew));exact (Kd.R_mono (Kd.R_far (p:=⟨gb275,1,none⟩) (Kd.R_far (p:=⟨gb275,0,none⟩) (Kd.R_types HO274.out BK275.out (by decide)) (fun _ hk => hk.2) (.int .i64 t271)) (fun _ hk => hk.2) (.slice Ao33 t272.length co33)) (fun _ h_ => h_.1))) (Kd.R_base ho0) hb);have n3_:=Aside0.mk (Kd.R_lower (Kd.R_new' (Kd.R_new' (Kd.R_new' ho0 (Kd.R_lt (by (with_reducible repeat (first|apply Kd.R_alloc|apply Kd.R_drewN|apply Kd.R_drew));exact (Kd.R_mono (Kd.R_far (p:=⟨gb275,1,none⟩) (Kd.R_far (p:=⟨gb275,0,none⟩) (Kd.R_types HO264.out BK275.out (by decide)) (fun _ hk => hk.2) (.int .i64 t271)) (fun _ hk => hk.2) (.slice Ao33 t272.length co33)) (fun _ h_ => h_.1))))) (Kd.R_lt (by (with_reducible repeat (first|apply Kd.R_alloc|apply Kd.R_drewN|apply Kd.R_drew));exact (Kd.R_mono (Kd.R_far (p:=⟨gb275,1,none⟩) (Kd.R_far (p:=⟨gb275,0,none⟩) (Kd.R_types HO268.out BK275.out (by decide)) (fun _ hk => hk.2) (.int .i64 t271)) (fun _ hk => hk.2) (.slice Ao33 t272.length co33)) (fun _ h_ => h_.1))))) (Kd.R_lt (by (with_reducible repeat (first|apply Kd.R_alloc|apply Kd.R_drewN|apply Kd.R_drew));exact (Kd.R_mono (Kd.R_far (p:=⟨gb275,1,none⟩) (Kd.R_far (p:=⟨gb275,0,none⟩) (Kd.R_types HO274.out BK275.out (by decide)) (fun _ hk => hk.2) (.int .i64 t271)) (fun _ hk => hk.2) (.slice Ao33 t272.length co33)) (fun _ h_ => h_.1))))) (below_size (by repeat (first|(with_reducible first|exact HB.out|apply below_alloc|apply pw_below_drewN|apply below_drew1|refine below_set ?_ GE259.out|refine below_set ?_ GE270.out|refine below_set ?_ GE275.out)|exact HB.out))));have n4_:=Aside0.mk (blk_below (g:=gb259) (o:=.cells #[.int .i64 a0_0,.slice A0_1 l0_1.length c0_1] 24 (0,0)) (by (with_reducible repeat (first|refine blk_drewN ?_ _|refine blk_drew ?_|refine blk_alloc ?_ _));refine blk_far ?_ NB259_275.out _;(with_reducible repeat (first|refine blk_drewN ?_ _|refine blk_drew ?_|refine blk_alloc ?_ _));refine blk_far ?_ NB259_275.out _;(with_reducible repeat (first|refine blk_drewN ?_ _|refine blk_drew ?_|refine blk_alloc ?_ _));exact BK259.out) hb);have n5_:=Aside0.mk (blk_below (g:=gb270) (o:=.cells #[.int .i64 t265,.slice Ao26 t266.length co26] 29 (0,0)) (by (with_reducible repeat (first|refine blk_drewN ?_ _|refine blk_drew ?_|refine blk_alloc ?_ _));refine blk_far ?_ NB270_275.out _;(with_reducible repeat (first|refine blk_drewN ?_ _|refine blk_drew ?_|refine blk_alloc ?_ _));refine blk_far ?_ NB270_275.out _;(with_reducible repeat (first|refine blk_drewN ?_ _|refine blk_drew ?_|refine blk_alloc ?_ _));exact BK270.out) hb);have n6_:=Aside0.mk (blk_below (g:=gb275) (o:=.cells #[.int .i64 t271,.slice Ao33 t272.length co33] 29 (0,0)) (by (with_reducible repeat (first|refine blk_drewN ?_ _|refine blk_drew ?_|refine blk_alloc ?_ _));refine blk_put (cs:=#[.int .i64 t271,.slice none 0 0]) ?_ 1 _ rfl;(with_reducible repeat (first|refine blk_drewN ?_ _|refine blk_drew ?_|refine blk_alloc ?_ _));refine blk_put (cs:=#[.int .i64 0,.slice none 0 0]) ?_ 0 _ rfl;(with_reducible repeat (first|refine blk_drewN ?_ _|refine blk_drew ?_|refine blk_alloc ?_ _));exact BK275.out) hb);have n7_:=Aside0.mk (below_step (by repeat (first|(with_reducible first|exact HB.out|apply below_alloc|apply pw_below_drewN|apply below_drew1|refine below_set ?_ GE259.out|refine below_set ?_ GE270.out|refine below_set ?_ GE275.out)|exact HB.out)) hb);clear HO264 HO268 HO274 BK259 BK270 BK275 HB;have HO264:=n0_;have HO268:=n1_;have HO274:=n2_;have HO279:=n3_;have BK259:=n4_;have BK270:=n5_;have BK275:=n6_;have HB:=n7_;clear n0_ n1_ n2_ n3_ n4_ n5_ n6_ n7_;(try clear hb);(try clear hb2);(try clear hk);(try clear hi);(try clear ho0))|((with_reducible refine gate_dst (N:=11) rfl ?_);refine box_event ?hg (N:=11) ?hd (cs:=#[.int .i64 0,.slice none 0 0]) (t:=29) ?hr ?_;(case hd => rfl);(case hg => rfl);(case hr => first|(go_simp;done)|(go_simp;rfl));intro gb281 hg w35 hbox hb;have n0_:=Aside0.mk (Kd.R_below (by (with_reducible repeat (first|apply Kd.R_alloc|apply Kd.R_drewN|apply Kd.R_drew));exact HO264.out) hb);have n1_:=Aside0.mk (Kd.R_below (by (with_reducible repeat (first|apply Kd.R_alloc|apply Kd.R_drewN|apply Kd.R_drew));exact HO268.out) hb);have n2_:=Aside0.mk (Kd.R_below (by (with_reducible repeat (first|apply Kd.R_alloc|apply Kd.R_drewN|apply Kd.R_drew));exact HO274.out) hb);have n3_:=Aside0.mk (Kd.R_below (by (with_reducible repeat (first|apply Kd.R_alloc|apply Kd.R_drewN|apply Kd.R_drew));exact HO279.out) hb);have n4_:=Aside0.mk (blk_below (g:=gb259) (o:=.cells #[.int .i64 a0_0,.slice A0_1 l0_1.length c0_1] 24 (0,0)) (by (with_reducible repeat (first|refine blk_drewN ?_ _|refine blk_drew ?_|refine blk_alloc ?_ _));exact BK259.out) hb);have n5_:=Aside0.mk (blk_below (g:=gb270) (o:=.cells #[.int .i64 t265,.slice Ao26 t266.length co26] 29 (0,0)) (by (with_reducible repeat (first|refine blk_drewN ?_ _|refine blk_drew ?_|refine blk_alloc ?_ _));exact BK270.out) hb);have n6_:=Aside0.mk (blk_below (g:=gb275) (o:=.cells #[.int .i64 t271,.slice Ao33 t272.length co33] 29 (0,0)) (by (with_reducible repeat (first|refine blk_drewN ?_ _|refine blk_drew ?_|refine blk_alloc ?_ _));exact BK275.out) hb);have n7_:=Aside0.mk (below_step (by repeat (first|(with_reducible first|exact HB.out|apply below_alloc|apply pw_below_drewN|apply below_drew1|refine below_set ?_ GE259.out|refine below_set ?_ GE270.out|refine below_set ?_ GE275.out)|exact HB.out)) hb);have n8_:=Aside0.mk (hbox);have n9_:=Aside0.mk ((by rw [hg];exact (below_size (by repeat (first|(with_reducible first|exact HB.out|apply below_alloc|apply pw_below_drewN|apply below_drew1|refine below_set ?_ GE259.out|refine below_set ?_ GE270.out|refine below_set ?_ GE275.out)|exact HB.out))) : w.heap.size ≤ gb281));have n10_:=Aside0.mk ((by rw [hg];exact (below_size (by repeat (first|(with_reducible first|exact HB.out|apply below_alloc|apply pw_below_drewN|apply below_drew1|refine below_set ?_ GE259.out|refine below_set ?_ GE270.out|refine below_set ?_ GE275.out)|exact HB.out))) : w.heap.size ≤ gb281));have n11_:=Aside0.mk ((by rw [hg];exact Nat.ne_of_lt (blk_lt (g:=gb259) (o:=.cells #[.int .i64 a0_0,.slice A0_1 l0_1.length c0_1] 24 (0,0)) (by (with_reducible repeat (first|refine blk_drewN ?_ _|refine blk_drew ?_|refine blk_alloc ?_ _));exact BK259.out)) : gb259 ≠ gb281));have n12_:=Aside0.mk ((by rw [hg];exact Nat.ne_of_gt (blk_lt (g:=gb259) (o:=.cells #[.int .i64 a0_0,.slice A0_1 l0_1.length c0_1] 24 (0,0)) (by (with_reducible repeat (first|refine blk_drewN ?_ _|refine blk_drew ?_|refine blk_alloc ?_ _));exact BK259.out)) : gb281 ≠ gb259));have n13_:=Aside0.mk ((by rw [hg];exact Nat.ne_of_lt (blk_lt (g:=gb270) (o:=.cells #[.int .i64 t265,.slice Ao26 t266.length co26] 29 (0,0)) (by (with_reducible repeat (first|refine blk_drewN ?_ _|refine blk_drew ?_|refine blk_alloc ?_ _));exact BK270.out)) : gb270 ≠ gb281));have n14_:=Aside0.mk ((by rw [hg];exact Nat.ne_of_gt (blk_lt (g:=gb270) (o:=.cells #[.int .i64 t265,.slice Ao26 t266.length co26] 29 (0,0)) (by (with_reducible repeat (first|refine blk_drewN ?_ _|refine blk_drew ?_|refine blk_alloc ?_ _));exact BK270.out)) : gb281 ≠ gb270));have n15_:=Aside0.mk ((by rw [hg];exact Nat.ne_of_lt (blk_lt (g:=gb275) (o:=.cells #[.int .i64 t271,.slice Ao33 t272.length co33] 29 (0,0)) (by (with_reducible repeat (first|refine blk_drewN ?_ _|refine blk_drew ?_|refine blk_alloc ?_ _));exact BK275.out)) : gb275 ≠ gb281));have n16_:=Aside0.mk ((by rw [hg];exact Nat.ne_of_gt (blk_lt (g:=gb275) (o:=.cells #[.int .i64 t271,.slice Ao33 t272.length co33] 29 (0,0)) (by (with_reducible repeat (first|refine blk_drewN ?_ _|refine blk_drew ?_|refine blk_alloc ?_ _));exact BK275.out)) : gb281 ≠ gb275));clear HO264 HO268 HO274 HO279 BK259 BK270 BK275 HB;have HO264:=n0_;have HO268:=n1_;have HO274:=n2_;have HO279:=n3_;have BK259:=n4_;have BK270:=n5_;have BK275:=n6_;have HB:=n7_;have BK281:=n8_;have GW281:=n9_;have GE281:=n10_;have NB259_281:=n11_;have NB281_259:=n12_;have NB270_281:=n13_;have NB281_270:=n14_;have NB275_281:=n15_;have NB281_275:=n16_;clear n0_ n1_ n2_ n3_ n4_ n5_ n6_ n7_ n8_ n9_ n10_ n11_ n12_ n13_ n14_ n15_ n16_;clear hb hbox hg;have hnb36:=NB281_259.out;have hnc36:=NB259_281.out;have hnb37:=NB281_270.out;have hnc37:=NB270_281.out;have hnb38:=NB281_275.out;have hnc38:=NB275_281.out;have hcz39_0 : w35.cell? ⟨gb281,0,none⟩ = some (.int .i64 0):=(blk_cell BK281.out 0).trans rfl;have hcz39_1 : w35.cell? ⟨gb281,1,none⟩ = some (.slice none 0 0):=(blk_cell BK281.out 1).trans rfl;have hfz39_0:=blk_frozen BK281.out 0;have hfz39_1:=blk_frozen BK281.out 1;obtain ⟨Ao40,co40,eo40⟩:=Kd.R_slice HO279.out;subst eo40))
   (try simp only [Act.put,List.setIfInBounds_toArray,List.set_cons_zero,List.set_cons_succ])
   go_cut [51] (fun v51 wc => ∃ (kq : Nat) (x51_14 : Bool),v51 = .bool x51_14 ∧ Aside0 (laws_FnExactCatTake.j0 kq a1 a2 t269 t280 x51_14 a0_0 l0_1 t265 t266 t271 t272 t276 t277 = some r) ∧ Aside0 (kq ≤ k) ∧ Aside0 (Kd.R k36 36 wc w.heap.size (fun k_ => some k_ ≠ ((.slice Ao33 t272.length co33) : Value).ownBlock ∧ some k_ ≠ ((.slice Ao40 t277.length co40) : Value).ownBlock) (.slice Ao26 t266.length co26) t266) ∧ Aside0 (Kd.R k36 36 wc w.heap.size (fun k_ => some k_ ≠ ((.slice Ao26 t266.length co26) : Value).ownBlock ∧ some k_ ≠ ((.slice Ao40 t277.length co40) : Value).ownBlock) (.slice Ao33 t272.length co33) t272) ∧ Aside0 (Kd.R k36 36 wc w.heap.size (fun k_ => some k_ ≠ ((.slice Ao26 t266.length co26) : Value).ownBlock ∧ some k_ ≠ ((.slice Ao33 t272.length co33) : Value).ownBlock) (.slice Ao40 t277.length co40) t277) ∧ Aside0 (wc.heap[gb259]? = some (.cells #[.int .i64 a0_0,(.slice A0_1 l0_1.length c0_1)] 24 (0,0))) ∧ Aside0 (wc.heap[gb270]? = some (.cells #[.int .i64 t265,(.slice Ao26 t266.length co26)] 29 (0,0))) ∧ Aside0 (wc.heap[gb275]? = some (.cells #[.int .i64 t271,(.slice Ao33 t272.length co33)] 29 (0,0))) ∧ Aside0 (wc.heap[gb281]? = some (.cells #[.int .i64 t276,(.slice Ao40 t277.length co40)] 29 (0,0))) ∧ Aside0 (Below w.heap.size w wc))
   case first =>
    have H := HC15.out
    clear HC15
    replace H := Option.bind_eq_some_iff.mp H
    obtain ⟨t282, A410, H⟩ := H
    replace H : (if t282 = true then (laws_FnExactCatTake.j0 k a1 a2 t269 t280 (t280 != t269) a0_0 l0_1 t265 t266 t271 t272 t276 t277) else (laws_FnExactCatTake.j0 k a1 a2 t269 t280 true a0_0 l0_1 t265 t266 t271 t272 t276 t277)) = some r:=H
    have A41 := Aside0.mk A410
    clear A410
    by_cases c42 : t282 = true
    ·subst c42
     have H1 : (laws_FnExactCatTake.j0 k a1 a2 t269 t280 (t280 != t269) a0_0 l0_1 t265 t266 t271 t272 t276 t277) = some r:=by rw [if_pos rfl] at H;exact H
     clear H
     have H := H1
     clear H1
     have H' := Aside0.mk H
     clear H
     have hnb43 := NB281_259.out
     have hnc43 := NB259_281.out
     have hnb44 := NB281_270.out
     have hnc44 := NB270_281.out
     have hnb45 := NB281_275.out
     have hnc45 := NB275_281.out
     have hcz46_0 : w35.cell? ⟨gb281,0,none⟩ = some (.int .i64 0):=(blk_cell BK281.out 0).trans rfl
     have hcz46_1 : w35.cell? ⟨gb281,1,none⟩ = some (.slice none 0 0):=(blk_cell BK281.out 1).trans rfl
     have hfz46_0 := blk_frozen BK281.out 0
     have hfz46_1 := blk_frozen BK281.out 1
     have hnb47 := NB270_259.out
     have hnc47 := NB259_270.out
     have hnb48 := NB270_275.out
     have hnc48 := NB275_270.out
     have hcz49_0 : w35.cell? ⟨gb270,0,none⟩ = some (.int .i64 t265):=(blk_cell BK270.out 0).trans rfl
     have hcz49_1 : w35.cell? ⟨gb270,1,none⟩ = some (.slice Ao26 t266.length co26):=(blk_cell BK270.out 1).trans rfl
     have hfz49_0 := blk_frozen BK270.out 0
     have hfz49_1 := blk_frozen BK270.out 1
     go_wp2_with (first|((with_reducible refine gate_callee (f:=17) rfl ?_);refine goesL_ (some 45) rfl rfl Try.func17 (by kernel_rfl) rfl #[.agg #[.int .i64 t276,.slice Ao40 t277.length co40],.agg #[.int .i64 t265,.slice Ao26 t266.length co26]] rfl (by (try simp only [List.map_toArray,List.map_cons,List.map_nil]);first|done|rfl|(simp only [List.length_drop,List.length_take];rfl)) ?_;(with_reducible refine (laws_eqCat.calls k t276 _ _ t277 t265 _ _ t266 true _ ?side1 ?side2 ?side3 ?side4 A41.out).mono ?_);(case side1 => refine (Kd.R_reads' (e:=36) (base:=w.heap.size) (ok:=fun k_ => (((True ∧ some k_ ≠ (.slice Ao21 t262.length co21 : Value).ownBlock) ∧ some k_ ≠ (.slice Ao26 t266.length co26 : Value).ownBlock) ∧ some k_ ≠ (.slice Ao33 t272.length co33 : Value).ownBlock)) (n:=t277.length) (c:=co40) ?_).2.2;exact (by (with_reducible repeat (first|apply Kd.R_alloc|apply Kd.R_drewN|apply Kd.R_drew));exact (Kd.R_mono (Kd.R_far (p:=⟨gb281,1,none⟩) (Kd.R_far (p:=⟨gb281,0,none⟩) (Kd.R_types HO279.out BK281.out (by decide)) (fun _ hk => hk.2) (.int .i64 t276)) (fun _ hk => hk.2) (.slice Ao40 t277.length co40)) (fun _ h_ => h_.1))));(case side2 => exact (Kd.R_reads' HO279.out).2.1);(case side3 => refine (Kd.R_reads' (e:=36) (base:=w.heap.size) (ok:=fun k_ => (((True ∧ some k_ ≠ (.slice Ao21 t262.length co21 : Value).ownBlock) ∧ some k_ ≠ (.slice Ao33 t272.length co33 : Value).ownBlock) ∧ some k_ ≠ (.slice Ao40 t277.length co40 : Value).ownBlock)) (n:=t266.length) (c:=co26) ?_).2.2;exact (by (with_reducible repeat (first|apply Kd.R_alloc|apply Kd.R_drewN|apply Kd.R_drew));exact (Kd.R_mono (Kd.R_far (p:=⟨gb281,1,none⟩) (Kd.R_far (p:=⟨gb281,0,none⟩) (Kd.R_types HO268.out BK281.out (by decide)) (fun _ hk => hk.2) (.int .i64 t276)) (fun _ hk => hk.2) (.slice Ao40 t277.length co40)) (fun _ h_ => h_.1))));(case side4 => exact (Kd.R_reads' HO268.out).2.1);rintro e w50 ⟨rfl,hb⟩;refine ⟨_,rfl,?_⟩;have n0_:=Aside0.mk (Kd.R_below (by (with_reducible repeat (first|apply Kd.R_alloc|apply Kd.R_drewN|apply Kd.R_drew));exact (Kd.R_mono (Kd.R_far (p:=⟨gb281,1,none⟩) (Kd.R_far (p:=⟨gb281,0,none⟩) (Kd.R_types HO264.out BK281.out (by decide)) (fun _ hk => hk.2) (.int .i64 t276)) (fun _ hk => hk.2) (.slice Ao40 t277.length co40)) (fun _ h_ => h_.1))) hb);have n1_:=Aside0.mk (Kd.R_below (by (with_reducible repeat (first|apply Kd.R_alloc|apply Kd.R_drewN|apply Kd.R_drew));exact (Kd.R_mono (Kd.R_far (p:=⟨gb281,1,none⟩) (Kd.R_far (p:=⟨gb281,0,none⟩) (Kd.R_types HO268.out BK281.out (by decide)) (fun _ hk => hk.2) (.int .i64 t276)) (fun _ hk => hk.2) (.slice Ao40 t277.length co40)) (fun _ h_ => h_.1))) hb);have n2_:=Aside0.mk (Kd.R_below (by (with_reducible repeat (first|apply Kd.R_alloc|apply Kd.R_drewN|apply Kd.R_drew));exact (Kd.R_mono (Kd.R_far (p:=⟨gb281,1,none⟩) (Kd.R_far (p:=⟨gb281,0,none⟩) (Kd.R_types HO274.out BK281.out (by decide)) (fun _ hk => hk.2) (.int .i64 t276)) (fun _ hk => hk.2) (.slice Ao40 t277.length co40)) (fun _ h_ => h_.1))) hb);have n3_:=Aside0.mk (Kd.R_below (by (with_reducible repeat (first|apply Kd.R_alloc|apply Kd.R_drewN|apply Kd.R_drew));exact (Kd.R_mono (Kd.R_far (p:=⟨gb281,1,none⟩) (Kd.R_far (p:=⟨gb281,0,none⟩) (Kd.R_types HO279.out BK281.out (by decide)) (fun _ hk => hk.2) (.int .i64 t276)) (fun _ hk => hk.2) (.slice Ao40 t277.length co40)) (fun _ h_ => h_.1))) hb);have n4_:=Aside0.mk (blk_below (g:=gb259) (o:=.cells #[.int .i64 a0_0,.slice A0_1 l0_1.length c0_1] 24 (0,0)) (by (with_reducible repeat (first|refine blk_drewN ?_ _|refine blk_drew ?_|refine blk_alloc ?_ _));refine blk_far ?_ NB259_281.out _;(with_reducible repeat (first|refine blk_drewN ?_ _|refine blk_drew ?_|refine blk_alloc ?_ _));refine blk_far ?_ NB259_281.out _;(with_reducible repeat (first|refine blk_drewN ?_ _|refine blk_drew ?_|refine blk_alloc ?_ _));exact BK259.out) hb);have n5_:=Aside0.mk (blk_below (g:=gb270) (o:=.cells #[.int .i64 t265,.slice Ao26 t266.length co26] 29 (0,0)) (by (with_reducible repeat (first|refine blk_drewN ?_ _|refine blk_drew ?_|refine blk_alloc ?_ _));refine blk_far ?_ NB270_281.out _;(with_reducible repeat (first|refine blk_drewN ?_ _|refine blk_drew ?_|refine blk_alloc ?_ _));refine blk_far ?_ NB270_281.out _;(with_reducible repeat (first|refine blk_drewN ?_ _|refine blk_drew ?_|refine blk_alloc ?_ _));exact BK270.out) hb);have n6_:=Aside0.mk (blk_below (g:=gb275) (o:=.cells #[.int .i64 t271,.slice Ao33 t272.length co33] 29 (0,0)) (by (with_reducible repeat (first|refine blk_drewN ?_ _|refine blk_drew ?_|refine blk_alloc ?_ _));refine blk_far ?_ NB275_281.out _;(with_reducible repeat (first|refine blk_drewN ?_ _|refine blk_drew ?_|refine blk_alloc ?_ _));refine blk_far ?_ NB275_281.out _;(with_reducible repeat (first|refine blk_drewN ?_ _|refine blk_drew ?_|refine blk_alloc ?_ _));exact BK275.out) hb);have n7_:=Aside0.mk (blk_below (g:=gb281) (o:=.cells #[.int .i64 t276,.slice Ao40 t277.length co40] 29 (0,0)) (by (with_reducible repeat (first|refine blk_drewN ?_ _|refine blk_drew ?_|refine blk_alloc ?_ _));refine blk_put (cs:=#[.int .i64 t276,.slice none 0 0]) ?_ 1 _ rfl;(with_reducible repeat (first|refine blk_drewN ?_ _|refine blk_drew ?_|refine blk_alloc ?_ _));refine blk_put (cs:=#[.int .i64 0,.slice none 0 0]) ?_ 0 _ rfl;(with_reducible repeat (first|refine blk_drewN ?_ _|refine blk_drew ?_|refine blk_alloc ?_ _));exact BK281.out) hb);have n8_:=Aside0.mk (below_step (by repeat (first|(with_reducible first|exact HB.out|apply below_alloc|apply pw_below_drewN|apply below_drew1|refine below_set ?_ GE259.out|refine below_set ?_ GE270.out|refine below_set ?_ GE275.out|refine below_set ?_ GE281.out)|exact HB.out)) hb);clear HO264 HO268 HO274 HO279 BK259 BK270 BK275 BK281 HB;have HO264:=n0_;have HO268:=n1_;have HO274:=n2_;have HO279:=n3_;have BK259:=n4_;have BK270:=n5_;have BK275:=n6_;have BK281:=n7_;have HB:=n8_;clear n0_ n1_ n2_ n3_ n4_ n5_ n6_ n7_ n8_;(try clear hb);(try clear hb2);(try clear hk);(try clear hi)))
     go_meet
     case rel => exact ⟨_,((t280 != t269)),(by first|rfl|(simp;done)|(simp [*];done)),H',⟨by first|omega|exact Nat.le_refl _⟩,⟨by (with_reducible repeat (first|apply Kd.R_alloc|apply Kd.R_drewN|apply Kd.R_drew));exact Kd.R_mono HO268.out (fun _ hk => ⟨hk.1.2,hk.2⟩)⟩,⟨by (with_reducible repeat (first|apply Kd.R_alloc|apply Kd.R_drewN|apply Kd.R_drew));exact Kd.R_mono HO274.out (fun _ hk => ⟨hk.1.2,hk.2⟩)⟩,⟨by (with_reducible repeat (first|apply Kd.R_alloc|apply Kd.R_drewN|apply Kd.R_drew));exact Kd.R_mono HO279.out (fun _ hk => ⟨hk.1.2,hk.2⟩)⟩,⟨by (with_reducible repeat (first|refine blk_drewN ?_ _|refine blk_drew ?_|refine blk_alloc ?_ _));exact BK259.out⟩,⟨by (with_reducible repeat (first|refine blk_drewN ?_ _|refine blk_drew ?_|refine blk_alloc ?_ _));exact BK270.out⟩,⟨by (with_reducible repeat (first|refine blk_drewN ?_ _|refine blk_drew ?_|refine blk_alloc ?_ _));exact BK275.out⟩,⟨by (with_reducible repeat (first|refine blk_drewN ?_ _|refine blk_drew ?_|refine blk_alloc ?_ _));exact BK281.out⟩,⟨by repeat (first|(with_reducible first|exact HB.out|apply below_alloc|apply pw_below_drewN|apply below_drew1|refine below_set ?_ GE259.out|refine below_set ?_ GE270.out|refine below_set ?_ GE275.out|refine below_set ?_ GE281.out)|exact HB.out)⟩⟩
    ·replace c42 := Bool.eq_false_iff.mpr c42
     subst c42
     have H1 : (laws_FnExactCatTake.j0 k a1 a2 t269 t280 true a0_0 l0_1 t265 t266 t271 t272 t276 t277) = some r:=by rw [if_neg (show ¬ (false = true) by decide)] at H;exact H
     clear H
     have H := H1
     clear H1
     have H' := Aside0.mk H
     clear H
     have hnb51 := NB281_259.out
     have hnc51 := NB259_281.out
     have hnb52 := NB281_270.out
     have hnc52 := NB270_281.out
     have hnb53 := NB281_275.out
     have hnc53 := NB275_281.out
     have hcz54_0 : w35.cell? ⟨gb281,0,none⟩ = some (.int .i64 0):=(blk_cell BK281.out 0).trans rfl
     have hcz54_1 : w35.cell? ⟨gb281,1,none⟩ = some (.slice none 0 0):=(blk_cell BK281.out 1).trans rfl
     have hfz54_0 := blk_frozen BK281.out 0
     have hfz54_1 := blk_frozen BK281.out 1
     have hnb55 := NB270_259.out
     have hnc55 := NB259_270.out
     have hnb56 := NB270_275.out
     have hnc56 := NB275_270.out
     have hcz57_0 : w35.cell? ⟨gb270,0,none⟩ = some (.int .i64 t265):=(blk_cell BK270.out 0).trans rfl
     have hcz57_1 : w35.cell? ⟨gb270,1,none⟩ = some (.slice Ao26 t266.length co26):=(blk_cell BK270.out 1).trans rfl
     have hfz57_0 := blk_frozen BK270.out 0
     have hfz57_1 := blk_frozen BK270.out 1
     go_wp2_with (first|((with_reducible refine gate_callee (f:=17) rfl ?_);refine goesL_ (some 45) rfl rfl Try.func17 (by kernel_rfl) rfl #[.agg #[.int .i64 t276,.slice Ao40 t277.length co40],.agg #[.int .i64 t265,.slice Ao26 t266.length co26]] rfl (by (try simp only [List.map_toArray,List.map_cons,List.map_nil]);first|done|rfl|(simp only [List.length_drop,List.length_take];rfl)) ?_;(with_reducible refine (laws_eqCat.calls k t276 _ _ t277 t265 _ _ t266 false _ ?side1 ?side2 ?side3 ?side4 A41.out).mono ?_);(case side1 => refine (Kd.R_reads' (e:=36) (base:=w.heap.size) (ok:=fun k_ => (((True ∧ some k_ ≠ (.slice Ao21 t262.length co21 : Value).ownBlock) ∧ some k_ ≠ (.slice Ao26 t266.length co26 : Value).ownBlock) ∧ some k_ ≠ (.slice Ao33 t272.length co33 : Value).ownBlock)) (n:=t277.length) (c:=co40) ?_).2.2;exact (by (with_reducible repeat (first|apply Kd.R_alloc|apply Kd.R_drewN|apply Kd.R_drew));exact (Kd.R_mono (Kd.R_far (p:=⟨gb281,1,none⟩) (Kd.R_far (p:=⟨gb281,0,none⟩) (Kd.R_types HO279.out BK281.out (by decide)) (fun _ hk => hk.2) (.int .i64 t276)) (fun _ hk => hk.2) (.slice Ao40 t277.length co40)) (fun _ h_ => h_.1))));(case side2 => exact (Kd.R_reads' HO279.out).2.1);(case side3 => refine (Kd.R_reads' (e:=36) (base:=w.heap.size) (ok:=fun k_ => (((True ∧ some k_ ≠ (.slice Ao21 t262.length co21 : Value).ownBlock) ∧ some k_ ≠ (.slice Ao33 t272.length co33 : Value).ownBlock) ∧ some k_ ≠ (.slice Ao40 t277.length co40 : Value).ownBlock)) (n:=t266.length) (c:=co26) ?_).2.2;exact (by (with_reducible repeat (first|apply Kd.R_alloc|apply Kd.R_drewN|apply Kd.R_drew));exact (Kd.R_mono (Kd.R_far (p:=⟨gb281,1,none⟩) (Kd.R_far (p:=⟨gb281,0,none⟩) (Kd.R_types HO268.out BK281.out (by decide)) (fun _ hk => hk.2) (.int .i64 t276)) (fun _ hk => hk.2) (.slice Ao40 t277.length co40)) (fun _ h_ => h_.1))));(case side4 => exact (Kd.R_reads' HO268.out).2.1);rintro e w58 ⟨rfl,hb⟩;refine ⟨_,rfl,?_⟩;have n0_:=Aside0.mk (Kd.R_below (by (with_reducible repeat (first|apply Kd.R_alloc|apply Kd.R_drewN|apply Kd.R_drew));exact (Kd.R_mono (Kd.R_far (p:=⟨gb281,1,none⟩) (Kd.R_far (p:=⟨gb281,0,none⟩) (Kd.R_types HO264.out BK281.out (by decide)) (fun _ hk => hk.2) (.int .i64 t276)) (fun _ hk => hk.2) (.slice Ao40 t277.length co40)) (fun _ h_ => h_.1))) hb);have n1_:=Aside0.mk (Kd.R_below (by (with_reducible repeat (first|apply Kd.R_alloc|apply Kd.R_drewN|apply Kd.R_drew));exact (Kd.R_mono (Kd.R_far (p:=⟨gb281,1,none⟩) (Kd.R_far (p:=⟨gb281,0,none⟩) (Kd.R_types HO268.out BK281.out (by decide)) (fun _ hk => hk.2) (.int .i64 t276)) (fun _ hk => hk.2) (.slice Ao40 t277.length co40)) (fun _ h_ => h_.1))) hb);have n2_:=Aside0.mk (Kd.R_below (by (with_reducible repeat (first|apply Kd.R_alloc|apply Kd.R_drewN|apply Kd.R_drew));exact (Kd.R_mono (Kd.R_far (p:=⟨gb281,1,none⟩) (Kd.R_far (p:=⟨gb281,0,none⟩) (Kd.R_types HO274.out BK281.out (by decide)) (fun _ hk => hk.2) (.int .i64 t276)) (fun _ hk => hk.2) (.slice Ao40 t277.length co40)) (fun _ h_ => h_.1))) hb);have n3_:=Aside0.mk (Kd.R_below (by (with_reducible repeat (first|apply Kd.R_alloc|apply Kd.R_drewN|apply Kd.R_drew));exact (Kd.R_mono (Kd.R_far (p:=⟨gb281,1,none⟩) (Kd.R_far (p:=⟨gb281,0,none⟩) (Kd.R_types HO279.out BK281.out (by decide)) (fun _ hk => hk.2) (.int .i64 t276)) (fun _ hk => hk.2) (.slice Ao40 t277.length co40)) (fun _ h_ => h_.1))) hb);have n4_:=Aside0.mk (blk_below (g:=gb259) (o:=.cells #[.int .i64 a0_0,.slice A0_1 l0_1.length c0_1] 24 (0,0)) (by (with_reducible repeat (first|refine blk_drewN ?_ _|refine blk_drew ?_|refine blk_alloc ?_ _));refine blk_far ?_ NB259_281.out _;(with_reducible repeat (first|refine blk_drewN ?_ _|refine blk_drew ?_|refine blk_alloc ?_ _));refine blk_far ?_ NB259_281.out _;(with_reducible repeat (first|refine blk_drewN ?_ _|refine blk_drew ?_|refine blk_alloc ?_ _));exact BK259.out) hb);have n5_:=Aside0.mk (blk_below (g:=gb270) (o:=.cells #[.int .i64 t265,.slice Ao26 t266.length co26] 29 (0,0)) (by (with_reducible repeat (first|refine blk_drewN ?_ _|refine blk_drew ?_|refine blk_alloc ?_ _));refine blk_far ?_ NB270_281.out _;(with_reducible repeat (first|refine blk_drewN ?_ _|refine blk_drew ?_|refine blk_alloc ?_ _));refine blk_far ?_ NB270_281.out _;(with_reducible repeat (first|refine blk_drewN ?_ _|refine blk_drew ?_|refine blk_alloc ?_ _));exact BK270.out) hb);have n6_:=Aside0.mk (blk_below (g:=gb275) (o:=.cells #[.int .i64 t271,.slice Ao33 t272.length co33] 29 (0,0)) (by (with_reducible repeat (first|refine blk_drewN ?_ _|refine blk_drew ?_|refine blk_alloc ?_ _));refine blk_far ?_ NB275_281.out _;(with_reducible repeat (first|refine blk_drewN ?_ _|refine blk_drew ?_|refine blk_alloc ?_ _));refine blk_far ?_ NB275_281.out _;(with_reducible repeat (first|refine blk_drewN ?_ _|refine blk_drew ?_|refine blk_alloc ?_ _));exact BK275.out) hb);have n7_:=Aside0.mk (blk_below (g:=gb281) (o:=.cells #[.int .i64 t276,.slice Ao40 t277.length co40] 29 (0,0)) (by (with_reducible repeat (first|refine blk_drewN ?_ _|refine blk_drew ?_|refine blk_alloc ?_ _));refine blk_put (cs:=#[.int .i64 t276,.slice none 0 0]) ?_ 1 _ rfl;(with_reducible repeat (first|refine blk_drewN ?_ _|refine blk_drew ?_|refine blk_alloc ?_ _));refine blk_put (cs:=#[.int .i64 0,.slice none 0 0]) ?_ 0 _ rfl;(with_reducible repeat (first|refine blk_drewN ?_ _|refine blk_drew ?_|refine blk_alloc ?_ _));exact BK281.out) hb);have n8_:=Aside0.mk (below_step (by repeat (first|(with_reducible first|exact HB.out|apply below_alloc|apply pw_below_drewN|apply below_drew1|refine below_set ?_ GE259.out|refine below_set ?_ GE270.out|refine below_set ?_ GE275.out|refine below_set ?_ GE281.out)|exact HB.out)) hb);clear HO264 HO268 HO274 HO279 BK259 BK270 BK275 BK281 HB;have HO264:=n0_;have HO268:=n1_;have HO274:=n2_;have HO279:=n3_;have BK259:=n4_;have BK270:=n5_;have BK275:=n6_;have BK281:=n7_;have HB:=n8_;clear n0_ n1_ n2_ n3_ n4_ n5_ n6_ n7_ n8_;(try clear hb);(try clear hb2);(try clear hk);(try clear hi)))
     go_meet
     case rel => exact ⟨_,(true),(by first|rfl|(simp;done)|(simp [*];done)),H',⟨by first|omega|exact Nat.le_refl _⟩,⟨by (with_reducible repeat (first|apply Kd.R_alloc|apply Kd.R_drewN|apply Kd.R_drew));exact Kd.R_mono HO268.out (fun _ hk => ⟨hk.1.2,hk.2⟩)⟩,⟨by (with_reducible repeat (first|apply Kd.R_alloc|apply Kd.R_drewN|apply Kd.R_drew));exact Kd.R_mono HO274.out (fun _ hk => ⟨hk.1.2,hk.2⟩)⟩,⟨by (with_reducible repeat (first|apply Kd.R_alloc|apply Kd.R_drewN|apply Kd.R_drew));exact Kd.R_mono HO279.out (fun _ hk => ⟨hk.1.2,hk.2⟩)⟩,⟨by (with_reducible repeat (first|refine blk_drewN ?_ _|refine blk_drew ?_|refine blk_alloc ?_ _));exact BK259.out⟩,⟨by (with_reducible repeat (first|refine blk_drewN ?_ _|refine blk_drew ?_|refine blk_alloc ?_ _));exact BK270.out⟩,⟨by (with_reducible repeat (first|refine blk_drewN ?_ _|refine blk_drew ?_|refine blk_alloc ?_ _));exact BK275.out⟩,⟨by (with_reducible repeat (first|refine blk_drewN ?_ _|refine blk_drew ?_|refine blk_alloc ?_ _));exact BK281.out⟩,⟨by repeat (first|(with_reducible first|exact HB.out|apply below_alloc|apply pw_below_drewN|apply below_drew1|refine below_set ?_ GE259.out|refine below_set ?_ GE270.out|refine below_set ?_ GE275.out|refine below_set ?_ GE281.out)|exact HB.out)⟩⟩
   case rest =>
    clear HC15
    try clear c1
    try clear c2
    try clear p2
    try clear c3
    try clear c4
    try clear c4b0
    try clear c4b1
    try clear c5
    try clear c7
    try clear c7b0
    try clear c8
    try clear c13
    try clear c15
    try clear c17
    try clear c24
    try clear c26
    try clear c27
    try clear c30
    try clear c31
    try clear c36
    try clear c37
    try clear c38
    try clear c42
    try clear c43
    try clear c44
    try clear c45
    try clear c47
    try clear c48
    try clear c51
    try clear c52
    try clear c53
    try clear c55
    try clear c56
    try clear hcz17_0
    try clear hcz17_1
    try clear hcz19_0
    try clear hcz19_1
    try clear hcz25_0
    try clear hcz25_1
    try clear hcz27_0
    try clear hcz27_1
    try clear hcz32_0
    try clear hcz32_1
    try clear hcz39_0
    try clear hcz39_1
    try clear hcz46_0
    try clear hcz46_1
    try clear hcz49_0
    try clear hcz49_1
    try clear hcz54_0
    try clear hcz54_1
    try clear hcz57_0
    try clear hcz57_1
    try clear hcz9_0
    try clear hcz9_1
    try clear hfz17_0
    try clear hfz17_1
    try clear hfz19_0
    try clear hfz19_1
    try clear hfz25_0
    try clear hfz25_1
    try clear hfz27_0
    try clear hfz27_1
    try clear hfz32_0
    try clear hfz32_1
    try clear hfz39_0
    try clear hfz39_1
    try clear hfz46_0
    try clear hfz46_1
    try clear hfz49_0
    try clear hfz49_1
    try clear hfz54_0
    try clear hfz54_1
    try clear hfz57_0
    try clear hfz57_1
    try clear hfz9_0
    try clear hfz9_1
    obtain ⟨kq,x51_14,rfl,HA,HJ14,HO_271001,HO_276001,HO_282001,BK259,BK270,BK275,BK281,HB⟩:=hcut
    cases kq with
    | zero => exact absurd HA.out (by simp [laws_FnExactCatTake.j0])
    | succ kj14 =>
     have H := HA.out
     clear HA
     simp only [laws_FnExactCatTake.j0] at H
     by_cases c59 : x51_14 = true
     ·subst c59
      have H1 : (some false) = some r:=by rw [if_pos rfl] at H;exact H
      clear H
      have H := H1
      clear H1
      obtain rfl := Option.some.inj H
      go_wp2
      go_ret
      exact ⟨by first|rfl|(simp [errW_none,errW_some] <;> rfl)|(simp [*,errW_none,errW_some] <;> rfl),by repeat (first|(with_reducible first|exact HB.out|apply below_alloc|apply pw_below_drewN|apply below_drew1|refine below_set ?_ GE259.out|refine below_set ?_ GE270.out|refine below_set ?_ GE275.out|refine below_set ?_ GE281.out)|exact HB.out)⟩
     ·replace c59 := Bool.eq_false_iff.mpr c59
      subst c59
      have H1 : ((laws_toCat.f kj14 a0_0 l0_1).bind fun bt283 => ((laws_eqCat.f kj14 t271 t272 bt283.1 bt283.2).bind fun t287 => (if t287 = true then ((laws_markCat.f kj14 t271 t272 1).bind fun bt288 => (if bt288.1 < 0 then (laws_FnExactCatTake.j1 kj14 a1 a2 t269 true a0_0 l0_1 t265 t266 t276 t277) else ((laws_eqCat.f kj14 t276 t277 t265 t266).bind fun t290 => (if t290 = true then (laws_FnExactCatTake.j1 kj14 a1 a2 t269 (t280 != t269) a0_0 l0_1 t265 t266 t276 t277) else (laws_FnExactCatTake.j1 kj14 a1 a2 t269 true a0_0 l0_1 t265 t266 t276 t277))))) else (some false)))) = some r:=by rw [if_neg (show ¬ (false = true) by decide)] at H;exact H
      clear H
      have H := H1
      clear H1
      replace H := Option.bind_eq_some_iff.mp H
      obtain ⟨⟨t283, t284⟩, A600, H⟩ := H
      replace H : ((laws_eqCat.f kj14 t271 t272 t283 t284).bind fun t287 => (if t287 = true then ((laws_markCat.f kj14 t271 t272 1).bind fun bt288 => (if bt288.1 < 0 then (laws_FnExactCatTake.j1 kj14 a1 a2 t269 true a0_0 l0_1 t265 t266 t276 t277) else ((laws_eqCat.f kj14 t276 t277 t265 t266).bind fun t290 => (if t290 = true then (laws_FnExactCatTake.j1 kj14 a1 a2 t269 (t280 != t269) a0_0 l0_1 t265 t266 t276 t277) else (laws_FnExactCatTake.j1 kj14 a1 a2 t269 true a0_0 l0_1 t265 t266 t276 t277))))) else (some false))) = some r:=H
      have A60 := Aside0.mk A600
      clear A600
      replace H := Option.bind_eq_some_iff.mp H
      obtain ⟨t287, A610, H⟩ := H
      replace H : (if t287 = true then ((laws_markCat.f kj14 t271 t272 1).bind fun bt288 => (if bt288.1 < 0 then (laws_FnExactCatTake.j1 kj14 a1 a2 t269 true a0_0 l0_1 t265 t266 t276 t277) else ((laws_eqCat.f kj14 t276 t277 t265 t266).bind fun t290 => (if t290 = true then (laws_FnExactCatTake.j1 kj14 a1 a2 t269 (t280 != t269) a0_0 l0_1 t265 t266 t276 t277) else (laws_FnExactCatTake.j1 kj14 a1 a2 t269 true a0_0 l0_1 t265 t266 t276 t277))))) else (some false)) = some r:=H
      have A61 := Aside0.mk A610
      clear A610
      by_cases c62 : t287 = true
      ·subst c62
       have H1 : ((laws_markCat.f kj14 t271 t272 1).bind fun bt288 => (if bt288.1 < 0 then (laws_FnExactCatTake.j1 kj14 a1 a2 t269 true a0_0 l0_1 t265 t266 t276 t277) else ((laws_eqCat.f kj14 t276 t277 t265 t266).bind fun t290 => (if t290 = true then (laws_FnExactCatTake.j1 kj14 a1 a2 t269 (t280 != t269) a0_0 l0_1 t265 t266 t276 t277) else (laws_FnExactCatTake.j1 kj14 a1 a2 t269 true a0_0 l0_1 t265 t266 t276 t277))))) = some r:=by rw [if_pos rfl] at H;exact H
       clear H
       have H := H1
       clear H1
       replace H := Option.bind_eq_some_iff.mp H
       obtain ⟨⟨t288, t289⟩, A630, H⟩ := H
       replace H : (if t288 < 0 then (laws_FnExactCatTake.j1 kj14 a1 a2 t269 true a0_0 l0_1 t265 t266 t276 t277) else ((laws_eqCat.f kj14 t276 t277 t265 t266).bind fun t290 => (if t290 = true then (laws_FnExactCatTake.j1 kj14 a1 a2 t269 (t280 != t269) a0_0 l0_1 t265 t266 t276 t277) else (laws_FnExactCatTake.j1 kj14 a1 a2 t269 true a0_0 l0_1 t265 t266 t276 t277)))) = some r:=H
       have A63 := Aside0.mk A630
       clear A630
       have HC64 := Aside0.mk H
       clear H
       try go_wp2
       have n0_ := Aside0.mk (Kd.R_drew HO_271001.out)
       have n1_ := Aside0.mk (Kd.R_drew HO_276001.out)
       have n2_ := Aside0.mk (Kd.R_drew HO_282001.out)
       have n3_ := Aside0.mk (blk_drew BK259.out)
       have n4_ := Aside0.mk (blk_drew BK270.out)
       have n5_ := Aside0.mk (blk_drew BK275.out)
       have n6_ := Aside0.mk (blk_drew BK281.out)
       have n7_ := Aside0.mk (below_drew1 HB.out)
       clear HO_271001
       clear HO_276001
       clear HO_282001
       clear BK259
       clear BK270
       clear BK275
       clear BK281
       clear HB
       have HO_271001 := n0_
       have HO_276001 := n1_
       have HO_282001 := n2_
       have BK259 := n3_
       have BK270 := n4_
       have BK275 := n5_
       have BK281 := n6_
       have HB := n7_
       clear n0_ n1_ n2_ n3_ n4_ n5_ n6_ n7_
       refine start_ (n:=5) (S:=fun w' => w'.cell? ⟨gb275,0,none⟩ = some (.int .i64 t271) ∧ w'.cell? ⟨gb275,1,none⟩ = some (.slice Ao33 t272.length co33) ∧ w'.cell? ⟨gb259,0,none⟩ = some (.int .i64 a0_0) ∧ w'.cell? ⟨gb259,1,none⟩ = some (.slice A0_1 l0_1.length c0_1)) (ds:=[]) #[false,false,false,false,false] (by kernel_rfl) rfl rfl ⟨(blk_cell BK275.out 0).trans rfl,(blk_cell BK275.out 1).trans rfl,(blk_cell BK259.out 0).trans rfl,(blk_cell BK259.out 1).trans rfl⟩ (fun hHeld => ?_)
       generalize wc.drew = w65 at HO_271001 HO_276001 HO_282001 BK259 BK270 BK275 BK281 HB hHeld ⊢
       refine take_ (i:=0) (N:=some 52) (v:=?_) (a':=?_) #[true,false,false,false,false] rfl rfl (by kernel_rfl) (fun _ _ _ h => h) (Or.inl ⟨by rfl,?_⟩) hHeld ?_ ?_
       rotate_left
       ·rintro w' ⟨s0, s1, s2, s3⟩
        go_simp
        with_reducible rfl
       rotate_left
       ·simp only [Act.put,List.setIfInBounds_toArray,List.set_cons_zero,List.set_cons_succ,i64_w,i32_w]
        rfl
       refine take_ (i:=1) (N:=some 53) (v:=?_) (a':=?_) #[true,true,false,false,false] rfl rfl (by kernel_rfl) (fun _ _ _ h => h) (Or.inl ⟨by rfl,?_⟩) hHeld ?_ ?_
       rotate_left
       ·rintro w' ⟨s0, s1, s2, s3⟩
        go_simp
        with_reducible rfl
       rotate_left
       ·simp only [Act.put,List.setIfInBounds_toArray,List.set_cons_zero,List.set_cons_succ,i64_w,i32_w]
        rfl
       refine one_ (i:=2) (N:=some 54) #[true,true,true,false,false] rfl rfl (by kernel_rfl) (by decide) (fun K hK => ?_)
       refine goes_ Try.func15 (by kernel_rfl) rfl #[.agg #[.int .i64 a0_0,.slice A0_1 l0_1.length c0_1]] (by rfl) rfl rfl (by (try simp only [List.map_toArray,List.map_cons,List.map_nil]);first|done|rfl|(simp only [List.length_drop,List.length_take];rfl)) ?_
       with_reducible refine (laws_toCat.calls kj14 a0_0 _ _ l0_1 t283 t284 _ ?side1 ?side2 A60.out).mono ?_
       (case side1 => repeat (first|exact (Kd.C_below HR0_1.out HB.out)|(with_reducible refine Kd.C_alloc ?_ _)|(with_reducible refine Kd.C_drewN ?_ _)|(with_reducible refine Kd.C_drew ?_)))
       (case side2 => exact HC0_1.out)
       rintro e w66 ⟨v285, rfl, ho0, hb⟩
       refine ⟨_, rfl, ?_⟩
       have n0_:=Aside0.mk (Kd.R_elder' (by (with_reducible repeat (first|apply Kd.R_alloc|apply Kd.R_drewN|apply Kd.R_drew));exact HO_271001.out) (Kd.R_base ho0) hb)
       have n1_:=Aside0.mk (Kd.R_elder' (by (with_reducible repeat (first|apply Kd.R_alloc|apply Kd.R_drewN|apply Kd.R_drew));exact HO_276001.out) (Kd.R_base ho0) hb)
       have n2_:=Aside0.mk (Kd.R_elder' (by (with_reducible repeat (first|apply Kd.R_alloc|apply Kd.R_drewN|apply Kd.R_drew));exact HO_282001.out) (Kd.R_base ho0) hb)
       have n3_:=Aside0.mk (Kd.R_lower (Kd.R_new' (Kd.R_new' (Kd.R_new' ho0 (Kd.R_lt (by (with_reducible repeat (first|apply Kd.R_alloc|apply Kd.R_drewN|apply Kd.R_drew));exact HO_271001.out))) (Kd.R_lt (by (with_reducible repeat (first|apply Kd.R_alloc|apply Kd.R_drewN|apply Kd.R_drew));exact HO_276001.out))) (Kd.R_lt (by (with_reducible repeat (first|apply Kd.R_alloc|apply Kd.R_drewN|apply Kd.R_drew));exact HO_282001.out))) (below_size (by repeat (first|(with_reducible first|exact HB.out|apply below_alloc|apply pw_below_drewN|apply below_drew1|refine below_set ?_ GE259.out|refine below_set ?_ GE270.out|refine below_set ?_ GE275.out|refine below_set ?_ GE281.out)|exact HB.out))))
       have n4_:=Aside0.mk (blk_below (g:=gb259) (o:=.cells #[.int .i64 a0_0,.slice A0_1 l0_1.length c0_1] 24 (0,0)) (by (with_reducible repeat (first|refine blk_drewN ?_ _|refine blk_drew ?_|refine blk_alloc ?_ _));exact BK259.out) hb)
       have n5_:=Aside0.mk (blk_below (g:=gb270) (o:=.cells #[.int .i64 t265,.slice Ao26 t266.length co26] 29 (0,0)) (by (with_reducible repeat (first|refine blk_drewN ?_ _|refine blk_drew ?_|refine blk_alloc ?_ _));exact BK270.out) hb)
       have n6_:=Aside0.mk (blk_below (g:=gb275) (o:=.cells #[.int .i64 t271,.slice Ao33 t272.length co33] 29 (0,0)) (by (with_reducible repeat (first|refine blk_drewN ?_ _|refine blk_drew ?_|refine blk_alloc ?_ _));exact BK275.out) hb)
       have n7_:=Aside0.mk (blk_below (g:=gb281) (o:=.cells #[.int .i64 t276,.slice Ao40 t277.length co40] 29 (0,0)) (by (with_reducible repeat (first|refine blk_drewN ?_ _|refine blk_drew ?_|refine blk_alloc ?_ _));exact BK281.out) hb)
       have n8_:=Aside0.mk (below_step (by repeat (first|(with_reducible first|exact HB.out|apply below_alloc|apply pw_below_drewN|apply below_drew1|refine below_set ?_ GE259.out|refine below_set ?_ GE270.out|refine below_set ?_ GE275.out|refine below_set ?_ GE281.out)|exact HB.out)) hb)
       clear HO_271001
       clear HO_276001
       clear HO_282001
       clear BK259
       clear BK270
       clear BK275
       clear BK281
       clear HB
       have HO_271001 := n0_
       have HO_276001 := n1_
       have HO_282001 := n2_
       have HO286 := n3_
       have BK259 := n4_
       have BK270 := n5_
       have BK275 := n6_
       have BK281 := n7_
       have HB := n8_
       clear n0_ n1_ n2_ n3_ n4_ n5_ n6_ n7_ n8_
       (try clear hb)
       (try clear hb2)
       (try clear hk)
       (try clear hi)
       (try clear ho0)
       obtain ⟨Ao67, co67, eo67⟩ := Kd.R_slice HO286.out
       (first|subst eo67|(injection eo67 with f1_ f2_ f3_;have f4_:=f1_.symm;have f5_:=f3_.symm;clear f1_ f2_ f3_;subst f4_;subst f5_))
       refine hK.out _ _ ⟨(blk_cell BK275.out 0).trans rfl,(blk_cell BK275.out 1).trans rfl,(blk_cell BK259.out 0).trans rfl,(blk_cell BK259.out 1).trans rfl⟩ (fun hHeld => ?_)
       clear hK K
       refine norm_ (a' := ?_) ?_ ?_
       rotate_left
       ·show Act.put _ (some 54) _ = _
        simp only [Act.put,List.setIfInBounds_toArray,List.set_cons_zero,List.set_cons_succ,i64_w,i32_w]
        rfl
       refine one_ (i:=3) (N:=some 55) #[true,true,true,true,false] rfl rfl (by kernel_rfl) (by decide) (fun K hK => ?_)
       refine goes_ Try.func17 (by kernel_rfl) rfl #[.agg #[.int .i64 t271,.slice Ao33 t272.length co33],.agg #[.int .i64 t283,.slice Ao67 t284.length co67]] (by rfl) rfl rfl (by (try simp only [List.map_toArray,List.map_cons,List.map_nil]);first|done|rfl|(simp only [List.length_drop,List.length_take];rfl)) ?_
       with_reducible refine (laws_eqCat.calls kj14 t271 _ _ t272 t283 _ _ t284 true _ ?side1 ?side2 ?side3 ?side4 A61.out).mono ?_
       (case side1 => repeat (first|exact (Kd.R_reads' HO_276001.out).2.2|(with_reducible refine Kd.C_alloc ?_ _)|(with_reducible refine Kd.C_drewN ?_ _)|(with_reducible refine Kd.C_drew ?_)))
       (case side2 => exact (Kd.R_reads' HO_276001.out).2.1)
       (case side3 => repeat (first|exact (Kd.R_reads' HO286.out).2.2|(with_reducible refine Kd.C_alloc ?_ _)|(with_reducible refine Kd.C_drewN ?_ _)|(with_reducible refine Kd.C_drew ?_)))
       (case side4 => exact (Kd.R_reads' HO286.out).2.1)
       rintro e w68 ⟨rfl, hb⟩
       refine ⟨_, rfl, ?_⟩
       have n0_:=Aside0.mk (Kd.R_below (by (with_reducible repeat (first|apply Kd.R_alloc|apply Kd.R_drewN|apply Kd.R_drew));exact HO_271001.out) hb)
       have n1_:=Aside0.mk (Kd.R_below (by (with_reducible repeat (first|apply Kd.R_alloc|apply Kd.R_drewN|apply Kd.R_drew));exact HO_276001.out) hb)
       have n2_:=Aside0.mk (Kd.R_below (by (with_reducible repeat (first|apply Kd.R_alloc|apply Kd.R_drewN|apply Kd.R_drew));exact HO_282001.out) hb)
       have n3_:=Aside0.mk (Kd.R_below (by (with_reducible repeat (first|apply Kd.R_alloc|apply Kd.R_drewN|apply Kd.R_drew));exact HO286.out) hb)
       have n4_:=Aside0.mk (blk_below (g:=gb259) (o:=.cells #[.int .i64 a0_0,.slice A0_1 l0_1.length c0_1] 24 (0,0)) (by (with_reducible repeat (first|refine blk_drewN ?_ _|refine blk_drew ?_|refine blk_alloc ?_ _));exact BK259.out) hb)
       have n5_:=Aside0.mk (blk_below (g:=gb270) (o:=.cells #[.int .i64 t265,.slice Ao26 t266.length co26] 29 (0,0)) (by (with_reducible repeat (first|refine blk_drewN ?_ _|refine blk_drew ?_|refine blk_alloc ?_ _));exact BK270.out) hb)
       have n6_:=Aside0.mk (blk_below (g:=gb275) (o:=.cells #[.int .i64 t271,.slice Ao33 t272.length co33] 29 (0,0)) (by (with_reducible repeat (first|refine blk_drewN ?_ _|refine blk_drew ?_|refine blk_alloc ?_ _));exact BK275.out) hb)
       have n7_:=Aside0.mk (blk_below (g:=gb281) (o:=.cells #[.int .i64 t276,.slice Ao40 t277.length co40] 29 (0,0)) (by (with_reducible repeat (first|refine blk_drewN ?_ _|refine blk_drew ?_|refine blk_alloc ?_ _));exact BK281.out) hb)
       have n8_:=Aside0.mk (below_step (by repeat (first|(with_reducible first|exact HB.out|apply below_alloc|apply pw_below_drewN|apply below_drew1|refine below_set ?_ GE259.out|refine below_set ?_ GE270.out|refine below_set ?_ GE275.out|refine below_set ?_ GE281.out)|exact HB.out)) hb)
       clear HO_271001
       clear HO_276001
       clear HO_282001
       clear HO286
       clear BK259
       clear BK270
       clear BK275
       clear BK281
       clear HB
       have HO_271001 := n0_
       have HO_276001 := n1_
       have HO_282001 := n2_
       have HO286 := n3_
       have BK259 := n4_
       have BK270 := n5_
       have BK275 := n6_
       have BK281 := n7_
       have HB := n8_
       clear n0_ n1_ n2_ n3_ n4_ n5_ n6_ n7_ n8_
       (try clear hb)
       (try clear hb2)
       (try clear hk)
       (try clear hi)
       refine hK.out _ _ ⟨(blk_cell BK275.out 0).trans rfl,(blk_cell BK275.out 1).trans rfl,(blk_cell BK259.out 0).trans rfl,(blk_cell BK259.out 1).trans rfl⟩ (fun hHeld => ?_)
       clear hK K
       refine norm_ (a' := ?_) ?_ ?_
       rotate_left
       ·show Act.put _ (some 55) _ = _
        simp only [Act.put,List.setIfInBounds_toArray,List.set_cons_zero,List.set_cons_succ,i64_w,i32_w]
        rfl
       refine pure_ (i:=4) (N:=some 56) (v:=?_) (a':=?_) #[true,true,true,true,true] rfl rfl (by kernel_rfl) (fun _ _ _ h => h) (Or.inl ⟨by rfl,?_⟩) ?_ ?_
       rotate_left
       ·intro w'
        go_simp
        with_reducible rfl
       rotate_left
       ·simp only [Act.put,List.setIfInBounds_toArray,List.set_cons_zero,List.set_cons_succ,i64_w,i32_w]
        rfl
       refine done_ (by kernel_rfl) ?_
       have hnb69 := NB275_259.out
       have hnc69 := NB259_275.out
       have hnb70 := NB275_270.out
       have hnc70 := NB270_275.out
       have hnb71 := NB275_281.out
       have hnc71 := NB281_275.out
       have hcz72_0 : w68.cell? ⟨gb275,0,none⟩ = some (.int .i64 t271):=(blk_cell BK275.out 0).trans rfl
       have hcz72_1 : w68.cell? ⟨gb275,1,none⟩ = some (.slice Ao33 t272.length co33):=(blk_cell BK275.out 1).trans rfl
       have hfz72_0 := blk_frozen BK275.out 0
       have hfz72_1 := blk_frozen BK275.out 1
       go_upto_region 16 with (first|((with_reducible refine gate_callee (f:=28) rfl ?_);refine goesL_ (some 59) rfl rfl Try.func28 (by kernel_rfl) rfl #[.agg #[.int .i64 t271,.slice Ao33 t272.length co33],.int .i64 1] rfl (by (try simp only [List.map_toArray,List.map_cons,List.map_nil]);first|done|rfl|(simp only [List.length_drop,List.length_take];rfl)) ?_;(with_reducible refine (laws_markCat.calls kj14 t271 (fun k_ => some k_ = (.slice Ao33 t272.length co33 : Value).ownBlock) (.slice Ao33 t272.length co33) t272 1 t288 t289 w _ ?side1 ?side2 A63.out).mono ?_);(case side1 => repeat (first|(with_reducible first|exact HB.out|apply below_alloc|apply pw_below_drewN|apply below_drew1|refine below_set ?_ GE259.out|refine below_set ?_ GE270.out|refine below_set ?_ GE275.out|refine below_set ?_ GE281.out)|exact HB.out));(case side2 => exact Kd.R_tight rfl HO_276001.out);rintro e w73 ⟨rfl,hy0,hb,hkp⟩;refine ⟨_,rfl,?_⟩;have n0_:=Aside0.mk (Kd.R_mono (ok':=fun k_ => some k_ ≠ (.slice Ao33 t272.length co33 : Value).ownBlock ∧ some k_ ≠ (.slice Ao40 t277.length co40 : Value).ownBlock ∧ some k_ ≠ (.slice Ao67 t284.length co67 : Value).ownBlock) (Kd.R_keptB (HO_271001.out) hkp (fun k_ hk_ hs_ => (hk_.1.1) hs_)) (fun k_ hk_ => ⟨hk_.1.1.1,hk_.1.1.2,hk_.1.2⟩));have n1_:=Aside0.mk (Kd.R_reok rfl hy0 (fun k_ e_ => HO_276001.out.1 k_ e_));have n2_:=Aside0.mk (Kd.R_mono (ok':=fun k_ => some k_ ≠ (.slice Ao26 t266.length co26 : Value).ownBlock ∧ some k_ ≠ (.slice Ao33 t272.length co33 : Value).ownBlock ∧ some k_ ≠ (.slice Ao67 t284.length co67 : Value).ownBlock) (Kd.R_keptB (HO_282001.out) hkp (fun k_ hk_ hs_ => (hk_.1.2) hs_)) (fun k_ hk_ => ⟨hk_.1.1.1,hk_.1.1.2,hk_.1.2⟩));have n3_:=Aside0.mk (blk_kept (by (with_reducible repeat (first|refine blk_drewN ?_ _|refine blk_drew ?_|refine blk_alloc ?_ _));exact BK259.out) hkp (fun hs_ => (fun e_ => (Kd.R_ne HO_276001.out BK259.out (by decide)) e_) hs_));have n4_:=Aside0.mk (blk_kept (by (with_reducible repeat (first|refine blk_drewN ?_ _|refine blk_drew ?_|refine blk_alloc ?_ _));exact BK270.out) hkp (fun hs_ => (fun e_ => (Kd.R_ne HO_276001.out BK270.out (by decide)) e_) hs_));have n5_:=Aside0.mk (blk_kept (by (with_reducible repeat (first|refine blk_drewN ?_ _|refine blk_drew ?_|refine blk_alloc ?_ _));exact BK275.out) hkp (fun hs_ => (fun e_ => (Kd.R_ne HO_276001.out BK275.out (by decide)) e_) hs_));have n6_:=Aside0.mk (blk_kept (by (with_reducible repeat (first|refine blk_drewN ?_ _|refine blk_drew ?_|refine blk_alloc ?_ _));exact BK281.out) hkp (fun hs_ => (fun e_ => (Kd.R_ne HO_276001.out BK281.out (by decide)) e_) hs_));have n7_:=Aside0.mk (Kd.R_mono (ok':=fun k_ => some k_ ≠ (.slice Ao26 t266.length co26 : Value).ownBlock ∧ some k_ ≠ (.slice Ao33 t272.length co33 : Value).ownBlock ∧ some k_ ≠ (.slice Ao40 t277.length co40 : Value).ownBlock) (Kd.R_keptB (HO286.out) hkp (fun k_ hk_ hs_ => (hk_.1.2) hs_)) (fun k_ hk_ => ⟨hk_.1.1.1.2,hk_.1.1.2,hk_.1.2⟩));have n8_:=Aside0.mk (hb);clear HO_271001 HO_276001 HO_282001 BK259 BK270 BK275 BK281 HO286 HB;have HO_271001:=n0_;have HO_276001:=n1_;have HO_282001:=n2_;have BK259:=n3_;have BK270:=n4_;have BK275:=n5_;have BK281:=n6_;have HO286:=n7_;have HB:=n8_;clear n0_ n1_ n2_ n3_ n4_ n5_ n6_ n7_ n8_;(try clear hb);(try clear hkp);(try clear hy0)))
       (try simp only [Act.put,List.setIfInBounds_toArray,List.set_cons_zero,List.set_cons_succ])
       go_cut [72] (fun v72 wc => ∃ (kq : Nat) (x72_63 : Bool),v72 = .bool x72_63 ∧ Aside0 (laws_FnExactCatTake.j1 kq a1 a2 t269 x72_63 a0_0 l0_1 t265 t266 t276 t277 = some r) ∧ Aside0 (kq ≤ kj14) ∧ Aside0 (Kd.R k36 36 wc w.heap.size (fun k_ => some k_ ≠ ((.slice Ao33 t272.length co33) : Value).ownBlock ∧ some k_ ≠ ((.slice Ao40 t277.length co40) : Value).ownBlock) (.slice Ao26 t266.length co26) t266) ∧ Aside0 (Kd.R k36 36 wc w.heap.size (fun k_ => some k_ ≠ ((.slice Ao26 t266.length co26) : Value).ownBlock ∧ some k_ ≠ ((.slice Ao40 t277.length co40) : Value).ownBlock) (.slice Ao33 t272.length co33) t289) ∧ Aside0 (Kd.R k36 36 wc w.heap.size (fun k_ => some k_ ≠ ((.slice Ao26 t266.length co26) : Value).ownBlock ∧ some k_ ≠ ((.slice Ao33 t272.length co33) : Value).ownBlock) (.slice Ao40 t277.length co40) t277) ∧ Aside0 (wc.heap[gb259]? = some (.cells #[.int .i64 a0_0,(.slice A0_1 l0_1.length c0_1)] 24 (0,0))) ∧ Aside0 (wc.heap[gb270]? = some (.cells #[.int .i64 t265,(.slice Ao26 t266.length co26)] 29 (0,0))) ∧ Aside0 (wc.heap[gb275]? = some (.cells #[.int .i64 t271,(.slice Ao33 t272.length co33)] 29 (0,0))) ∧ Aside0 (wc.heap[gb281]? = some (.cells #[.int .i64 t276,(.slice Ao40 t277.length co40)] 29 (0,0))) ∧ Aside0 (Below w.heap.size w wc))
       case first =>
        have H := HC64.out
        clear HC64
        by_cases c74 : t288 < 0
        ·rw [if_pos c74] at H
         have c74b0 : decide (t288 < 0) = true := decide_eq_true c74
         clear c74
         (first|rw [c74b0]|(simp only [i64_w,i32_w];rw [c74b0])|skip)
         have H' := Aside0.mk H
         clear H
         go_wp2
         go_meet
         case rel => exact ⟨_,(true),(by first|rfl|(simp;done)|(simp [*];done)),H',⟨by have:=HJ14.out;first|omega|exact Nat.le_refl _⟩,⟨by (with_reducible repeat (first|apply Kd.R_alloc|apply Kd.R_drewN|apply Kd.R_drew));exact Kd.R_mono HO_271001.out (fun _ hk => ⟨hk.1,hk.2.1⟩)⟩,⟨by (with_reducible repeat (first|apply Kd.R_alloc|apply Kd.R_drewN|apply Kd.R_drew));exact Kd.R_mono HO_276001.out (fun _ hk => ⟨hk.1.1,hk.1.2⟩)⟩,⟨by (with_reducible repeat (first|apply Kd.R_alloc|apply Kd.R_drewN|apply Kd.R_drew));exact Kd.R_mono HO_282001.out (fun _ hk => ⟨hk.1,hk.2.1⟩)⟩,⟨by (with_reducible repeat (first|refine blk_drewN ?_ _|refine blk_drew ?_|refine blk_alloc ?_ _));exact BK259.out⟩,⟨by (with_reducible repeat (first|refine blk_drewN ?_ _|refine blk_drew ?_|refine blk_alloc ?_ _));exact BK270.out⟩,⟨by (with_reducible repeat (first|refine blk_drewN ?_ _|refine blk_drew ?_|refine blk_alloc ?_ _));exact BK275.out⟩,⟨by (with_reducible repeat (first|refine blk_drewN ?_ _|refine blk_drew ?_|refine blk_alloc ?_ _));exact BK281.out⟩,⟨by repeat (first|(with_reducible first|exact HB.out|apply below_alloc|apply pw_below_drewN|apply below_drew1|refine below_set ?_ GE259.out|refine below_set ?_ GE270.out|refine below_set ?_ GE275.out|refine below_set ?_ GE281.out)|exact HB.out)⟩⟩
        ·rw [if_neg c74] at H
         have c74b0 : decide (t288 < 0) = false:=decide_eq_false c74
         clear c74
         (first|rw [c74b0]|(simp only [i64_w,i32_w];rw [c74b0])|skip)
         replace H := Option.bind_eq_some_iff.mp H
         obtain ⟨t290, A750, H⟩ := H
         replace H : (if t290 = true then (laws_FnExactCatTake.j1 kj14 a1 a2 t269 (t280 != t269) a0_0 l0_1 t265 t266 t276 t277) else (laws_FnExactCatTake.j1 kj14 a1 a2 t269 true a0_0 l0_1 t265 t266 t276 t277)) = some r:=H
         have A75 := Aside0.mk A750
         clear A750
         by_cases c76 : t290 = true
         ·subst c76
          have H1 : (laws_FnExactCatTake.j1 kj14 a1 a2 t269 (t280 != t269) a0_0 l0_1 t265 t266 t276 t277) = some r:=by rw [if_pos rfl] at H;exact H
          clear H
          have H := H1
          clear H1
          have H' := Aside0.mk H
          clear H
          have hnb77 := NB281_259.out
          have hnc77 := NB259_281.out
          have hnb78 := NB281_270.out
          have hnc78 := NB270_281.out
          have hnb79 := NB281_275.out
          have hnc79 := NB275_281.out
          have hcz80_0 : w73.cell? ⟨gb281,0,none⟩ = some (.int .i64 t276):=(blk_cell BK281.out 0).trans rfl
          have hcz80_1 : w73.cell? ⟨gb281,1,none⟩ = some (.slice Ao40 t277.length co40):=(blk_cell BK281.out 1).trans rfl
          have hfz80_0 := blk_frozen BK281.out 0
          have hfz80_1 := blk_frozen BK281.out 1
          have hnb81 := NB270_259.out
          have hnc81 := NB259_270.out
          have hnb82 := NB270_275.out
          have hnc82 := NB275_270.out
          have hcz83_0 : w73.cell? ⟨gb270,0,none⟩ = some (.int .i64 t265):=(blk_cell BK270.out 0).trans rfl
          have hcz83_1 : w73.cell? ⟨gb270,1,none⟩ = some (.slice Ao26 t266.length co26):=(blk_cell BK270.out 1).trans rfl
          have hfz83_0 := blk_frozen BK270.out 0
          have hfz83_1 := blk_frozen BK270.out 1
          go_wp2_with (first|(go_at_call 17;(with_reducible refine (laws_eqCat.calls kj14 t276 _ _ t277 t265 _ _ t266 true _ ?side1 ?side2 ?side3 ?side4 A75.out).mono ?_);(case side1 => repeat (first|exact (Kd.R_reads' HO_282001.out).2.2|(with_reducible refine Kd.C_alloc ?_ _)|(with_reducible refine Kd.C_drewN ?_ _)|(with_reducible refine Kd.C_drew ?_)));(case side2 => exact (Kd.R_reads' HO_282001.out).2.1);(case side3 => repeat (first|exact (Kd.R_reads' HO_271001.out).2.2|(with_reducible refine Kd.C_alloc ?_ _)|(with_reducible refine Kd.C_drewN ?_ _)|(with_reducible refine Kd.C_drew ?_)));(case side4 => exact (Kd.R_reads' HO_271001.out).2.1);rintro e w84 ⟨rfl,hb⟩;have n0_:=Aside0.mk (Kd.R_below (by (with_reducible repeat (first|apply Kd.R_alloc|apply Kd.R_drewN|apply Kd.R_drew));exact HO_271001.out) hb);have n1_:=Aside0.mk (Kd.R_below (by (with_reducible repeat (first|apply Kd.R_alloc|apply Kd.R_drewN|apply Kd.R_drew));exact HO_276001.out) hb);have n2_:=Aside0.mk (Kd.R_below (by (with_reducible repeat (first|apply Kd.R_alloc|apply Kd.R_drewN|apply Kd.R_drew));exact HO_282001.out) hb);have n3_:=Aside0.mk (Kd.R_below (by (with_reducible repeat (first|apply Kd.R_alloc|apply Kd.R_drewN|apply Kd.R_drew));exact HO286.out) hb);have n4_:=Aside0.mk (blk_below (g:=gb259) (o:=.cells #[.int .i64 a0_0,.slice A0_1 l0_1.length c0_1] 24 (0,0)) (by (with_reducible repeat (first|refine blk_drewN ?_ _|refine blk_drew ?_|refine blk_alloc ?_ _));exact BK259.out) hb);have n5_:=Aside0.mk (blk_below (g:=gb270) (o:=.cells #[.int .i64 t265,.slice Ao26 t266.length co26] 29 (0,0)) (by (with_reducible repeat (first|refine blk_drewN ?_ _|refine blk_drew ?_|refine blk_alloc ?_ _));exact BK270.out) hb);have n6_:=Aside0.mk (blk_below (g:=gb275) (o:=.cells #[.int .i64 t271,.slice Ao33 t272.length co33] 29 (0,0)) (by (with_reducible repeat (first|refine blk_drewN ?_ _|refine blk_drew ?_|refine blk_alloc ?_ _));exact BK275.out) hb);have n7_:=Aside0.mk (blk_below (g:=gb281) (o:=.cells #[.int .i64 t276,.slice Ao40 t277.length co40] 29 (0,0)) (by (with_reducible repeat (first|refine blk_drewN ?_ _|refine blk_drew ?_|refine blk_alloc ?_ _));exact BK281.out) hb);have n8_:=Aside0.mk (below_step (by repeat (first|(with_reducible first|exact HB.out|apply below_alloc|apply pw_below_drewN|apply below_drew1|refine below_set ?_ GE259.out|refine below_set ?_ GE270.out|refine below_set ?_ GE275.out|refine below_set ?_ GE281.out)|exact HB.out)) hb);clear HO_271001 HO_276001 HO_282001 HO286 BK259 BK270 BK275 BK281 HB;have HO_271001:=n0_;have HO_276001:=n1_;have HO_282001:=n2_;have HO286:=n3_;have BK259:=n4_;have BK270:=n5_;have BK275:=n6_;have BK281:=n7_;have HB:=n8_;clear n0_ n1_ n2_ n3_ n4_ n5_ n6_ n7_ n8_;(try clear hb);(try clear hb2);(try clear hk);(try clear hi)))
          go_meet
          case rel => exact ⟨_,((t280 != t269)),(by first|rfl|(simp;done)|(simp [*];done)),H',⟨by have:=HJ14.out;first|omega|exact Nat.le_refl _⟩,⟨by (with_reducible repeat (first|apply Kd.R_alloc|apply Kd.R_drewN|apply Kd.R_drew));exact Kd.R_mono HO_271001.out (fun _ hk => ⟨hk.1,hk.2.1⟩)⟩,⟨by (with_reducible repeat (first|apply Kd.R_alloc|apply Kd.R_drewN|apply Kd.R_drew));exact Kd.R_mono HO_276001.out (fun _ hk => ⟨hk.1.1,hk.1.2⟩)⟩,⟨by (with_reducible repeat (first|apply Kd.R_alloc|apply Kd.R_drewN|apply Kd.R_drew));exact Kd.R_mono HO_282001.out (fun _ hk => ⟨hk.1,hk.2.1⟩)⟩,⟨by (with_reducible repeat (first|refine blk_drewN ?_ _|refine blk_drew ?_|refine blk_alloc ?_ _));exact BK259.out⟩,⟨by (with_reducible repeat (first|refine blk_drewN ?_ _|refine blk_drew ?_|refine blk_alloc ?_ _));exact BK270.out⟩,⟨by (with_reducible repeat (first|refine blk_drewN ?_ _|refine blk_drew ?_|refine blk_alloc ?_ _));exact BK275.out⟩,⟨by (with_reducible repeat (first|refine blk_drewN ?_ _|refine blk_drew ?_|refine blk_alloc ?_ _));exact BK281.out⟩,⟨by repeat (first|(with_reducible first|exact HB.out|apply below_alloc|apply pw_below_drewN|apply below_drew1|refine below_set ?_ GE259.out|refine below_set ?_ GE270.out|refine below_set ?_ GE275.out|refine below_set ?_ GE281.out)|exact HB.out)⟩⟩
         ·replace c76 := Bool.eq_false_iff.mpr c76
          subst c76
          have H1 : (laws_FnExactCatTake.j1 kj14 a1 a2 t269 true a0_0 l0_1 t265 t266 t276 t277) = some r:=by rw [if_neg (show ¬ (false = true) by decide)] at H;exact H
          clear H
          have H := H1
          clear H1
          have H' := Aside0.mk H
          clear H
          have hnb85 := NB281_259.out
          have hnc85 := NB259_281.out
          have hnb86 := NB281_270.out
          have hnc86 := NB270_281.out
          have hnb87 := NB281_275.out
          have hnc87 := NB275_281.out
          have hcz88_0 : w73.cell? ⟨gb281,0,none⟩ = some (.int .i64 t276):=(blk_cell BK281.out 0).trans rfl
          have hcz88_1 : w73.cell? ⟨gb281,1,none⟩ = some (.slice Ao40 t277.length co40):=(blk_cell BK281.out 1).trans rfl
          have hfz88_0 := blk_frozen BK281.out 0
          have hfz88_1 := blk_frozen BK281.out 1
          have hnb89 := NB270_259.out
          have hnc89 := NB259_270.out
          have hnb90 := NB270_275.out
          have hnc90 := NB275_270.out
          have hcz91_0 : w73.cell? ⟨gb270,0,none⟩ = some (.int .i64 t265):=(blk_cell BK270.out 0).trans rfl
          have hcz91_1 : w73.cell? ⟨gb270,1,none⟩ = some (.slice Ao26 t266.length co26):=(blk_cell BK270.out 1).trans rfl
          have hfz91_0 := blk_frozen BK270.out 0
          have hfz91_1 := blk_frozen BK270.out 1
          go_wp2_with (first|(go_at_call 17;(with_reducible refine (laws_eqCat.calls kj14 t276 _ _ t277 t265 _ _ t266 false _ ?side1 ?side2 ?side3 ?side4 A75.out).mono ?_);(case side1 => repeat (first|exact (Kd.R_reads' HO_282001.out).2.2|(with_reducible refine Kd.C_alloc ?_ _)|(with_reducible refine Kd.C_drewN ?_ _)|(with_reducible refine Kd.C_drew ?_)));(case side2 => exact (Kd.R_reads' HO_282001.out).2.1);(case side3 => repeat (first|exact (Kd.R_reads' HO_271001.out).2.2|(with_reducible refine Kd.C_alloc ?_ _)|(with_reducible refine Kd.C_drewN ?_ _)|(with_reducible refine Kd.C_drew ?_)));(case side4 => exact (Kd.R_reads' HO_271001.out).2.1);rintro e w92 ⟨rfl,hb⟩;have n0_:=Aside0.mk (Kd.R_below (by (with_reducible repeat (first|apply Kd.R_alloc|apply Kd.R_drewN|apply Kd.R_drew));exact HO_271001.out) hb);have n1_:=Aside0.mk (Kd.R_below (by (with_reducible repeat (first|apply Kd.R_alloc|apply Kd.R_drewN|apply Kd.R_drew));exact HO_276001.out) hb);have n2_:=Aside0.mk (Kd.R_below (by (with_reducible repeat (first|apply Kd.R_alloc|apply Kd.R_drewN|apply Kd.R_drew));exact HO_282001.out) hb);have n3_:=Aside0.mk (Kd.R_below (by (with_reducible repeat (first|apply Kd.R_alloc|apply Kd.R_drewN|apply Kd.R_drew));exact HO286.out) hb);have n4_:=Aside0.mk (blk_below (g:=gb259) (o:=.cells #[.int .i64 a0_0,.slice A0_1 l0_1.length c0_1] 24 (0,0)) (by (with_reducible repeat (first|refine blk_drewN ?_ _|refine blk_drew ?_|refine blk_alloc ?_ _));exact BK259.out) hb);have n5_:=Aside0.mk (blk_below (g:=gb270) (o:=.cells #[.int .i64 t265,.slice Ao26 t266.length co26] 29 (0,0)) (by (with_reducible repeat (first|refine blk_drewN ?_ _|refine blk_drew ?_|refine blk_alloc ?_ _));exact BK270.out) hb);have n6_:=Aside0.mk (blk_below (g:=gb275) (o:=.cells #[.int .i64 t271,.slice Ao33 t272.length co33] 29 (0,0)) (by (with_reducible repeat (first|refine blk_drewN ?_ _|refine blk_drew ?_|refine blk_alloc ?_ _));exact BK275.out) hb);have n7_:=Aside0.mk (blk_below (g:=gb281) (o:=.cells #[.int .i64 t276,.slice Ao40 t277.length co40] 29 (0,0)) (by (with_reducible repeat (first|refine blk_drewN ?_ _|refine blk_drew ?_|refine blk_alloc ?_ _));exact BK281.out) hb);have n8_:=Aside0.mk (below_step (by repeat (first|(with_reducible first|exact HB.out|apply below_alloc|apply pw_below_drewN|apply below_drew1|refine below_set ?_ GE259.out|refine below_set ?_ GE270.out|refine below_set ?_ GE275.out|refine below_set ?_ GE281.out)|exact HB.out)) hb);clear HO_271001 HO_276001 HO_282001 HO286 BK259 BK270 BK275 BK281 HB;have HO_271001:=n0_;have HO_276001:=n1_;have HO_282001:=n2_;have HO286:=n3_;have BK259:=n4_;have BK270:=n5_;have BK275:=n6_;have BK281:=n7_;have HB:=n8_;clear n0_ n1_ n2_ n3_ n4_ n5_ n6_ n7_ n8_;(try clear hb);(try clear hb2);(try clear hk);(try clear hi)))
          go_meet
          case rel => exact ⟨_,(true),(by first|rfl|(simp;done)|(simp [*];done)),H',⟨by have:=HJ14.out;first|omega|exact Nat.le_refl _⟩,⟨by (with_reducible repeat (first|apply Kd.R_alloc|apply Kd.R_drewN|apply Kd.R_drew));exact Kd.R_mono HO_271001.out (fun _ hk => ⟨hk.1,hk.2.1⟩)⟩,⟨by (with_reducible repeat (first|apply Kd.R_alloc|apply Kd.R_drewN|apply Kd.R_drew));exact Kd.R_mono HO_276001.out (fun _ hk => ⟨hk.1.1,hk.1.2⟩)⟩,⟨by (with_reducible repeat (first|apply Kd.R_alloc|apply Kd.R_drewN|apply Kd.R_drew));exact Kd.R_mono HO_282001.out (fun _ hk => ⟨hk.1,hk.2.1⟩)⟩,⟨by (with_reducible repeat (first|refine blk_drewN ?_ _|refine blk_drew ?_|refine blk_alloc ?_ _));exact BK259.out⟩,⟨by (with_reducible repeat (first|refine blk_drewN ?_ _|refine blk_drew ?_|refine blk_alloc ?_ _));exact BK270.out⟩,⟨by (with_reducible repeat (first|refine blk_drewN ?_ _|refine blk_drew ?_|refine blk_alloc ?_ _));exact BK275.out⟩,⟨by (with_reducible repeat (first|refine blk_drewN ?_ _|refine blk_drew ?_|refine blk_alloc ?_ _));exact BK281.out⟩,⟨by repeat (first|(with_reducible first|exact HB.out|apply below_alloc|apply pw_below_drewN|apply below_drew1|refine below_set ?_ GE259.out|refine below_set ?_ GE270.out|refine below_set ?_ GE275.out|refine below_set ?_ GE281.out)|exact HB.out)⟩⟩
       case rest =>
        clear HC64
        try clear c1
        try clear c2
        try clear p2
        try clear c3
        try clear c4
        try clear c4b0
        try clear c4b1
        try clear c5
        try clear c6
        try clear c7
        try clear c7b0
        try clear c8
        try clear c9
        try clear c13
        try clear c15
        try clear c17
        try clear c24
        try clear c26
        try clear c27
        try clear c28
        try clear c30
        try clear c31
        try clear c36
        try clear c37
        try clear c38
        try clear c42
        try clear c43
        try clear c44
        try clear c45
        try clear c47
        try clear c48
        try clear c51
        try clear c52
        try clear c53
        try clear c55
        try clear c56
        try clear c59
        try clear c62
        try clear c69
        try clear c70
        try clear c71
        try clear c74
        try clear c74b0
        try clear c76
        try clear c77
        try clear c78
        try clear c79
        try clear c81
        try clear c82
        try clear c85
        try clear c86
        try clear c87
        try clear c89
        try clear c90
        try clear hcz17_0
        try clear hcz17_1
        try clear hcz19_0
        try clear hcz19_1
        try clear hcz25_0
        try clear hcz25_1
        try clear hcz27_0
        try clear hcz27_1
        try clear hcz32_0
        try clear hcz32_1
        try clear hcz39_0
        try clear hcz39_1
        try clear hcz46_0
        try clear hcz46_1
        try clear hcz49_0
        try clear hcz49_1
        try clear hcz54_0
        try clear hcz54_1
        try clear hcz57_0
        try clear hcz57_1
        try clear hcz72_0
        try clear hcz72_1
        try clear hcz80_0
        try clear hcz80_1
        try clear hcz83_0
        try clear hcz83_1
        try clear hcz88_0
        try clear hcz88_1
        try clear hcz91_0
        try clear hcz91_1
        try clear hcz9_0
        try clear hcz9_1
        try clear hfz17_0
        try clear hfz17_1
        try clear hfz19_0
        try clear hfz19_1
        try clear hfz25_0
        try clear hfz25_1
        try clear hfz27_0
        try clear hfz27_1
        try clear hfz32_0
        try clear hfz32_1
        try clear hfz39_0
        try clear hfz39_1
        try clear hfz46_0
        try clear hfz46_1
        try clear hfz49_0
        try clear hfz49_1
        try clear hfz54_0
        try clear hfz54_1
        try clear hfz57_0
        try clear hfz57_1
        try clear hfz72_0
        try clear hfz72_1
        try clear hfz80_0
        try clear hfz80_1
        try clear hfz83_0
        try clear hfz83_1
        try clear hfz88_0
        try clear hfz88_1
        try clear hfz91_0
        try clear hfz91_1
        try clear hfz9_0
        try clear hfz9_1
        try clear p2
        obtain ⟨kq,x72_63,rfl,HA,HJ63,HO_271001,HO_276001,HO_282001,BK259,BK270,BK275,BK281,HB⟩:=hcut
        have hl276001_63 := (Kd.R_reads' HO_276001.out).1
        rw [hl276001_63] at HO_276001
        (try simp only [hl276001_63])
        (try simp only [hl276001_63] at BK259)
        (try simp only [hl276001_63] at BK270)
        (try simp only [hl276001_63] at BK275)
        (try simp only [hl276001_63] at BK281)
        (try simp only [hl276001_63] at HO_271001)
        (try simp only [hl276001_63] at HO_282001)
        cases kq with
        | zero => exact absurd HA.out (by simp [laws_FnExactCatTake.j1])
        | succ kj63 =>
         have H := HA.out
         clear HA
         simp only [laws_FnExactCatTake.j1] at H
         by_cases c93 : x72_63 = true
         ·subst c93
          have H1 : (some false) = some r:=by rw [if_pos rfl] at H;exact H
          clear H
          have H := H1
          clear H1
          obtain rfl := Option.some.inj H
          go_wp2
          go_ret
          exact ⟨by first|rfl|(simp [errW_none,errW_some] <;> rfl)|(simp [*,errW_none,errW_some] <;> rfl),by repeat (first|(with_reducible first|exact HB.out|apply below_alloc|apply pw_below_drewN|apply below_drew1|refine below_set ?_ GE259.out|refine below_set ?_ GE270.out|refine below_set ?_ GE275.out|refine below_set ?_ GE281.out)|exact HB.out)⟩
         ·replace c93 := Bool.eq_false_iff.mpr c93
          subst c93
          have H1 : ((laws_markCat.f kj63 t276 t277 1).bind fun bt291 => ((laws_heldCat.f kj63 t276 bt291.2 1).bind fun t293 => (if t293 < 0 then (some false) else (if t293 = bt291.1 then ((laws_toCat.f kj63 a0_0 l0_1).bind fun bt294 => ((impl_CatTake.f kj63 bt294.1 bt294.2 a1 a2).bind fun bt298 => ((laws_eqCat.f kj63 bt298.1 bt298.2.1 t265 t266).bind fun t304 => (if t304 = true then (laws_FnExactCatTake.j2 kj63 bt291.1 (bt298.2.2 != t269) t276 bt291.2) else (laws_FnExactCatTake.j2 kj63 bt291.1 true t276 bt291.2))))) else (some false))))) = some r:=by rw [if_neg (show ¬ (false = true) by decide)] at H;exact H
          clear H
          have H := H1
          clear H1
          replace H := Option.bind_eq_some_iff.mp H
          obtain ⟨⟨t291, t292⟩, A940, H⟩ := H
          replace H : ((laws_heldCat.f kj63 t276 t292 1).bind fun t293 => (if t293 < 0 then (some false) else (if t293 = t291 then ((laws_toCat.f kj63 a0_0 l0_1).bind fun bt294 => ((impl_CatTake.f kj63 bt294.1 bt294.2 a1 a2).bind fun bt298 => ((laws_eqCat.f kj63 bt298.1 bt298.2.1 t265 t266).bind fun t304 => (if t304 = true then (laws_FnExactCatTake.j2 kj63 t291 (bt298.2.2 != t269) t276 t292) else (laws_FnExactCatTake.j2 kj63 t291 true t276 t292))))) else (some false)))) = some r:=H
          have A94 := Aside0.mk A940
          clear A940
          replace H := Option.bind_eq_some_iff.mp H
          obtain ⟨t293, A950, H⟩ := H
          replace H : (if t293 < 0 then (some false) else (if t293 = t291 then ((laws_toCat.f kj63 a0_0 l0_1).bind fun bt294 => ((impl_CatTake.f kj63 bt294.1 bt294.2 a1 a2).bind fun bt298 => ((laws_eqCat.f kj63 bt298.1 bt298.2.1 t265 t266).bind fun t304 => (if t304 = true then (laws_FnExactCatTake.j2 kj63 t291 (bt298.2.2 != t269) t276 t292) else (laws_FnExactCatTake.j2 kj63 t291 true t276 t292))))) else (some false))) = some r:=H
          have A95 := Aside0.mk A950
          clear A950
          by_cases c96 : t293 < 0
          ·rw [if_pos c96] at H
           have c96b0 : decide (t293 < 0) = true := decide_eq_true c96
           clear c96
           obtain rfl := Option.some.inj H
           have hnb97 := NB281_259.out
           have hnc97 := NB259_281.out
           have hnb98 := NB281_270.out
           have hnc98 := NB270_281.out
           have hnb99 := NB281_275.out
           have hnc99 := NB275_281.out
           have hcz100_0 : wc.cell? ⟨gb281,0,none⟩ = some (.int .i64 t276):=(blk_cell BK281.out 0).trans rfl
           have hcz100_1 : wc.cell? ⟨gb281,1,none⟩ = some (.slice Ao40 t277.length co40):=(blk_cell BK281.out 1).trans rfl
           have hfz100_0 := blk_frozen BK281.out 0
           have hfz100_1 := blk_frozen BK281.out 1
           go_wp2_with (first|((with_reducible refine gate_callee (f:=28) rfl ?_);refine goesL_ (some 75) rfl rfl Try.func28 (by kernel_rfl) rfl #[.agg #[.int .i64 t276,.slice Ao40 t277.length co40],.int .i64 1] rfl (by (try simp only [List.map_toArray,List.map_cons,List.map_nil]);first|done|rfl|(simp only [List.length_drop,List.length_take];rfl)) ?_;(with_reducible refine (laws_markCat.calls kj63 t276 (fun k_ => some k_ = (.slice Ao40 t277.length co40 : Value).ownBlock) (.slice Ao40 t277.length co40) t277 1 t291 t292 w _ ?side1 ?side2 A94.out).mono ?_);(case side1 => repeat (first|(with_reducible first|exact HB.out|apply below_alloc|apply pw_below_drewN|apply below_drew1|refine below_set ?_ GE259.out|refine below_set ?_ GE270.out|refine below_set ?_ GE275.out|refine below_set ?_ GE281.out)|exact HB.out));(case side2 => exact Kd.R_tight rfl HO_282001.out);rintro e w101 ⟨rfl,hy0,hb,hkp⟩;refine ⟨_,rfl,?_⟩;have n0_:=Aside0.mk (Kd.R_mono (ok':=fun k_ => some k_ ≠ (.slice Ao33 t289.length co33 : Value).ownBlock ∧ some k_ ≠ (.slice Ao40 t277.length co40 : Value).ownBlock) (Kd.R_keptB (HO_271001.out) hkp (fun k_ hk_ hs_ => (hk_.2) hs_)) (fun k_ hk_ => ⟨hk_.1.1,hk_.1.2⟩));have n1_:=Aside0.mk (Kd.R_mono (ok':=fun k_ => some k_ ≠ (.slice Ao26 t266.length co26 : Value).ownBlock ∧ some k_ ≠ (.slice Ao40 t277.length co40 : Value).ownBlock) (Kd.R_keptB (HO_276001.out) hkp (fun k_ hk_ hs_ => (hk_.2) hs_)) (fun k_ hk_ => ⟨hk_.1.1,hk_.1.2⟩));have n2_:=Aside0.mk (Kd.R_reok rfl hy0 (fun k_ e_ => HO_282001.out.1 k_ e_));have n3_:=Aside0.mk (blk_kept (by (with_reducible repeat (first|refine blk_drewN ?_ _|refine blk_drew ?_|refine blk_alloc ?_ _));exact BK259.out) hkp (fun hs_ => (fun e_ => (Kd.R_ne HO_282001.out BK259.out (by decide)) e_) hs_));have n4_:=Aside0.mk (blk_kept (by (with_reducible repeat (first|refine blk_drewN ?_ _|refine blk_drew ?_|refine blk_alloc ?_ _));exact BK270.out) hkp (fun hs_ => (fun e_ => (Kd.R_ne HO_282001.out BK270.out (by decide)) e_) hs_));have n5_:=Aside0.mk (blk_kept (by (with_reducible repeat (first|refine blk_drewN ?_ _|refine blk_drew ?_|refine blk_alloc ?_ _));exact BK275.out) hkp (fun hs_ => (fun e_ => (Kd.R_ne HO_282001.out BK275.out (by decide)) e_) hs_));have n6_:=Aside0.mk (blk_kept (by (with_reducible repeat (first|refine blk_drewN ?_ _|refine blk_drew ?_|refine blk_alloc ?_ _));exact BK281.out) hkp (fun hs_ => (fun e_ => (Kd.R_ne HO_282001.out BK281.out (by decide)) e_) hs_));have n7_:=Aside0.mk (hb);clear HO_271001 HO_276001 HO_282001 BK259 BK270 BK275 BK281 HB;have HO_271001:=n0_;have HO_276001:=n1_;have HO_282001:=n2_;have BK259:=n3_;have BK270:=n4_;have BK275:=n5_;have BK281:=n6_;have HB:=n7_;clear n0_ n1_ n2_ n3_ n4_ n5_ n6_ n7_;(try clear hb);(try clear hkp);(try clear hy0);have hcz102_0 : w101.cell? ⟨gb281,0,none⟩ = some (.int .i64 t276):=(blk_cell BK281.out 0).trans rfl;have hcz102_1 : w101.cell? ⟨gb281,1,none⟩ = some (.slice Ao40 t277.length co40):=(blk_cell BK281.out 1).trans rfl;have hfz102_0:=blk_frozen BK281.out 0;have hfz102_1:=blk_frozen BK281.out 1)|((with_reducible refine gate_callee (f:=29) rfl ?_);refine goesL_ (some 78) rfl rfl Try.func29 (by kernel_rfl) rfl #[.agg #[.int .i64 t276,.slice Ao40 t292.length co40],.int .i64 1] rfl (by (try simp only [List.map_toArray,List.map_cons,List.map_nil]);first|done|(rw [show t292.length = t277.length from (Kd.R_reads' HO_282001.out).1.symm] <;> rfl)|rfl|(simp only [List.length_drop,List.length_take];rfl)) ?_;(with_reducible refine (laws_heldCat.calls kj63 t276 _ _ t292 1 t293 _ ?side1 ?side2 A95.out).mono ?_);(case side1 => repeat (first|exact (Kd.R_reads' HO_282001.out).2.2|(with_reducible refine Kd.C_alloc ?_ _)|(with_reducible refine Kd.C_drewN ?_ _)|(with_reducible refine Kd.C_drew ?_)));(case side2 => rw [show t292.length = t277.length from (Kd.R_reads' HO_282001.out).1.symm];exact (Kd.R_reads' HO_282001.out).2.1);rintro e w103 ⟨rfl,hb⟩;refine ⟨_,rfl,?_⟩;have n0_:=Aside0.mk (Kd.R_below (by (with_reducible repeat (first|apply Kd.R_alloc|apply Kd.R_drewN|apply Kd.R_drew));exact HO_271001.out) hb);have n1_:=Aside0.mk (Kd.R_below (by (with_reducible repeat (first|apply Kd.R_alloc|apply Kd.R_drewN|apply Kd.R_drew));exact HO_276001.out) hb);have n2_:=Aside0.mk (Kd.R_below (by (with_reducible repeat (first|apply Kd.R_alloc|apply Kd.R_drewN|apply Kd.R_drew));exact HO_282001.out) hb);have n3_:=Aside0.mk (blk_below (g:=gb259) (o:=.cells #[.int .i64 a0_0,.slice A0_1 l0_1.length c0_1] 24 (0,0)) (by (with_reducible repeat (first|refine blk_drewN ?_ _|refine blk_drew ?_|refine blk_alloc ?_ _));exact BK259.out) hb);have n4_:=Aside0.mk (blk_below (g:=gb270) (o:=.cells #[.int .i64 t265,.slice Ao26 t266.length co26] 29 (0,0)) (by (with_reducible repeat (first|refine blk_drewN ?_ _|refine blk_drew ?_|refine blk_alloc ?_ _));exact BK270.out) hb);have n5_:=Aside0.mk (blk_below (g:=gb275) (o:=.cells #[.int .i64 t271,.slice Ao33 t289.length co33] 29 (0,0)) (by (with_reducible repeat (first|refine blk_drewN ?_ _|refine blk_drew ?_|refine blk_alloc ?_ _));exact BK275.out) hb);have n6_:=Aside0.mk (blk_below (g:=gb281) (o:=.cells #[.int .i64 t276,.slice Ao40 t277.length co40] 29 (0,0)) (by (with_reducible repeat (first|refine blk_drewN ?_ _|refine blk_drew ?_|refine blk_alloc ?_ _));exact BK281.out) hb);have n7_:=Aside0.mk (below_step (by repeat (first|(with_reducible first|exact HB.out|apply below_alloc|apply pw_below_drewN|apply below_drew1|refine below_set ?_ GE259.out|refine below_set ?_ GE270.out|refine below_set ?_ GE275.out|refine below_set ?_ GE281.out)|exact HB.out)) hb);clear HO_271001 HO_276001 HO_282001 BK259 BK270 BK275 BK281 HB;have HO_271001:=n0_;have HO_276001:=n1_;have HO_282001:=n2_;have BK259:=n3_;have BK270:=n4_;have BK275:=n5_;have BK281:=n6_;have HB:=n7_;clear n0_ n1_ n2_ n3_ n4_ n5_ n6_ n7_;(try clear hb);(try clear hb2);(try clear hk);(try clear hi)))
           go_ret
           exact ⟨by first|rfl|(simp [errW_none,errW_some] <;> rfl)|(simp [*,errW_none,errW_some] <;> rfl),by repeat (first|(with_reducible first|exact HB.out|apply below_alloc|apply pw_below_drewN|apply below_drew1|refine below_set ?_ GE259.out|refine below_set ?_ GE270.out|refine below_set ?_ GE275.out|refine below_set ?_ GE281.out)|exact HB.out)⟩
          ·rw [if_neg c96] at H
           have c96b0 : decide (t293 < 0) = false:=decide_eq_false c96
           clear c96
           by_cases c104 : t293 = t291
           ·rw [if_pos c104] at H
            have c104b0 : (t293 == t291) = true := beq_iff_eq.mpr c104
            have c104b1 : (t293 != t291) = false:=bne_eq_false_iff_eq.mpr c104
            clear c104
            replace H := Option.bind_eq_some_iff.mp H
            obtain ⟨⟨t294, t295⟩, A1050, H⟩ := H
            replace H : ((impl_CatTake.f kj63 t294 t295 a1 a2).bind fun bt298 => ((laws_eqCat.f kj63 bt298.1 bt298.2.1 t265 t266).bind fun t304 => (if t304 = true then (laws_FnExactCatTake.j2 kj63 t291 (bt298.2.2 != t269) t276 t292) else (laws_FnExactCatTake.j2 kj63 t291 true t276 t292)))) = some r:=H
            have A105 := Aside0.mk A1050
            clear A1050
            replace H := Option.bind_eq_some_iff.mp H
            obtain ⟨⟨t298, t299, t302⟩, A1060, H⟩ := H
            replace H : ((laws_eqCat.f kj63 t298 t299 t265 t266).bind fun t304 => (if t304 = true then (laws_FnExactCatTake.j2 kj63 t291 (t302 != t269) t276 t292) else (laws_FnExactCatTake.j2 kj63 t291 true t276 t292))) = some r:=H
            have A106 := Aside0.mk A1060
            clear A1060
            have HC107 := Aside0.mk H
            clear H
            have hnb108 := NB281_259.out
            have hnc108 := NB259_281.out
            have hnb109 := NB281_270.out
            have hnc109 := NB270_281.out
            have hnb110 := NB281_275.out
            have hnc110 := NB275_281.out
            have hcz111_0 : wc.cell? ⟨gb281,0,none⟩ = some (.int .i64 t276):=(blk_cell BK281.out 0).trans rfl
            have hcz111_1 : wc.cell? ⟨gb281,1,none⟩ = some (.slice Ao40 t277.length co40):=(blk_cell BK281.out 1).trans rfl
            have hfz111_0 := blk_frozen BK281.out 0
            have hfz111_1 := blk_frozen BK281.out 1
            go_upto_region 27 with (first|((with_reducible refine gate_callee (f:=28) rfl ?_);refine goesL_ (some 75) rfl rfl Try.func28 (by kernel_rfl) rfl #[.agg #[.int .i64 t276,.slice Ao40 t277.length co40],.int .i64 1] rfl (by (try simp only [List.map_toArray,List.map_cons,List.map_nil]);first|done|rfl|(simp only [List.length_drop,List.length_take];rfl)) ?_;(with_reducible refine (laws_markCat.calls kj63 t276 (fun k_ => some k_ = (.slice Ao40 t277.length co40 : Value).ownBlock) (.slice Ao40 t277.length co40) t277 1 t291 t292 w _ ?side1 ?side2 A94.out).mono ?_);(case side1 => repeat (first|(with_reducible first|exact HB.out|apply below_alloc|apply pw_below_drewN|apply below_drew1|refine below_set ?_ GE259.out|refine below_set ?_ GE270.out|refine below_set ?_ GE275.out|refine below_set ?_ GE281.out)|exact HB.out));(case side2 => exact Kd.R_tight rfl HO_282001.out);rintro e w112 ⟨rfl,hy0,hb,hkp⟩;refine ⟨_,rfl,?_⟩;have n0_:=Aside0.mk (Kd.R_mono (ok':=fun k_ => some k_ ≠ (.slice Ao33 t289.length co33 : Value).ownBlock ∧ some k_ ≠ (.slice Ao40 t277.length co40 : Value).ownBlock) (Kd.R_keptB (HO_271001.out) hkp (fun k_ hk_ hs_ => (hk_.2) hs_)) (fun k_ hk_ => ⟨hk_.1.1,hk_.1.2⟩));have n1_:=Aside0.mk (Kd.R_mono (ok':=fun k_ => some k_ ≠ (.slice Ao26 t266.length co26 : Value).ownBlock ∧ some k_ ≠ (.slice Ao40 t277.length co40 : Value).ownBlock) (Kd.R_keptB (HO_276001.out) hkp (fun k_ hk_ hs_ => (hk_.2) hs_)) (fun k_ hk_ => ⟨hk_.1.1,hk_.1.2⟩));have n2_:=Aside0.mk (Kd.R_reok rfl hy0 (fun k_ e_ => HO_282001.out.1 k_ e_));have n3_:=Aside0.mk (blk_kept (by (with_reducible repeat (first|refine blk_drewN ?_ _|refine blk_drew ?_|refine blk_alloc ?_ _));exact BK259.out) hkp (fun hs_ => (fun e_ => (Kd.R_ne HO_282001.out BK259.out (by decide)) e_) hs_));have n4_:=Aside0.mk (blk_kept (by (with_reducible repeat (first|refine blk_drewN ?_ _|refine blk_drew ?_|refine blk_alloc ?_ _));exact BK270.out) hkp (fun hs_ => (fun e_ => (Kd.R_ne HO_282001.out BK270.out (by decide)) e_) hs_));have n5_:=Aside0.mk (blk_kept (by (with_reducible repeat (first|refine blk_drewN ?_ _|refine blk_drew ?_|refine blk_alloc ?_ _));exact BK275.out) hkp (fun hs_ => (fun e_ => (Kd.R_ne HO_282001.out BK275.out (by decide)) e_) hs_));have n6_:=Aside0.mk (blk_kept (by (with_reducible repeat (first|refine blk_drewN ?_ _|refine blk_drew ?_|refine blk_alloc ?_ _));exact BK281.out) hkp (fun hs_ => (fun e_ => (Kd.R_ne HO_282001.out BK281.out (by decide)) e_) hs_));have n7_:=Aside0.mk (hb);clear HO_271001 HO_276001 HO_282001 BK259 BK270 BK275 BK281 HB;have HO_271001:=n0_;have HO_276001:=n1_;have HO_282001:=n2_;have BK259:=n3_;have BK270:=n4_;have BK275:=n5_;have BK281:=n6_;have HB:=n7_;clear n0_ n1_ n2_ n3_ n4_ n5_ n6_ n7_;(try clear hb);(try clear hkp);(try clear hy0);have hcz113_0 : w112.cell? ⟨gb281,0,none⟩ = some (.int .i64 t276):=(blk_cell BK281.out 0).trans rfl;have hcz113_1 : w112.cell? ⟨gb281,1,none⟩ = some (.slice Ao40 t277.length co40):=(blk_cell BK281.out 1).trans rfl;have hfz113_0:=blk_frozen BK281.out 0;have hfz113_1:=blk_frozen BK281.out 1)|((with_reducible refine gate_callee (f:=29) rfl ?_);refine goesL_ (some 78) rfl rfl Try.func29 (by kernel_rfl) rfl #[.agg #[.int .i64 t276,.slice Ao40 t292.length co40],.int .i64 1] rfl (by (try simp only [List.map_toArray,List.map_cons,List.map_nil]);first|done|(rw [show t292.length = t277.length from (Kd.R_reads' HO_282001.out).1.symm] <;> rfl)|rfl|(simp only [List.length_drop,List.length_take];rfl)) ?_;(with_reducible refine (laws_heldCat.calls kj63 t276 _ _ t292 1 t293 _ ?side1 ?side2 A95.out).mono ?_);(case side1 => repeat (first|exact (Kd.R_reads' HO_282001.out).2.2|(with_reducible refine Kd.C_alloc ?_ _)|(with_reducible refine Kd.C_drewN ?_ _)|(with_reducible refine Kd.C_drew ?_)));(case side2 => rw [show t292.length = t277.length from (Kd.R_reads' HO_282001.out).1.symm];exact (Kd.R_reads' HO_282001.out).2.1);rintro e w114 ⟨rfl,hb⟩;refine ⟨_,rfl,?_⟩;have n0_:=Aside0.mk (Kd.R_below (by (with_reducible repeat (first|apply Kd.R_alloc|apply Kd.R_drewN|apply Kd.R_drew));exact HO_271001.out) hb);have n1_:=Aside0.mk (Kd.R_below (by (with_reducible repeat (first|apply Kd.R_alloc|apply Kd.R_drewN|apply Kd.R_drew));exact HO_276001.out) hb);have n2_:=Aside0.mk (Kd.R_below (by (with_reducible repeat (first|apply Kd.R_alloc|apply Kd.R_drewN|apply Kd.R_drew));exact HO_282001.out) hb);have n3_:=Aside0.mk (blk_below (g:=gb259) (o:=.cells #[.int .i64 a0_0,.slice A0_1 l0_1.length c0_1] 24 (0,0)) (by (with_reducible repeat (first|refine blk_drewN ?_ _|refine blk_drew ?_|refine blk_alloc ?_ _));exact BK259.out) hb);have n4_:=Aside0.mk (blk_below (g:=gb270) (o:=.cells #[.int .i64 t265,.slice Ao26 t266.length co26] 29 (0,0)) (by (with_reducible repeat (first|refine blk_drewN ?_ _|refine blk_drew ?_|refine blk_alloc ?_ _));exact BK270.out) hb);have n5_:=Aside0.mk (blk_below (g:=gb275) (o:=.cells #[.int .i64 t271,.slice Ao33 t289.length co33] 29 (0,0)) (by (with_reducible repeat (first|refine blk_drewN ?_ _|refine blk_drew ?_|refine blk_alloc ?_ _));exact BK275.out) hb);have n6_:=Aside0.mk (blk_below (g:=gb281) (o:=.cells #[.int .i64 t276,.slice Ao40 t277.length co40] 29 (0,0)) (by (with_reducible repeat (first|refine blk_drewN ?_ _|refine blk_drew ?_|refine blk_alloc ?_ _));exact BK281.out) hb);have n7_:=Aside0.mk (below_step (by repeat (first|(with_reducible first|exact HB.out|apply below_alloc|apply pw_below_drewN|apply below_drew1|refine below_set ?_ GE259.out|refine below_set ?_ GE270.out|refine below_set ?_ GE275.out|refine below_set ?_ GE281.out)|exact HB.out)) hb);clear HO_271001 HO_276001 HO_282001 BK259 BK270 BK275 BK281 HB;have HO_271001:=n0_;have HO_276001:=n1_;have HO_282001:=n2_;have BK259:=n3_;have BK270:=n4_;have BK275:=n5_;have BK281:=n6_;have HB:=n7_;clear n0_ n1_ n2_ n3_ n4_ n5_ n6_ n7_;(try clear hb);(try clear hb2);(try clear hk);(try clear hi);have hnb115:=NB259_270.out;have hnc115:=NB270_259.out;have hnb116:=NB259_275.out;have hnc116:=NB275_259.out;have hcz117_0 : w114.cell? ⟨gb259,0,none⟩ = some (.int .i64 a0_0):=(blk_cell BK259.out 0).trans rfl;have hcz117_1 : w114.cell? ⟨gb259,1,none⟩ = some (.slice A0_1 l0_1.length c0_1):=(blk_cell BK259.out 1).trans rfl;have hfz117_0:=blk_frozen BK259.out 0;have hfz117_1:=blk_frozen BK259.out 1)|((with_reducible refine gate_callee (f:=15) rfl ?_);refine goesL_ (some 86) rfl rfl Try.func15 (by kernel_rfl) rfl #[.agg #[.int .i64 a0_0,.slice A0_1 l0_1.length c0_1]] rfl (by (try simp only [List.map_toArray,List.map_cons,List.map_nil]);first|done|rfl|(simp only [List.length_drop,List.length_take];rfl)) ?_;(with_reducible refine (laws_toCat.calls kj63 a0_0 _ _ l0_1 t294 t295 _ ?side1 ?side2 A105.out).mono ?_);(case side1 => repeat (first|exact (Kd.C_below HR0_1.out HB.out)|(with_reducible refine Kd.C_alloc ?_ _)|(with_reducible refine Kd.C_drewN ?_ _)|(with_reducible refine Kd.C_drew ?_)));(case side2 => exact HC0_1.out);rintro e w118 ⟨v296,rfl,ho0,hb⟩;refine ⟨_,rfl,?_⟩;have n0_:=Aside0.mk (Kd.R_elder' (by (with_reducible repeat (first|apply Kd.R_alloc|apply Kd.R_drewN|apply Kd.R_drew));exact HO_271001.out) (Kd.R_base ho0) hb);have n1_:=Aside0.mk (Kd.R_elder' (by (with_reducible repeat (first|apply Kd.R_alloc|apply Kd.R_drewN|apply Kd.R_drew));exact HO_276001.out) (Kd.R_base ho0) hb);have n2_:=Aside0.mk (Kd.R_elder' (by (with_reducible repeat (first|apply Kd.R_alloc|apply Kd.R_drewN|apply Kd.R_drew));exact HO_282001.out) (Kd.R_base ho0) hb);have n3_:=Aside0.mk (Kd.R_lower (Kd.R_new' (Kd.R_new' (Kd.R_new' ho0 (Kd.R_lt (by (with_reducible repeat (first|apply Kd.R_alloc|apply Kd.R_drewN|apply Kd.R_drew));exact HO_271001.out))) (Kd.R_lt (by (with_reducible repeat (first|apply Kd.R_alloc|apply Kd.R_drewN|apply Kd.R_drew));exact HO_276001.out))) (Kd.R_lt (by (with_reducible repeat (first|apply Kd.R_alloc|apply Kd.R_drewN|apply Kd.R_drew));exact HO_282001.out))) (below_size (by repeat (first|(with_reducible first|exact HB.out|apply below_alloc|apply pw_below_drewN|apply below_drew1|refine below_set ?_ GE259.out|refine below_set ?_ GE270.out|refine below_set ?_ GE275.out|refine below_set ?_ GE281.out)|exact HB.out))));have n4_:=Aside0.mk (blk_below (g:=gb259) (o:=.cells #[.int .i64 a0_0,.slice A0_1 l0_1.length c0_1] 24 (0,0)) (by (with_reducible repeat (first|refine blk_drewN ?_ _|refine blk_drew ?_|refine blk_alloc ?_ _));exact BK259.out) hb);have n5_:=Aside0.mk (blk_below (g:=gb270) (o:=.cells #[.int .i64 t265,.slice Ao26 t266.length co26] 29 (0,0)) (by (with_reducible repeat (first|refine blk_drewN ?_ _|refine blk_drew ?_|refine blk_alloc ?_ _));exact BK270.out) hb);have n6_:=Aside0.mk (blk_below (g:=gb275) (o:=.cells #[.int .i64 t271,.slice Ao33 t289.length co33] 29 (0,0)) (by (with_reducible repeat (first|refine blk_drewN ?_ _|refine blk_drew ?_|refine blk_alloc ?_ _));exact BK275.out) hb);have n7_:=Aside0.mk (blk_below (g:=gb281) (o:=.cells #[.int .i64 t276,.slice Ao40 t277.length co40] 29 (0,0)) (by (with_reducible repeat (first|refine blk_drewN ?_ _|refine blk_drew ?_|refine blk_alloc ?_ _));exact BK281.out) hb);have n8_:=Aside0.mk (below_step (by repeat (first|(with_reducible first|exact HB.out|apply below_alloc|apply pw_below_drewN|apply below_drew1|refine below_set ?_ GE259.out|refine below_set ?_ GE270.out|refine below_set ?_ GE275.out|refine below_set ?_ GE281.out)|exact HB.out)) hb);clear HO_271001 HO_276001 HO_282001 BK259 BK270 BK275 BK281 HB;have HO_271001:=n0_;have HO_276001:=n1_;have HO_282001:=n2_;have HO297:=n3_;have BK259:=n4_;have BK270:=n5_;have BK275:=n6_;have BK281:=n7_;have HB:=n8_;clear n0_ n1_ n2_ n3_ n4_ n5_ n6_ n7_ n8_;(try clear hb);(try clear hb2);(try clear hk);(try clear hi);(try clear ho0);obtain ⟨Ao119,co119,eo119⟩:=Kd.R_slice HO297.out;subst eo119)|((with_reducible refine gate_callee (f:=27) rfl ?_);refine goesL_ (some 89) rfl rfl Try.func27 (by kernel_rfl) rfl #[.agg #[.int .i64 t294,.slice Ao119 t295.length co119],.int .i64 a1,.string a2] rfl (by (try simp only [List.map_toArray,List.map_cons,List.map_nil]);first|done|rfl|(simp only [List.length_drop,List.length_take];rfl)) ?_;(with_reducible refine (impl_CatTake.calls kj63 t294 _ _ t295 a1 a2 t298 t299 t302 _ ?side1 ?side2 A106.out).mono ?_);(case side1 => repeat (first|exact (Kd.R_reads' HO297.out).2.2|(with_reducible refine Kd.C_alloc ?_ _)|(with_reducible refine Kd.C_drewN ?_ _)|(with_reducible refine Kd.C_drew ?_)));(case side2 => exact (Kd.R_reads' HO297.out).2.1);rintro e w120 ⟨v300,rfl,ho0,hb⟩;refine ⟨_,rfl,?_⟩;have n0_:=Aside0.mk (Kd.R_elder' (by (with_reducible repeat (first|apply Kd.R_alloc|apply Kd.R_drewN|apply Kd.R_drew));exact HO_271001.out) (Kd.R_base ho0) hb);have n1_:=Aside0.mk (Kd.R_elder' (by (with_reducible repeat (first|apply Kd.R_alloc|apply Kd.R_drewN|apply Kd.R_drew));exact HO_276001.out) (Kd.R_base ho0) hb);have n2_:=Aside0.mk (Kd.R_elder' (by (with_reducible repeat (first|apply Kd.R_alloc|apply Kd.R_drewN|apply Kd.R_drew));exact HO_282001.out) (Kd.R_base ho0) hb);have n3_:=Aside0.mk (Kd.R_elder' (by (with_reducible repeat (first|apply Kd.R_alloc|apply Kd.R_drewN|apply Kd.R_drew));exact HO297.out) (Kd.R_base ho0) hb);have n4_:=Aside0.mk (Kd.R_lower (Kd.R_new' (Kd.R_new' (Kd.R_new' (Kd.R_new' ho0 (Kd.R_lt (by (with_reducible repeat (first|apply Kd.R_alloc|apply Kd.R_drewN|apply Kd.R_drew));exact HO_271001.out))) (Kd.R_lt (by (with_reducible repeat (first|apply Kd.R_alloc|apply Kd.R_drewN|apply Kd.R_drew));exact HO_276001.out))) (Kd.R_lt (by (with_reducible repeat (first|apply Kd.R_alloc|apply Kd.R_drewN|apply Kd.R_drew));exact HO_282001.out))) (Kd.R_lt (by (with_reducible repeat (first|apply Kd.R_alloc|apply Kd.R_drewN|apply Kd.R_drew));exact HO297.out))) (below_size (by repeat (first|(with_reducible first|exact HB.out|apply below_alloc|apply pw_below_drewN|apply below_drew1|refine below_set ?_ GE259.out|refine below_set ?_ GE270.out|refine below_set ?_ GE275.out|refine below_set ?_ GE281.out)|exact HB.out))));have n5_:=Aside0.mk (blk_below (g:=gb259) (o:=.cells #[.int .i64 a0_0,.slice A0_1 l0_1.length c0_1] 24 (0,0)) (by (with_reducible repeat (first|refine blk_drewN ?_ _|refine blk_drew ?_|refine blk_alloc ?_ _));exact BK259.out) hb);have n6_:=Aside0.mk (blk_below (g:=gb270) (o:=.cells #[.int .i64 t265,.slice Ao26 t266.length co26] 29 (0,0)) (by (with_reducible repeat (first|refine blk_drewN ?_ _|refine blk_drew ?_|refine blk_alloc ?_ _));exact BK270.out) hb);have n7_:=Aside0.mk (blk_below (g:=gb275) (o:=.cells #[.int .i64 t271,.slice Ao33 t289.length co33] 29 (0,0)) (by (with_reducible repeat (first|refine blk_drewN ?_ _|refine blk_drew ?_|refine blk_alloc ?_ _));exact BK275.out) hb);have n8_:=Aside0.mk (blk_below (g:=gb281) (o:=.cells #[.int .i64 t276,.slice Ao40 t277.length co40] 29 (0,0)) (by (with_reducible repeat (first|refine blk_drewN ?_ _|refine blk_drew ?_|refine blk_alloc ?_ _));exact BK281.out) hb);have n9_:=Aside0.mk (below_step (by repeat (first|(with_reducible first|exact HB.out|apply below_alloc|apply pw_below_drewN|apply below_drew1|refine below_set ?_ GE259.out|refine below_set ?_ GE270.out|refine below_set ?_ GE275.out|refine below_set ?_ GE281.out)|exact HB.out)) hb);clear HO_271001 HO_276001 HO_282001 HO297 BK259 BK270 BK275 BK281 HB;have HO_271001:=n0_;have HO_276001:=n1_;have HO_282001:=n2_;have HO297:=n3_;have HO301:=n4_;have BK259:=n5_;have BK270:=n6_;have BK275:=n7_;have BK281:=n8_;have HB:=n9_;clear n0_ n1_ n2_ n3_ n4_ n5_ n6_ n7_ n8_ n9_;(try clear hb);(try clear hb2);(try clear hk);(try clear hi);(try clear ho0))|((with_reducible refine gate_dst (N:=16) rfl ?_);refine box_event ?hg (N:=16) ?hd (cs:=#[.int .i64 0,.slice none 0 0]) (t:=29) ?hr ?_;(case hd => rfl);(case hg => rfl);(case hr => first|(go_simp;done)|(go_simp;rfl));intro gb303 hg w121 hbox hb;have n0_:=Aside0.mk (Kd.R_below (by (with_reducible repeat (first|apply Kd.R_alloc|apply Kd.R_drewN|apply Kd.R_drew));exact HO_271001.out) hb);have n1_:=Aside0.mk (Kd.R_below (by (with_reducible repeat (first|apply Kd.R_alloc|apply Kd.R_drewN|apply Kd.R_drew));exact HO_276001.out) hb);have n2_:=Aside0.mk (Kd.R_below (by (with_reducible repeat (first|apply Kd.R_alloc|apply Kd.R_drewN|apply Kd.R_drew));exact HO_282001.out) hb);have n3_:=Aside0.mk (Kd.R_below (by (with_reducible repeat (first|apply Kd.R_alloc|apply Kd.R_drewN|apply Kd.R_drew));exact HO297.out) hb);have n4_:=Aside0.mk (Kd.R_below (by (with_reducible repeat (first|apply Kd.R_alloc|apply Kd.R_drewN|apply Kd.R_drew));exact HO301.out) hb);have n5_:=Aside0.mk (blk_below (g:=gb259) (o:=.cells #[.int .i64 a0_0,.slice A0_1 l0_1.length c0_1] 24 (0,0)) (by (with_reducible repeat (first|refine blk_drewN ?_ _|refine blk_drew ?_|refine blk_alloc ?_ _));exact BK259.out) hb);have n6_:=Aside0.mk (blk_below (g:=gb270) (o:=.cells #[.int .i64 t265,.slice Ao26 t266.length co26] 29 (0,0)) (by (with_reducible repeat (first|refine blk_drewN ?_ _|refine blk_drew ?_|refine blk_alloc ?_ _));exact BK270.out) hb);have n7_:=Aside0.mk (blk_below (g:=gb275) (o:=.cells #[.int .i64 t271,.slice Ao33 t289.length co33] 29 (0,0)) (by (with_reducible repeat (first|refine blk_drewN ?_ _|refine blk_drew ?_|refine blk_alloc ?_ _));exact BK275.out) hb);have n8_:=Aside0.mk (blk_below (g:=gb281) (o:=.cells #[.int .i64 t276,.slice Ao40 t277.length co40] 29 (0,0)) (by (with_reducible repeat (first|refine blk_drewN ?_ _|refine blk_drew ?_|refine blk_alloc ?_ _));exact BK281.out) hb);have n9_:=Aside0.mk (below_step (by repeat (first|(with_reducible first|exact HB.out|apply below_alloc|apply pw_below_drewN|apply below_drew1|refine below_set ?_ GE259.out|refine below_set ?_ GE270.out|refine below_set ?_ GE275.out|refine below_set ?_ GE281.out)|exact HB.out)) hb);have n10_:=Aside0.mk (hbox);have n11_:=Aside0.mk ((by rw [hg];exact (below_size (by repeat (first|(with_reducible first|exact HB.out|apply below_alloc|apply pw_below_drewN|apply below_drew1|refine below_set ?_ GE259.out|refine below_set ?_ GE270.out|refine below_set ?_ GE275.out|refine below_set ?_ GE281.out)|exact HB.out))) : w.heap.size ≤ gb303));have n12_:=Aside0.mk ((by rw [hg];exact (below_size (by repeat (first|(with_reducible first|exact HB.out|apply below_alloc|apply pw_below_drewN|apply below_drew1|refine below_set ?_ GE259.out|refine below_set ?_ GE270.out|refine below_set ?_ GE275.out|refine below_set ?_ GE281.out)|exact HB.out))) : w.heap.size ≤ gb303));have n13_:=Aside0.mk ((by rw [hg];exact Nat.ne_of_lt (blk_lt (g:=gb259) (o:=.cells #[.int .i64 a0_0,.slice A0_1 l0_1.length c0_1] 24 (0,0)) (by (with_reducible repeat (first|refine blk_drewN ?_ _|refine blk_drew ?_|refine blk_alloc ?_ _));exact BK259.out)) : gb259 ≠ gb303));have n14_:=Aside0.mk ((by rw [hg];exact Nat.ne_of_gt (blk_lt (g:=gb259) (o:=.cells #[.int .i64 a0_0,.slice A0_1 l0_1.length c0_1] 24 (0,0)) (by (with_reducible repeat (first|refine blk_drewN ?_ _|refine blk_drew ?_|refine blk_alloc ?_ _));exact BK259.out)) : gb303 ≠ gb259));have n15_:=Aside0.mk ((by rw [hg];exact Nat.ne_of_lt (blk_lt (g:=gb270) (o:=.cells #[.int .i64 t265,.slice Ao26 t266.length co26] 29 (0,0)) (by (with_reducible repeat (first|refine blk_drewN ?_ _|refine blk_drew ?_|refine blk_alloc ?_ _));exact BK270.out)) : gb270 ≠ gb303));have n16_:=Aside0.mk ((by rw [hg];exact Nat.ne_of_gt (blk_lt (g:=gb270) (o:=.cells #[.int .i64 t265,.slice Ao26 t266.length co26] 29 (0,0)) (by (with_reducible repeat (first|refine blk_drewN ?_ _|refine blk_drew ?_|refine blk_alloc ?_ _));exact BK270.out)) : gb303 ≠ gb270));have n17_:=Aside0.mk ((by rw [hg];exact Nat.ne_of_lt (blk_lt (g:=gb275) (o:=.cells #[.int .i64 t271,.slice Ao33 t289.length co33] 29 (0,0)) (by (with_reducible repeat (first|refine blk_drewN ?_ _|refine blk_drew ?_|refine blk_alloc ?_ _));exact BK275.out)) : gb275 ≠ gb303));have n18_:=Aside0.mk ((by rw [hg];exact Nat.ne_of_gt (blk_lt (g:=gb275) (o:=.cells #[.int .i64 t271,.slice Ao33 t289.length co33] 29 (0,0)) (by (with_reducible repeat (first|refine blk_drewN ?_ _|refine blk_drew ?_|refine blk_alloc ?_ _));exact BK275.out)) : gb303 ≠ gb275));have n19_:=Aside0.mk ((by rw [hg];exact Nat.ne_of_lt (blk_lt (g:=gb281) (o:=.cells #[.int .i64 t276,.slice Ao40 t277.length co40] 29 (0,0)) (by (with_reducible repeat (first|refine blk_drewN ?_ _|refine blk_drew ?_|refine blk_alloc ?_ _));exact BK281.out)) : gb281 ≠ gb303));have n20_:=Aside0.mk ((by rw [hg];exact Nat.ne_of_gt (blk_lt (g:=gb281) (o:=.cells #[.int .i64 t276,.slice Ao40 t277.length co40] 29 (0,0)) (by (with_reducible repeat (first|refine blk_drewN ?_ _|refine blk_drew ?_|refine blk_alloc ?_ _));exact BK281.out)) : gb303 ≠ gb281));clear HO_271001 HO_276001 HO_282001 HO297 HO301 BK259 BK270 BK275 BK281 HB;have HO_271001:=n0_;have HO_276001:=n1_;have HO_282001:=n2_;have HO297:=n3_;have HO301:=n4_;have BK259:=n5_;have BK270:=n6_;have BK275:=n7_;have BK281:=n8_;have HB:=n9_;have BK303:=n10_;have GW303:=n11_;have GE303:=n12_;have NB259_303:=n13_;have NB303_259:=n14_;have NB270_303:=n15_;have NB303_270:=n16_;have NB275_303:=n17_;have NB303_275:=n18_;have NB281_303:=n19_;have NB303_281:=n20_;clear n0_ n1_ n2_ n3_ n4_ n5_ n6_ n7_ n8_ n9_ n10_ n11_ n12_ n13_ n14_ n15_ n16_ n17_ n18_ n19_ n20_;clear hb hbox hg;have hnb122:=NB303_259.out;have hnc122:=NB259_303.out;have hnb123:=NB303_270.out;have hnc123:=NB270_303.out;have hnb124:=NB303_275.out;have hnc124:=NB275_303.out;have hnb125:=NB303_281.out;have hnc125:=NB281_303.out;have hcz126_0 : w121.cell? ⟨gb303,0,none⟩ = some (.int .i64 0):=(blk_cell BK303.out 0).trans rfl;have hcz126_1 : w121.cell? ⟨gb303,1,none⟩ = some (.slice none 0 0):=(blk_cell BK303.out 1).trans rfl;have hfz126_0:=blk_frozen BK303.out 0;have hfz126_1:=blk_frozen BK303.out 1;obtain ⟨Ao127,co127,eo127⟩:=Kd.R_slice HO301.out;subst eo127))
            (try simp only [Act.put,List.setIfInBounds_toArray,List.set_cons_zero,List.set_cons_succ])
            go_cut [100] (fun v100 wc => ∃ (kq : Nat) (x100_106 : Bool),v100 = .bool x100_106 ∧ Aside0 (laws_FnExactCatTake.j2 kq t291 x100_106 t276 t292 = some r) ∧ Aside0 (kq ≤ kj63) ∧ Aside0 (Kd.R k36 36 wc w.heap.size (fun k_ => some k_ ≠ ((.slice Ao33 t289.length co33) : Value).ownBlock ∧ some k_ ≠ ((.slice Ao40 t277.length co40) : Value).ownBlock ∧ some k_ ≠ ((.slice Ao127 t299.length co127) : Value).ownBlock) (.slice Ao26 t266.length co26) t266) ∧ Aside0 (Kd.R k36 36 wc w.heap.size (fun k_ => some k_ ≠ ((.slice Ao26 t266.length co26) : Value).ownBlock ∧ some k_ ≠ ((.slice Ao40 t277.length co40) : Value).ownBlock ∧ some k_ ≠ ((.slice Ao127 t299.length co127) : Value).ownBlock) (.slice Ao33 t289.length co33) t289) ∧ Aside0 (Kd.R k36 36 wc w.heap.size (fun k_ => some k_ ≠ ((.slice Ao26 t266.length co26) : Value).ownBlock ∧ some k_ ≠ ((.slice Ao33 t289.length co33) : Value).ownBlock ∧ some k_ ≠ ((.slice Ao127 t299.length co127) : Value).ownBlock) (.slice Ao40 t277.length co40) t292) ∧ Aside0 (Kd.R k36 36 wc w.heap.size (fun k_ => some k_ ≠ ((.slice Ao26 t266.length co26) : Value).ownBlock ∧ some k_ ≠ ((.slice Ao33 t289.length co33) : Value).ownBlock ∧ some k_ ≠ ((.slice Ao40 t277.length co40) : Value).ownBlock) (.slice Ao127 t299.length co127) t299) ∧ Aside0 (wc.heap[gb259]? = some (.cells #[.int .i64 a0_0,(.slice A0_1 l0_1.length c0_1)] 24 (0,0))) ∧ Aside0 (wc.heap[gb270]? = some (.cells #[.int .i64 t265,(.slice Ao26 t266.length co26)] 29 (0,0))) ∧ Aside0 (wc.heap[gb275]? = some (.cells #[.int .i64 t271,(.slice Ao33 t289.length co33)] 29 (0,0))) ∧ Aside0 (wc.heap[gb281]? = some (.cells #[.int .i64 t276,(.slice Ao40 t277.length co40)] 29 (0,0))) ∧ Aside0 (wc.heap[gb303]? = some (.cells #[.int .i64 t298,(.slice Ao127 t299.length co127)] 29 (0,0))) ∧ Aside0 (Below w.heap.size w wc))
            case first =>
             have H := HC107.out
             clear HC107
             replace H := Option.bind_eq_some_iff.mp H
             obtain ⟨t304, A1280, H⟩ := H
             replace H : (if t304 = true then (laws_FnExactCatTake.j2 kj63 t291 (t302 != t269) t276 t292) else (laws_FnExactCatTake.j2 kj63 t291 true t276 t292)) = some r:=H
             have A128 := Aside0.mk A1280
             clear A1280
             by_cases c129 : t304 = true
             ·subst c129
              have H1 : (laws_FnExactCatTake.j2 kj63 t291 (t302 != t269) t276 t292) = some r:=by rw [if_pos rfl] at H;exact H
              clear H
              have H := H1
              clear H1
              have H' := Aside0.mk H
              clear H
              have hnb130 := NB303_259.out
              have hnc130 := NB259_303.out
              have hnb131 := NB303_270.out
              have hnc131 := NB270_303.out
              have hnb132 := NB303_275.out
              have hnc132 := NB275_303.out
              have hnb133 := NB303_281.out
              have hnc133 := NB281_303.out
              have hcz134_0 : w121.cell? ⟨gb303,0,none⟩ = some (.int .i64 0):=(blk_cell BK303.out 0).trans rfl
              have hcz134_1 : w121.cell? ⟨gb303,1,none⟩ = some (.slice none 0 0):=(blk_cell BK303.out 1).trans rfl
              have hfz134_0 := blk_frozen BK303.out 0
              have hfz134_1 := blk_frozen BK303.out 1
              have hnb135 := NB270_259.out
              have hnc135 := NB259_270.out
              have hnb136 := NB270_275.out
              have hnc136 := NB275_270.out
              have hnb137 := NB270_281.out
              have hnc137 := NB281_270.out
              have hcz138_0 : w121.cell? ⟨gb270,0,none⟩ = some (.int .i64 t265):=(blk_cell BK270.out 0).trans rfl
              have hcz138_1 : w121.cell? ⟨gb270,1,none⟩ = some (.slice Ao26 t266.length co26):=(blk_cell BK270.out 1).trans rfl
              have hfz138_0 := blk_frozen BK270.out 0
              have hfz138_1 := blk_frozen BK270.out 1
              go_wp2_with (first|((with_reducible refine gate_callee (f:=17) rfl ?_);refine goesL_ (some 94) rfl rfl Try.func17 (by kernel_rfl) rfl #[.agg #[.int .i64 t298,.slice Ao127 t299.length co127],.agg #[.int .i64 t265,.slice Ao26 t266.length co26]] rfl (by (try simp only [List.map_toArray,List.map_cons,List.map_nil]);first|done|rfl|(simp only [List.length_drop,List.length_take];rfl)) ?_;(with_reducible refine (laws_eqCat.calls kj63 t298 _ _ t299 t265 _ _ t266 true _ ?side1 ?side2 ?side3 ?side4 A128.out).mono ?_);(case side1 => refine (Kd.R_reads' (e:=36) (base:=w.heap.size) (ok:=fun k_ => ((((True ∧ some k_ ≠ (.slice Ao26 t266.length co26 : Value).ownBlock) ∧ some k_ ≠ (.slice Ao33 t289.length co33 : Value).ownBlock) ∧ some k_ ≠ (.slice Ao40 t277.length co40 : Value).ownBlock) ∧ some k_ ≠ (.slice Ao119 t295.length co119 : Value).ownBlock)) (n:=t299.length) (c:=co127) ?_).2.2;exact (by (with_reducible repeat (first|apply Kd.R_alloc|apply Kd.R_drewN|apply Kd.R_drew));exact (Kd.R_mono (Kd.R_far (p:=⟨gb303,1,none⟩) (Kd.R_far (p:=⟨gb303,0,none⟩) (Kd.R_types HO301.out BK303.out (by decide)) (fun _ hk => hk.2) (.int .i64 t298)) (fun _ hk => hk.2) (.slice Ao127 t299.length co127)) (fun _ h_ => h_.1))));(case side2 => exact (Kd.R_reads' HO301.out).2.1);(case side3 => refine (Kd.R_reads' (e:=36) (base:=w.heap.size) (ok:=fun k_ => (((some k_ ≠ (.slice Ao33 t289.length co33 : Value).ownBlock ∧ some k_ ≠ (.slice Ao40 t277.length co40 : Value).ownBlock) ∧ some k_ ≠ (.slice Ao119 t295.length co119 : Value).ownBlock) ∧ some k_ ≠ (.slice Ao127 t299.length co127 : Value).ownBlock)) (n:=t266.length) (c:=co26) ?_).2.2;exact (by (with_reducible repeat (first|apply Kd.R_alloc|apply Kd.R_drewN|apply Kd.R_drew));exact (Kd.R_mono (Kd.R_far (p:=⟨gb303,1,none⟩) (Kd.R_far (p:=⟨gb303,0,none⟩) (Kd.R_types HO_271001.out BK303.out (by decide)) (fun _ hk => hk.2) (.int .i64 t298)) (fun _ hk => hk.2) (.slice Ao127 t299.length co127)) (fun _ h_ => h_.1))));(case side4 => exact (Kd.R_reads' HO_271001.out).2.1);rintro e w139 ⟨rfl,hb⟩;refine ⟨_,rfl,?_⟩;have n0_:=Aside0.mk (Kd.R_below (by (with_reducible repeat (first|apply Kd.R_alloc|apply Kd.R_drewN|apply Kd.R_drew));exact (Kd.R_mono (Kd.R_far (p:=⟨gb303,1,none⟩) (Kd.R_far (p:=⟨gb303,0,none⟩) (Kd.R_types HO_271001.out BK303.out (by decide)) (fun _ hk => hk.2) (.int .i64 t298)) (fun _ hk => hk.2) (.slice Ao127 t299.length co127)) (fun _ h_ => h_.1))) hb);have n1_:=Aside0.mk (Kd.R_below (by (with_reducible repeat (first|apply Kd.R_alloc|apply Kd.R_drewN|apply Kd.R_drew));exact (Kd.R_mono (Kd.R_far (p:=⟨gb303,1,none⟩) (Kd.R_far (p:=⟨gb303,0,none⟩) (Kd.R_types HO_276001.out BK303.out (by decide)) (fun _ hk => hk.2) (.int .i64 t298)) (fun _ hk => hk.2) (.slice Ao127 t299.length co127)) (fun _ h_ => h_.1))) hb);have n2_:=Aside0.mk (Kd.R_below (by (with_reducible repeat (first|apply Kd.R_alloc|apply Kd.R_drewN|apply Kd.R_drew));exact (Kd.R_mono (Kd.R_far (p:=⟨gb303,1,none⟩) (Kd.R_far (p:=⟨gb303,0,none⟩) (Kd.R_types HO_282001.out BK303.out (by decide)) (fun _ hk => hk.2) (.int .i64 t298)) (fun _ hk => hk.2) (.slice Ao127 t299.length co127)) (fun _ h_ => h_.1))) hb);have n3_:=Aside0.mk (Kd.R_below (by (with_reducible repeat (first|apply Kd.R_alloc|apply Kd.R_drewN|apply Kd.R_drew));exact (Kd.R_mono (Kd.R_far (p:=⟨gb303,1,none⟩) (Kd.R_far (p:=⟨gb303,0,none⟩) (Kd.R_types HO297.out BK303.out (by decide)) (fun _ hk => hk.2) (.int .i64 t298)) (fun _ hk => hk.2) (.slice Ao127 t299.length co127)) (fun _ h_ => h_.1))) hb);have n4_:=Aside0.mk (Kd.R_below (by (with_reducible repeat (first|apply Kd.R_alloc|apply Kd.R_drewN|apply Kd.R_drew));exact (Kd.R_mono (Kd.R_far (p:=⟨gb303,1,none⟩) (Kd.R_far (p:=⟨gb303,0,none⟩) (Kd.R_types HO301.out BK303.out (by decide)) (fun _ hk => hk.2) (.int .i64 t298)) (fun _ hk => hk.2) (.slice Ao127 t299.length co127)) (fun _ h_ => h_.1))) hb);have n5_:=Aside0.mk (blk_below (g:=gb259) (o:=.cells #[.int .i64 a0_0,.slice A0_1 l0_1.length c0_1] 24 (0,0)) (by (with_reducible repeat (first|refine blk_drewN ?_ _|refine blk_drew ?_|refine blk_alloc ?_ _));refine blk_far ?_ NB259_303.out _;(with_reducible repeat (first|refine blk_drewN ?_ _|refine blk_drew ?_|refine blk_alloc ?_ _));refine blk_far ?_ NB259_303.out _;(with_reducible repeat (first|refine blk_drewN ?_ _|refine blk_drew ?_|refine blk_alloc ?_ _));exact BK259.out) hb);have n6_:=Aside0.mk (blk_below (g:=gb270) (o:=.cells #[.int .i64 t265,.slice Ao26 t266.length co26] 29 (0,0)) (by (with_reducible repeat (first|refine blk_drewN ?_ _|refine blk_drew ?_|refine blk_alloc ?_ _));refine blk_far ?_ NB270_303.out _;(with_reducible repeat (first|refine blk_drewN ?_ _|refine blk_drew ?_|refine blk_alloc ?_ _));refine blk_far ?_ NB270_303.out _;(with_reducible repeat (first|refine blk_drewN ?_ _|refine blk_drew ?_|refine blk_alloc ?_ _));exact BK270.out) hb);have n7_:=Aside0.mk (blk_below (g:=gb275) (o:=.cells #[.int .i64 t271,.slice Ao33 t289.length co33] 29 (0,0)) (by (with_reducible repeat (first|refine blk_drewN ?_ _|refine blk_drew ?_|refine blk_alloc ?_ _));refine blk_far ?_ NB275_303.out _;(with_reducible repeat (first|refine blk_drewN ?_ _|refine blk_drew ?_|refine blk_alloc ?_ _));refine blk_far ?_ NB275_303.out _;(with_reducible repeat (first|refine blk_drewN ?_ _|refine blk_drew ?_|refine blk_alloc ?_ _));exact BK275.out) hb);have n8_:=Aside0.mk (blk_below (g:=gb281) (o:=.cells #[.int .i64 t276,.slice Ao40 t277.length co40] 29 (0,0)) (by (with_reducible repeat (first|refine blk_drewN ?_ _|refine blk_drew ?_|refine blk_alloc ?_ _));refine blk_far ?_ NB281_303.out _;(with_reducible repeat (first|refine blk_drewN ?_ _|refine blk_drew ?_|refine blk_alloc ?_ _));refine blk_far ?_ NB281_303.out _;(with_reducible repeat (first|refine blk_drewN ?_ _|refine blk_drew ?_|refine blk_alloc ?_ _));exact BK281.out) hb);have n9_:=Aside0.mk (blk_below (g:=gb303) (o:=.cells #[.int .i64 t298,.slice Ao127 t299.length co127] 29 (0,0)) (by (with_reducible repeat (first|refine blk_drewN ?_ _|refine blk_drew ?_|refine blk_alloc ?_ _));refine blk_put (cs:=#[.int .i64 t298,.slice none 0 0]) ?_ 1 _ rfl;(with_reducible repeat (first|refine blk_drewN ?_ _|refine blk_drew ?_|refine blk_alloc ?_ _));refine blk_put (cs:=#[.int .i64 0,.slice none 0 0]) ?_ 0 _ rfl;(with_reducible repeat (first|refine blk_drewN ?_ _|refine blk_drew ?_|refine blk_alloc ?_ _));exact BK303.out) hb);have n10_:=Aside0.mk (below_step (by repeat (first|(with_reducible first|exact HB.out|apply below_alloc|apply pw_below_drewN|apply below_drew1|refine below_set ?_ GE259.out|refine below_set ?_ GE270.out|refine below_set ?_ GE275.out|refine below_set ?_ GE281.out|refine below_set ?_ GE303.out)|exact HB.out)) hb);clear HO_271001 HO_276001 HO_282001 HO297 HO301 BK259 BK270 BK275 BK281 BK303 HB;have HO_271001:=n0_;have HO_276001:=n1_;have HO_282001:=n2_;have HO297:=n3_;have HO301:=n4_;have BK259:=n5_;have BK270:=n6_;have BK275:=n7_;have BK281:=n8_;have BK303:=n9_;have HB:=n10_;clear n0_ n1_ n2_ n3_ n4_ n5_ n6_ n7_ n8_ n9_ n10_;(try clear hb);(try clear hb2);(try clear hk);(try clear hi)))
              go_meet
              case rel => exact ⟨_,((t302 != t269)),(by first|rfl|(simp;done)|(simp [*];done)),H',⟨by have:=HJ14.out;have:=HJ63.out;first|omega|exact Nat.le_refl _⟩,⟨by (try simp only [hl276001_63]);(with_reducible repeat (first|apply Kd.R_alloc|apply Kd.R_drewN|apply Kd.R_drew));exact Kd.R_mono HO_271001.out (fun _ hk => ⟨hk.1.1.1,⟨hk.1.1.2,hk.2⟩⟩)⟩,⟨by (try simp only [hl276001_63]);(with_reducible repeat (first|apply Kd.R_alloc|apply Kd.R_drewN|apply Kd.R_drew));exact Kd.R_mono HO_276001.out (fun _ hk => ⟨hk.1.1.1,⟨hk.1.1.2,hk.2⟩⟩)⟩,⟨by (try simp only [hl276001_63]);(with_reducible repeat (first|apply Kd.R_alloc|apply Kd.R_drewN|apply Kd.R_drew));exact Kd.R_mono HO_282001.out (fun _ hk => ⟨hk.1.1.1,⟨hk.1.1.2,hk.2⟩⟩)⟩,⟨by (try simp only [hl276001_63]);(with_reducible repeat (first|apply Kd.R_alloc|apply Kd.R_drewN|apply Kd.R_drew));exact Kd.R_mono HO301.out (fun _ hk => ⟨hk.1.1.1.2,⟨hk.1.1.2,hk.1.2⟩⟩)⟩,⟨by (try simp only [hl276001_63]);(with_reducible repeat (first|refine blk_drewN ?_ _|refine blk_drew ?_|refine blk_alloc ?_ _));exact BK259.out⟩,⟨by (try simp only [hl276001_63]);(with_reducible repeat (first|refine blk_drewN ?_ _|refine blk_drew ?_|refine blk_alloc ?_ _));exact BK270.out⟩,⟨by (try simp only [hl276001_63]);(with_reducible repeat (first|refine blk_drewN ?_ _|refine blk_drew ?_|refine blk_alloc ?_ _));exact BK275.out⟩,⟨by (try simp only [hl276001_63]);(with_reducible repeat (first|refine blk_drewN ?_ _|refine blk_drew ?_|refine blk_alloc ?_ _));exact BK281.out⟩,⟨by (try simp only [hl276001_63]);(with_reducible repeat (first|refine blk_drewN ?_ _|refine blk_drew ?_|refine blk_alloc ?_ _));exact BK303.out⟩,⟨by repeat (first|(with_reducible first|exact HB.out|apply below_alloc|apply pw_below_drewN|apply below_drew1|refine below_set ?_ GE259.out|refine below_set ?_ GE270.out|refine below_set ?_ GE275.out|refine below_set ?_ GE281.out|refine below_set ?_ GE303.out)|exact HB.out)⟩⟩
             ·replace c129 := Bool.eq_false_iff.mpr c129
              subst c129
              have H1 : (laws_FnExactCatTake.j2 kj63 t291 true t276 t292) = some r:=by rw [if_neg (show ¬ (false = true) by decide)] at H;exact H
              clear H
              have H := H1
              clear H1
              have H' := Aside0.mk H
              clear H
              have hnb140 := NB303_259.out
              have hnc140 := NB259_303.out
              have hnb141 := NB303_270.out
              have hnc141 := NB270_303.out
              have hnb142 := NB303_275.out
              have hnc142 := NB275_303.out
              have hnb143 := NB303_281.out
              have hnc143 := NB281_303.out
              have hcz144_0 : w121.cell? ⟨gb303,0,none⟩ = some (.int .i64 0):=(blk_cell BK303.out 0).trans rfl
              have hcz144_1 : w121.cell? ⟨gb303,1,none⟩ = some (.slice none 0 0):=(blk_cell BK303.out 1).trans rfl
              have hfz144_0 := blk_frozen BK303.out 0
              have hfz144_1 := blk_frozen BK303.out 1
              have hnb145 := NB270_259.out
              have hnc145 := NB259_270.out
              have hnb146 := NB270_275.out
              have hnc146 := NB275_270.out
              have hnb147 := NB270_281.out
              have hnc147 := NB281_270.out
              have hcz148_0 : w121.cell? ⟨gb270,0,none⟩ = some (.int .i64 t265):=(blk_cell BK270.out 0).trans rfl
              have hcz148_1 : w121.cell? ⟨gb270,1,none⟩ = some (.slice Ao26 t266.length co26):=(blk_cell BK270.out 1).trans rfl
              have hfz148_0 := blk_frozen BK270.out 0
              have hfz148_1 := blk_frozen BK270.out 1
              go_wp2_with (first|((with_reducible refine gate_callee (f:=17) rfl ?_);refine goesL_ (some 94) rfl rfl Try.func17 (by kernel_rfl) rfl #[.agg #[.int .i64 t298,.slice Ao127 t299.length co127],.agg #[.int .i64 t265,.slice Ao26 t266.length co26]] rfl (by (try simp only [List.map_toArray,List.map_cons,List.map_nil]);first|done|rfl|(simp only [List.length_drop,List.length_take];rfl)) ?_;(with_reducible refine (laws_eqCat.calls kj63 t298 _ _ t299 t265 _ _ t266 false _ ?side1 ?side2 ?side3 ?side4 A128.out).mono ?_);(case side1 => refine (Kd.R_reads' (e:=36) (base:=w.heap.size) (ok:=fun k_ => ((((True ∧ some k_ ≠ (.slice Ao26 t266.length co26 : Value).ownBlock) ∧ some k_ ≠ (.slice Ao33 t289.length co33 : Value).ownBlock) ∧ some k_ ≠ (.slice Ao40 t277.length co40 : Value).ownBlock) ∧ some k_ ≠ (.slice Ao119 t295.length co119 : Value).ownBlock)) (n:=t299.length) (c:=co127) ?_).2.2;exact (by (with_reducible repeat (first|apply Kd.R_alloc|apply Kd.R_drewN|apply Kd.R_drew));exact (Kd.R_mono (Kd.R_far (p:=⟨gb303,1,none⟩) (Kd.R_far (p:=⟨gb303,0,none⟩) (Kd.R_types HO301.out BK303.out (by decide)) (fun _ hk => hk.2) (.int .i64 t298)) (fun _ hk => hk.2) (.slice Ao127 t299.length co127)) (fun _ h_ => h_.1))));(case side2 => exact (Kd.R_reads' HO301.out).2.1);(case side3 => refine (Kd.R_reads' (e:=36) (base:=w.heap.size) (ok:=fun k_ => (((some k_ ≠ (.slice Ao33 t289.length co33 : Value).ownBlock ∧ some k_ ≠ (.slice Ao40 t277.length co40 : Value).ownBlock) ∧ some k_ ≠ (.slice Ao119 t295.length co119 : Value).ownBlock) ∧ some k_ ≠ (.slice Ao127 t299.length co127 : Value).ownBlock)) (n:=t266.length) (c:=co26) ?_).2.2;exact (by (with_reducible repeat (first|apply Kd.R_alloc|apply Kd.R_drewN|apply Kd.R_drew));exact (Kd.R_mono (Kd.R_far (p:=⟨gb303,1,none⟩) (Kd.R_far (p:=⟨gb303,0,none⟩) (Kd.R_types HO_271001.out BK303.out (by decide)) (fun _ hk => hk.2) (.int .i64 t298)) (fun _ hk => hk.2) (.slice Ao127 t299.length co127)) (fun _ h_ => h_.1))));(case side4 => exact (Kd.R_reads' HO_271001.out).2.1);rintro e w149 ⟨rfl,hb⟩;refine ⟨_,rfl,?_⟩;have n0_:=Aside0.mk (Kd.R_below (by (with_reducible repeat (first|apply Kd.R_alloc|apply Kd.R_drewN|apply Kd.R_drew));exact (Kd.R_mono (Kd.R_far (p:=⟨gb303,1,none⟩) (Kd.R_far (p:=⟨gb303,0,none⟩) (Kd.R_types HO_271001.out BK303.out (by decide)) (fun _ hk => hk.2) (.int .i64 t298)) (fun _ hk => hk.2) (.slice Ao127 t299.length co127)) (fun _ h_ => h_.1))) hb);have n1_:=Aside0.mk (Kd.R_below (by (with_reducible repeat (first|apply Kd.R_alloc|apply Kd.R_drewN|apply Kd.R_drew));exact (Kd.R_mono (Kd.R_far (p:=⟨gb303,1,none⟩) (Kd.R_far (p:=⟨gb303,0,none⟩) (Kd.R_types HO_276001.out BK303.out (by decide)) (fun _ hk => hk.2) (.int .i64 t298)) (fun _ hk => hk.2) (.slice Ao127 t299.length co127)) (fun _ h_ => h_.1))) hb);have n2_:=Aside0.mk (Kd.R_below (by (with_reducible repeat (first|apply Kd.R_alloc|apply Kd.R_drewN|apply Kd.R_drew));exact (Kd.R_mono (Kd.R_far (p:=⟨gb303,1,none⟩) (Kd.R_far (p:=⟨gb303,0,none⟩) (Kd.R_types HO_282001.out BK303.out (by decide)) (fun _ hk => hk.2) (.int .i64 t298)) (fun _ hk => hk.2) (.slice Ao127 t299.length co127)) (fun _ h_ => h_.1))) hb);have n3_:=Aside0.mk (Kd.R_below (by (with_reducible repeat (first|apply Kd.R_alloc|apply Kd.R_drewN|apply Kd.R_drew));exact (Kd.R_mono (Kd.R_far (p:=⟨gb303,1,none⟩) (Kd.R_far (p:=⟨gb303,0,none⟩) (Kd.R_types HO297.out BK303.out (by decide)) (fun _ hk => hk.2) (.int .i64 t298)) (fun _ hk => hk.2) (.slice Ao127 t299.length co127)) (fun _ h_ => h_.1))) hb);have n4_:=Aside0.mk (Kd.R_below (by (with_reducible repeat (first|apply Kd.R_alloc|apply Kd.R_drewN|apply Kd.R_drew));exact (Kd.R_mono (Kd.R_far (p:=⟨gb303,1,none⟩) (Kd.R_far (p:=⟨gb303,0,none⟩) (Kd.R_types HO301.out BK303.out (by decide)) (fun _ hk => hk.2) (.int .i64 t298)) (fun _ hk => hk.2) (.slice Ao127 t299.length co127)) (fun _ h_ => h_.1))) hb);have n5_:=Aside0.mk (blk_below (g:=gb259) (o:=.cells #[.int .i64 a0_0,.slice A0_1 l0_1.length c0_1] 24 (0,0)) (by (with_reducible repeat (first|refine blk_drewN ?_ _|refine blk_drew ?_|refine blk_alloc ?_ _));refine blk_far ?_ NB259_303.out _;(with_reducible repeat (first|refine blk_drewN ?_ _|refine blk_drew ?_|refine blk_alloc ?_ _));refine blk_far ?_ NB259_303.out _;(with_reducible repeat (first|refine blk_drewN ?_ _|refine blk_drew ?_|refine blk_alloc ?_ _));exact BK259.out) hb);have n6_:=Aside0.mk (blk_below (g:=gb270) (o:=.cells #[.int .i64 t265,.slice Ao26 t266.length co26] 29 (0,0)) (by (with_reducible repeat (first|refine blk_drewN ?_ _|refine blk_drew ?_|refine blk_alloc ?_ _));refine blk_far ?_ NB270_303.out _;(with_reducible repeat (first|refine blk_drewN ?_ _|refine blk_drew ?_|refine blk_alloc ?_ _));refine blk_far ?_ NB270_303.out _;(with_reducible repeat (first|refine blk_drewN ?_ _|refine blk_drew ?_|refine blk_alloc ?_ _));exact BK270.out) hb);have n7_:=Aside0.mk (blk_below (g:=gb275) (o:=.cells #[.int .i64 t271,.slice Ao33 t289.length co33] 29 (0,0)) (by (with_reducible repeat (first|refine blk_drewN ?_ _|refine blk_drew ?_|refine blk_alloc ?_ _));refine blk_far ?_ NB275_303.out _;(with_reducible repeat (first|refine blk_drewN ?_ _|refine blk_drew ?_|refine blk_alloc ?_ _));refine blk_far ?_ NB275_303.out _;(with_reducible repeat (first|refine blk_drewN ?_ _|refine blk_drew ?_|refine blk_alloc ?_ _));exact BK275.out) hb);have n8_:=Aside0.mk (blk_below (g:=gb281) (o:=.cells #[.int .i64 t276,.slice Ao40 t277.length co40] 29 (0,0)) (by (with_reducible repeat (first|refine blk_drewN ?_ _|refine blk_drew ?_|refine blk_alloc ?_ _));refine blk_far ?_ NB281_303.out _;(with_reducible repeat (first|refine blk_drewN ?_ _|refine blk_drew ?_|refine blk_alloc ?_ _));refine blk_far ?_ NB281_303.out _;(with_reducible repeat (first|refine blk_drewN ?_ _|refine blk_drew ?_|refine blk_alloc ?_ _));exact BK281.out) hb);have n9_:=Aside0.mk (blk_below (g:=gb303) (o:=.cells #[.int .i64 t298,.slice Ao127 t299.length co127] 29 (0,0)) (by (with_reducible repeat (first|refine blk_drewN ?_ _|refine blk_drew ?_|refine blk_alloc ?_ _));refine blk_put (cs:=#[.int .i64 t298,.slice none 0 0]) ?_ 1 _ rfl;(with_reducible repeat (first|refine blk_drewN ?_ _|refine blk_drew ?_|refine blk_alloc ?_ _));refine blk_put (cs:=#[.int .i64 0,.slice none 0 0]) ?_ 0 _ rfl;(with_reducible repeat (first|refine blk_drewN ?_ _|refine blk_drew ?_|refine blk_alloc ?_ _));exact BK303.out) hb);have n10_:=Aside0.mk (below_step (by repeat (first|(with_reducible first|exact HB.out|apply below_alloc|apply pw_below_drewN|apply below_drew1|refine below_set ?_ GE259.out|refine below_set ?_ GE270.out|refine below_set ?_ GE275.out|refine below_set ?_ GE281.out|refine below_set ?_ GE303.out)|exact HB.out)) hb);clear HO_271001 HO_276001 HO_282001 HO297 HO301 BK259 BK270 BK275 BK281 BK303 HB;have HO_271001:=n0_;have HO_276001:=n1_;have HO_282001:=n2_;have HO297:=n3_;have HO301:=n4_;have BK259:=n5_;have BK270:=n6_;have BK275:=n7_;have BK281:=n8_;have BK303:=n9_;have HB:=n10_;clear n0_ n1_ n2_ n3_ n4_ n5_ n6_ n7_ n8_ n9_ n10_;(try clear hb);(try clear hb2);(try clear hk);(try clear hi)))
              go_meet
              case rel => exact ⟨_,(true),(by first|rfl|(simp;done)|(simp [*];done)),H',⟨by have:=HJ14.out;have:=HJ63.out;first|omega|exact Nat.le_refl _⟩,⟨by (try simp only [hl276001_63]);(with_reducible repeat (first|apply Kd.R_alloc|apply Kd.R_drewN|apply Kd.R_drew));exact Kd.R_mono HO_271001.out (fun _ hk => ⟨hk.1.1.1,⟨hk.1.1.2,hk.2⟩⟩)⟩,⟨by (try simp only [hl276001_63]);(with_reducible repeat (first|apply Kd.R_alloc|apply Kd.R_drewN|apply Kd.R_drew));exact Kd.R_mono HO_276001.out (fun _ hk => ⟨hk.1.1.1,⟨hk.1.1.2,hk.2⟩⟩)⟩,⟨by (try simp only [hl276001_63]);(with_reducible repeat (first|apply Kd.R_alloc|apply Kd.R_drewN|apply Kd.R_drew));exact Kd.R_mono HO_282001.out (fun _ hk => ⟨hk.1.1.1,⟨hk.1.1.2,hk.2⟩⟩)⟩,⟨by (try simp only [hl276001_63]);(with_reducible repeat (first|apply Kd.R_alloc|apply Kd.R_drewN|apply Kd.R_drew));exact Kd.R_mono HO301.out (fun _ hk => ⟨hk.1.1.1.2,⟨hk.1.1.2,hk.1.2⟩⟩)⟩,⟨by (try simp only [hl276001_63]);(with_reducible repeat (first|refine blk_drewN ?_ _|refine blk_drew ?_|refine blk_alloc ?_ _));exact BK259.out⟩,⟨by (try simp only [hl276001_63]);(with_reducible repeat (first|refine blk_drewN ?_ _|refine blk_drew ?_|refine blk_alloc ?_ _));exact BK270.out⟩,⟨by (try simp only [hl276001_63]);(with_reducible repeat (first|refine blk_drewN ?_ _|refine blk_drew ?_|refine blk_alloc ?_ _));exact BK275.out⟩,⟨by (try simp only [hl276001_63]);(with_reducible repeat (first|refine blk_drewN ?_ _|refine blk_drew ?_|refine blk_alloc ?_ _));exact BK281.out⟩,⟨by (try simp only [hl276001_63]);(with_reducible repeat (first|refine blk_drewN ?_ _|refine blk_drew ?_|refine blk_alloc ?_ _));exact BK303.out⟩,⟨by repeat (first|(with_reducible first|exact HB.out|apply below_alloc|apply pw_below_drewN|apply below_drew1|refine below_set ?_ GE259.out|refine below_set ?_ GE270.out|refine below_set ?_ GE275.out|refine below_set ?_ GE281.out|refine below_set ?_ GE303.out)|exact HB.out)⟩⟩
            case rest =>
             clear HC107
             try clear c1
             try clear c2
             try clear p2
             try clear c3
             try clear c4
             try clear c4b0
             try clear c4b1
             try clear c5
             try clear c6
             try clear c7
             try clear c7b0
             try clear c8
             try clear c9
             try clear c10
             try clear c11
             try clear c12
             try clear c13
             try clear c14
             try clear c15
             try clear c17
             try clear c24
             try clear c26
             try clear c27
             try clear c28
             try clear c29
             try clear c30
             try clear c31
             try clear c36
             try clear c37
             try clear c38
             try clear c42
             try clear c43
             try clear c44
             try clear c45
             try clear c47
             try clear c48
             try clear c51
             try clear c52
             try clear c53
             try clear c55
             try clear c56
             try clear c59
             try clear c62
             try clear c69
             try clear c70
             try clear c71
             try clear c74
             try clear c74b0
             try clear c76
             try clear c77
             try clear c78
             try clear c79
             try clear c81
             try clear c82
             try clear c85
             try clear c86
             try clear c87
             try clear c89
             try clear c90
             try clear c93
             try clear c96
             try clear c96b0
             try clear c97
             try clear c98
             try clear c99
             try clear c104
             try clear c104b0
             try clear c104b1
             try clear c108
             try clear c109
             try clear c110
             try clear c115
             try clear c116
             try clear c122
             try clear c123
             try clear c124
             try clear c125
             try clear c129
             try clear c130
             try clear c131
             try clear c132
             try clear c133
             try clear c135
             try clear c136
             try clear c137
             try clear c140
             try clear c141
             try clear c142
             try clear c143
             try clear c145
             try clear c146
             try clear c147
             try clear hcz100_0
             try clear hcz100_1
             try clear hcz102_0
             try clear hcz102_1
             try clear hcz111_0
             try clear hcz111_1
             try clear hcz113_0
             try clear hcz113_1
             try clear hcz117_0
             try clear hcz117_1
             try clear hcz126_0
             try clear hcz126_1
             try clear hcz134_0
             try clear hcz134_1
             try clear hcz138_0
             try clear hcz138_1
             try clear hcz144_0
             try clear hcz144_1
             try clear hcz148_0
             try clear hcz148_1
             try clear hcz17_0
             try clear hcz17_1
             try clear hcz19_0
             try clear hcz19_1
             try clear hcz25_0
             try clear hcz25_1
             try clear hcz27_0
             try clear hcz27_1
             try clear hcz32_0
             try clear hcz32_1
             try clear hcz39_0
             try clear hcz39_1
             try clear hcz46_0
             try clear hcz46_1
             try clear hcz49_0
             try clear hcz49_1
             try clear hcz54_0
             try clear hcz54_1
             try clear hcz57_0
             try clear hcz57_1
             try clear hcz72_0
             try clear hcz72_1
             try clear hcz80_0
             try clear hcz80_1
             try clear hcz83_0
             try clear hcz83_1
             try clear hcz88_0
             try clear hcz88_1
             try clear hcz91_0
             try clear hcz91_1
             try clear hcz9_0
             try clear hcz9_1
             try clear hfz100_0
             try clear hfz100_1
             try clear hfz102_0
             try clear hfz102_1
             try clear hfz111_0
             try clear hfz111_1
             try clear hfz113_0
             try clear hfz113_1
             try clear hfz117_0
             try clear hfz117_1
             try clear hfz126_0
             try clear hfz126_1
             try clear hfz134_0
             try clear hfz134_1
             try clear hfz138_0
             try clear hfz138_1
             try clear hfz144_0
             try clear hfz144_1
             try clear hfz148_0
             try clear hfz148_1
             try clear hfz17_0
             try clear hfz17_1
             try clear hfz19_0
             try clear hfz19_1
             try clear hfz25_0
             try clear hfz25_1
             try clear hfz27_0
             try clear hfz27_1
             try clear hfz32_0
             try clear hfz32_1
             try clear hfz39_0
             try clear hfz39_1
             try clear hfz46_0
             try clear hfz46_1
             try clear hfz49_0
             try clear hfz49_1
             try clear hfz54_0
             try clear hfz54_1
             try clear hfz57_0
             try clear hfz57_1
             try clear hfz72_0
             try clear hfz72_1
             try clear hfz80_0
             try clear hfz80_1
             try clear hfz83_0
             try clear hfz83_1
             try clear hfz88_0
             try clear hfz88_1
             try clear hfz91_0
             try clear hfz91_1
             try clear hfz9_0
             try clear hfz9_1
             try clear p2
             obtain ⟨kq,x100_106,rfl,HA,HJ106,HO_271001,HO_276001,HO_282001,HO_304001,BK259,BK270,BK275,BK281,BK303,HB⟩:=hcut
             have hl282001_106 := (Kd.R_reads' HO_282001.out).1
             rw [hl282001_106] at HO_282001
             (try simp only [hl282001_106])
             (try simp only [hl282001_106] at BK259)
             (try simp only [hl282001_106] at BK270)
             (try simp only [hl282001_106] at BK275)
             (try simp only [hl282001_106] at BK281)
             (try simp only [hl282001_106] at BK303)
             (try simp only [hl282001_106] at HO_271001)
             (try simp only [hl282001_106] at HO_276001)
             (try simp only [hl282001_106] at HO_304001)
             cases kq with
             | zero => exact absurd HA.out (by simp [laws_FnExactCatTake.j2])
             | succ kj106 =>
              have H := HA.out
              clear HA
              simp only [laws_FnExactCatTake.j2] at H
              by_cases c150 : x100_106 = true
              ·subst c150
               have H1 : (some false) = some r:=by rw [if_pos rfl] at H;exact H
               clear H
               have H := H1
               clear H1
               obtain rfl := Option.some.inj H
               go_wp2
               go_ret
               exact ⟨by first|rfl|(simp [errW_none,errW_some] <;> rfl)|(simp [*,errW_none,errW_some] <;> rfl),by repeat (first|(with_reducible first|exact HB.out|apply below_alloc|apply pw_below_drewN|apply below_drew1|refine below_set ?_ GE259.out|refine below_set ?_ GE270.out|refine below_set ?_ GE275.out|refine below_set ?_ GE281.out|refine below_set ?_ GE303.out)|exact HB.out)⟩
              ·replace c150 := Bool.eq_false_iff.mpr c150
               subst c150
               have H1 : ((laws_heldCat.f kj106 t276 t292 1).bind fun t305 => (if t305 < 0 then (some false) else (if t305 = t291 then (some true) else (some false)))) = some r:=by rw [if_neg (show ¬ (false = true) by decide)] at H;exact H
               clear H
               have H := H1
               clear H1
               replace H := Option.bind_eq_some_iff.mp H
               obtain ⟨t305, A1510, H⟩ := H
               replace H : (if t305 < 0 then (some false) else (if t305 = t291 then (some true) else (some false))) = some r:=H
               have A151 := Aside0.mk A1510
               clear A1510
               by_cases c152 : t305 < 0
               ·rw [if_pos c152] at H
                have c152b0 : decide (t305 < 0) = true:=decide_eq_true c152
                clear c152
                obtain rfl := Option.some.inj H
                have hnb153 := NB281_259.out
                have hnc153 := NB259_281.out
                have hnb154 := NB281_270.out
                have hnc154 := NB270_281.out
                have hnb155 := NB281_275.out
                have hnc155 := NB275_281.out
                have hnb156 := NB281_303.out
                have hnc156 := NB303_281.out
                have hcz157_0 : wc.cell? ⟨gb281,0,none⟩ = some (.int .i64 t276):=(blk_cell BK281.out 0).trans rfl
                have hcz157_1 : wc.cell? ⟨gb281,1,none⟩ = some (.slice Ao40 t292.length co40):=(blk_cell BK281.out 1).trans rfl
                have hfz157_0 := blk_frozen BK281.out 0
                have hfz157_1 := blk_frozen BK281.out 1
                go_wp2_with (first|((with_reducible refine gate_callee (f:=29) rfl ?_);refine goesL_ (some 103) rfl rfl Try.func29 (by kernel_rfl) rfl #[.agg #[.int .i64 t276,.slice Ao40 t292.length co40],.int .i64 1] rfl (by (try simp only [List.map_toArray,List.map_cons,List.map_nil]);first|done|rfl|(simp only [List.length_drop,List.length_take];rfl)) ?_;(with_reducible refine (laws_heldCat.calls kj106 t276 _ _ t292 1 t305 _ ?side1 ?side2 A151.out).mono ?_);(case side1 => repeat (first|exact (Kd.R_reads' HO_282001.out).2.2|(with_reducible refine Kd.C_alloc ?_ _)|(with_reducible refine Kd.C_drewN ?_ _)|(with_reducible refine Kd.C_drew ?_)));(case side2 => exact (Kd.R_reads' HO_282001.out).2.1);rintro e w158 ⟨rfl,hb⟩;refine ⟨_,rfl,?_⟩;have n0_:=Aside0.mk (Kd.R_below (by (with_reducible repeat (first|apply Kd.R_alloc|apply Kd.R_drewN|apply Kd.R_drew));exact HO_271001.out) hb);have n1_:=Aside0.mk (Kd.R_below (by (with_reducible repeat (first|apply Kd.R_alloc|apply Kd.R_drewN|apply Kd.R_drew));exact HO_276001.out) hb);have n2_:=Aside0.mk (Kd.R_below (by (with_reducible repeat (first|apply Kd.R_alloc|apply Kd.R_drewN|apply Kd.R_drew));exact HO_282001.out) hb);have n3_:=Aside0.mk (Kd.R_below (by (with_reducible repeat (first|apply Kd.R_alloc|apply Kd.R_drewN|apply Kd.R_drew));exact HO_304001.out) hb);have n4_:=Aside0.mk (blk_below (g:=gb259) (o:=.cells #[.int .i64 a0_0,.slice A0_1 l0_1.length c0_1] 24 (0,0)) (by (with_reducible repeat (first|refine blk_drewN ?_ _|refine blk_drew ?_|refine blk_alloc ?_ _));exact BK259.out) hb);have n5_:=Aside0.mk (blk_below (g:=gb270) (o:=.cells #[.int .i64 t265,.slice Ao26 t266.length co26] 29 (0,0)) (by (with_reducible repeat (first|refine blk_drewN ?_ _|refine blk_drew ?_|refine blk_alloc ?_ _));exact BK270.out) hb);have n6_:=Aside0.mk (blk_below (g:=gb275) (o:=.cells #[.int .i64 t271,.slice Ao33 t289.length co33] 29 (0,0)) (by (with_reducible repeat (first|refine blk_drewN ?_ _|refine blk_drew ?_|refine blk_alloc ?_ _));exact BK275.out) hb);have n7_:=Aside0.mk (blk_below (g:=gb281) (o:=.cells #[.int .i64 t276,.slice Ao40 t292.length co40] 29 (0,0)) (by (with_reducible repeat (first|refine blk_drewN ?_ _|refine blk_drew ?_|refine blk_alloc ?_ _));exact BK281.out) hb);have n8_:=Aside0.mk (blk_below (g:=gb303) (o:=.cells #[.int .i64 t298,.slice Ao127 t299.length co127] 29 (0,0)) (by (with_reducible repeat (first|refine blk_drewN ?_ _|refine blk_drew ?_|refine blk_alloc ?_ _));exact BK303.out) hb);have n9_:=Aside0.mk (below_step (by repeat (first|(with_reducible first|exact HB.out|apply below_alloc|apply pw_below_drewN|apply below_drew1|refine below_set ?_ GE259.out|refine below_set ?_ GE270.out|refine below_set ?_ GE275.out|refine below_set ?_ GE281.out|refine below_set ?_ GE303.out)|exact HB.out)) hb);clear HO_271001 HO_276001 HO_282001 HO_304001 BK259 BK270 BK275 BK281 BK303 HB;have HO_271001:=n0_;have HO_276001:=n1_;have HO_282001:=n2_;have HO_304001:=n3_;have BK259:=n4_;have BK270:=n5_;have BK275:=n6_;have BK281:=n7_;have BK303:=n8_;have HB:=n9_;clear n0_ n1_ n2_ n3_ n4_ n5_ n6_ n7_ n8_ n9_;(try clear hb);(try clear hb2);(try clear hk);(try clear hi)))
                go_ret
                exact ⟨by first|rfl|(simp [errW_none,errW_some] <;> rfl)|(simp [*,errW_none,errW_some] <;> rfl),by repeat (first|(with_reducible first|exact HB.out|apply below_alloc|apply pw_below_drewN|apply below_drew1|refine below_set ?_ GE259.out|refine below_set ?_ GE270.out|refine below_set ?_ GE275.out|refine below_set ?_ GE281.out|refine below_set ?_ GE303.out)|exact HB.out)⟩
               ·rw [if_neg c152] at H
                have c152b0 : decide (t305 < 0) = false:=decide_eq_false c152
                clear c152
                by_cases c159 : t305 = t291
                ·rw [if_pos c159] at H
                 have c159b0 : (t305 == t291) = true := beq_iff_eq.mpr c159
                 have c159b1 : (t305 != t291) = false:=bne_eq_false_iff_eq.mpr c159
                 clear c159
                 obtain rfl := Option.some.inj H
                 have hnb160 := NB281_259.out
                 have hnc160 := NB259_281.out
                 have hnb161 := NB281_270.out
                 have hnc161 := NB270_281.out
                 have hnb162 := NB281_275.out
                 have hnc162 := NB275_281.out
                 have hnb163 := NB281_303.out
                 have hnc163 := NB303_281.out
                 have hcz164_0 : wc.cell? ⟨gb281,0,none⟩ = some (.int .i64 t276):=(blk_cell BK281.out 0).trans rfl
                 have hcz164_1 : wc.cell? ⟨gb281,1,none⟩ = some (.slice Ao40 t292.length co40):=(blk_cell BK281.out 1).trans rfl
                 have hfz164_0 := blk_frozen BK281.out 0
                 have hfz164_1 := blk_frozen BK281.out 1
                 go_wp2_with (first|((with_reducible refine gate_callee (f:=29) rfl ?_);refine goesL_ (some 103) rfl rfl Try.func29 (by kernel_rfl) rfl #[.agg #[.int .i64 t276,.slice Ao40 t292.length co40],.int .i64 1] rfl (by (try simp only [List.map_toArray,List.map_cons,List.map_nil]);first|done|rfl|(simp only [List.length_drop,List.length_take];rfl)) ?_;(with_reducible refine (laws_heldCat.calls kj106 t276 _ _ t292 1 t305 _ ?side1 ?side2 A151.out).mono ?_);(case side1 => repeat (first|exact (Kd.R_reads' HO_282001.out).2.2|(with_reducible refine Kd.C_alloc ?_ _)|(with_reducible refine Kd.C_drewN ?_ _)|(with_reducible refine Kd.C_drew ?_)));(case side2 => exact (Kd.R_reads' HO_282001.out).2.1);rintro e w165 ⟨rfl,hb⟩;refine ⟨_,rfl,?_⟩;have n0_:=Aside0.mk (Kd.R_below (by (with_reducible repeat (first|apply Kd.R_alloc|apply Kd.R_drewN|apply Kd.R_drew));exact HO_271001.out) hb);have n1_:=Aside0.mk (Kd.R_below (by (with_reducible repeat (first|apply Kd.R_alloc|apply Kd.R_drewN|apply Kd.R_drew));exact HO_276001.out) hb);have n2_:=Aside0.mk (Kd.R_below (by (with_reducible repeat (first|apply Kd.R_alloc|apply Kd.R_drewN|apply Kd.R_drew));exact HO_282001.out) hb);have n3_:=Aside0.mk (Kd.R_below (by (with_reducible repeat (first|apply Kd.R_alloc|apply Kd.R_drewN|apply Kd.R_drew));exact HO_304001.out) hb);have n4_:=Aside0.mk (blk_below (g:=gb259) (o:=.cells #[.int .i64 a0_0,.slice A0_1 l0_1.length c0_1] 24 (0,0)) (by (with_reducible repeat (first|refine blk_drewN ?_ _|refine blk_drew ?_|refine blk_alloc ?_ _));exact BK259.out) hb);have n5_:=Aside0.mk (blk_below (g:=gb270) (o:=.cells #[.int .i64 t265,.slice Ao26 t266.length co26] 29 (0,0)) (by (with_reducible repeat (first|refine blk_drewN ?_ _|refine blk_drew ?_|refine blk_alloc ?_ _));exact BK270.out) hb);have n6_:=Aside0.mk (blk_below (g:=gb275) (o:=.cells #[.int .i64 t271,.slice Ao33 t289.length co33] 29 (0,0)) (by (with_reducible repeat (first|refine blk_drewN ?_ _|refine blk_drew ?_|refine blk_alloc ?_ _));exact BK275.out) hb);have n7_:=Aside0.mk (blk_below (g:=gb281) (o:=.cells #[.int .i64 t276,.slice Ao40 t292.length co40] 29 (0,0)) (by (with_reducible repeat (first|refine blk_drewN ?_ _|refine blk_drew ?_|refine blk_alloc ?_ _));exact BK281.out) hb);have n8_:=Aside0.mk (blk_below (g:=gb303) (o:=.cells #[.int .i64 t298,.slice Ao127 t299.length co127] 29 (0,0)) (by (with_reducible repeat (first|refine blk_drewN ?_ _|refine blk_drew ?_|refine blk_alloc ?_ _));exact BK303.out) hb);have n9_:=Aside0.mk (below_step (by repeat (first|(with_reducible first|exact HB.out|apply below_alloc|apply pw_below_drewN|apply below_drew1|refine below_set ?_ GE259.out|refine below_set ?_ GE270.out|refine below_set ?_ GE275.out|refine below_set ?_ GE281.out|refine below_set ?_ GE303.out)|exact HB.out)) hb);clear HO_271001 HO_276001 HO_282001 HO_304001 BK259 BK270 BK275 BK281 BK303 HB;have HO_271001:=n0_;have HO_276001:=n1_;have HO_282001:=n2_;have HO_304001:=n3_;have BK259:=n4_;have BK270:=n5_;have BK275:=n6_;have BK281:=n7_;have BK303:=n8_;have HB:=n9_;clear n0_ n1_ n2_ n3_ n4_ n5_ n6_ n7_ n8_ n9_;(try clear hb);(try clear hb2);(try clear hk);(try clear hi)))
                 go_ret
                 exact ⟨by first|rfl|(simp [errW_none,errW_some] <;> rfl)|(simp [*,errW_none,errW_some] <;> rfl),by repeat (first|(with_reducible first|exact HB.out|apply below_alloc|apply pw_below_drewN|apply below_drew1|refine below_set ?_ GE259.out|refine below_set ?_ GE270.out|refine below_set ?_ GE275.out|refine below_set ?_ GE281.out|refine below_set ?_ GE303.out)|exact HB.out)⟩
                ·rw [if_neg c159] at H
                 have c159b0 : (t305 == t291) = false:=beq_eq_false_iff_ne.mpr c159
                 have c159b1 : (t305 != t291) = true := bne_iff_ne.mpr c159
                 obtain rfl := Option.some.inj H
                 have hnb166 := NB281_259.out
                 have hnc166 := NB259_281.out
                 have hnb167 := NB281_270.out
                 have hnc167 := NB270_281.out
                 have hnb168 := NB281_275.out
                 have hnc168 := NB275_281.out
                 have hnb169 := NB281_303.out
                 have hnc169 := NB303_281.out
                 have hcz170_0 : wc.cell? ⟨gb281,0,none⟩ = some (.int .i64 t276):=(blk_cell BK281.out 0).trans rfl
                 have hcz170_1 : wc.cell? ⟨gb281,1,none⟩ = some (.slice Ao40 t292.length co40):=(blk_cell BK281.out 1).trans rfl
                 have hfz170_0 := blk_frozen BK281.out 0
                 have hfz170_1 := blk_frozen BK281.out 1
                 go_wp2_with (first|((with_reducible refine gate_callee (f:=29) rfl ?_);refine goesL_ (some 103) rfl rfl Try.func29 (by kernel_rfl) rfl #[.agg #[.int .i64 t276,.slice Ao40 t292.length co40],.int .i64 1] rfl (by (try simp only [List.map_toArray,List.map_cons,List.map_nil]);first|done|rfl|(simp only [List.length_drop,List.length_take];rfl)) ?_;(with_reducible refine (laws_heldCat.calls kj106 t276 _ _ t292 1 t305 _ ?side1 ?side2 A151.out).mono ?_);(case side1 => repeat (first|exact (Kd.R_reads' HO_282001.out).2.2|(with_reducible refine Kd.C_alloc ?_ _)|(with_reducible refine Kd.C_drewN ?_ _)|(with_reducible refine Kd.C_drew ?_)));(case side2 => exact (Kd.R_reads' HO_282001.out).2.1);rintro e w171 ⟨rfl,hb⟩;refine ⟨_,rfl,?_⟩;have n0_:=Aside0.mk (Kd.R_below (by (with_reducible repeat (first|apply Kd.R_alloc|apply Kd.R_drewN|apply Kd.R_drew));exact HO_271001.out) hb);have n1_:=Aside0.mk (Kd.R_below (by (with_reducible repeat (first|apply Kd.R_alloc|apply Kd.R_drewN|apply Kd.R_drew));exact HO_276001.out) hb);have n2_:=Aside0.mk (Kd.R_below (by (with_reducible repeat (first|apply Kd.R_alloc|apply Kd.R_drewN|apply Kd.R_drew));exact HO_282001.out) hb);have n3_:=Aside0.mk (Kd.R_below (by (with_reducible repeat (first|apply Kd.R_alloc|apply Kd.R_drewN|apply Kd.R_drew));exact HO_304001.out) hb);have n4_:=Aside0.mk (blk_below (g:=gb259) (o:=.cells #[.int .i64 a0_0,.slice A0_1 l0_1.length c0_1] 24 (0,0)) (by (with_reducible repeat (first|refine blk_drewN ?_ _|refine blk_drew ?_|refine blk_alloc ?_ _));exact BK259.out) hb);have n5_:=Aside0.mk (blk_below (g:=gb270) (o:=.cells #[.int .i64 t265,.slice Ao26 t266.length co26] 29 (0,0)) (by (with_reducible repeat (first|refine blk_drewN ?_ _|refine blk_drew ?_|refine blk_alloc ?_ _));exact BK270.out) hb);have n6_:=Aside0.mk (blk_below (g:=gb275) (o:=.cells #[.int .i64 t271,.slice Ao33 t289.length co33] 29 (0,0)) (by (with_reducible repeat (first|refine blk_drewN ?_ _|refine blk_drew ?_|refine blk_alloc ?_ _));exact BK275.out) hb);have n7_:=Aside0.mk (blk_below (g:=gb281) (o:=.cells #[.int .i64 t276,.slice Ao40 t292.length co40] 29 (0,0)) (by (with_reducible repeat (first|refine blk_drewN ?_ _|refine blk_drew ?_|refine blk_alloc ?_ _));exact BK281.out) hb);have n8_:=Aside0.mk (blk_below (g:=gb303) (o:=.cells #[.int .i64 t298,.slice Ao127 t299.length co127] 29 (0,0)) (by (with_reducible repeat (first|refine blk_drewN ?_ _|refine blk_drew ?_|refine blk_alloc ?_ _));exact BK303.out) hb);have n9_:=Aside0.mk (below_step (by repeat (first|(with_reducible first|exact HB.out|apply below_alloc|apply pw_below_drewN|apply below_drew1|refine below_set ?_ GE259.out|refine below_set ?_ GE270.out|refine below_set ?_ GE275.out|refine below_set ?_ GE281.out|refine below_set ?_ GE303.out)|exact HB.out)) hb);clear HO_271001 HO_276001 HO_282001 HO_304001 BK259 BK270 BK275 BK281 BK303 HB;have HO_271001:=n0_;have HO_276001:=n1_;have HO_282001:=n2_;have HO_304001:=n3_;have BK259:=n4_;have BK270:=n5_;have BK275:=n6_;have BK281:=n7_;have BK303:=n8_;have HB:=n9_;clear n0_ n1_ n2_ n3_ n4_ n5_ n6_ n7_ n8_ n9_;(try clear hb);(try clear hb2);(try clear hk);(try clear hi)))
                 go_ret
                 exact ⟨by first|rfl|(simp [errW_none,errW_some] <;> rfl)|(simp [*,errW_none,errW_some] <;> rfl),by repeat (first|(with_reducible first|exact HB.out|apply below_alloc|apply pw_below_drewN|apply below_drew1|refine below_set ?_ GE259.out|refine below_set ?_ GE270.out|refine below_set ?_ GE275.out|refine below_set ?_ GE281.out|refine below_set ?_ GE303.out)|exact HB.out)⟩
           ·rw [if_neg c104] at H
            have c104b0 : (t293 == t291) = false:=beq_eq_false_iff_ne.mpr c104
            have c104b1 : (t293 != t291) = true := bne_iff_ne.mpr c104
            obtain rfl := Option.some.inj H
            have hnb172 := NB281_259.out
            have hnc172 := NB259_281.out
            have hnb173 := NB281_270.out
            have hnc173 := NB270_281.out
            have hnb174 := NB281_275.out
            have hnc174 := NB275_281.out
            have hcz175_0 : wc.cell? ⟨gb281,0,none⟩ = some (.int .i64 t276):=(blk_cell BK281.out 0).trans rfl
            have hcz175_1 : wc.cell? ⟨gb281,1,none⟩ = some (.slice Ao40 t277.length co40):=(blk_cell BK281.out 1).trans rfl
            have hfz175_0 := blk_frozen BK281.out 0
            have hfz175_1 := blk_frozen BK281.out 1
            go_wp2_with (first|((with_reducible refine gate_callee (f:=28) rfl ?_);refine goesL_ (some 75) rfl rfl Try.func28 (by kernel_rfl) rfl #[.agg #[.int .i64 t276,.slice Ao40 t277.length co40],.int .i64 1] rfl (by (try simp only [List.map_toArray,List.map_cons,List.map_nil]);first|done|rfl|(simp only [List.length_drop,List.length_take];rfl)) ?_;(with_reducible refine (laws_markCat.calls kj63 t276 (fun k_ => some k_ = (.slice Ao40 t277.length co40 : Value).ownBlock) (.slice Ao40 t277.length co40) t277 1 t291 t292 w _ ?side1 ?side2 A94.out).mono ?_);(case side1 => repeat (first|(with_reducible first|exact HB.out|apply below_alloc|apply pw_below_drewN|apply below_drew1|refine below_set ?_ GE259.out|refine below_set ?_ GE270.out|refine below_set ?_ GE275.out|refine below_set ?_ GE281.out)|exact HB.out));(case side2 => exact Kd.R_tight rfl HO_282001.out);rintro e w176 ⟨rfl,hy0,hb,hkp⟩;refine ⟨_,rfl,?_⟩;have n0_:=Aside0.mk (Kd.R_mono (ok':=fun k_ => some k_ ≠ (.slice Ao33 t289.length co33 : Value).ownBlock ∧ some k_ ≠ (.slice Ao40 t277.length co40 : Value).ownBlock) (Kd.R_keptB (HO_271001.out) hkp (fun k_ hk_ hs_ => (hk_.2) hs_)) (fun k_ hk_ => ⟨hk_.1.1,hk_.1.2⟩));have n1_:=Aside0.mk (Kd.R_mono (ok':=fun k_ => some k_ ≠ (.slice Ao26 t266.length co26 : Value).ownBlock ∧ some k_ ≠ (.slice Ao40 t277.length co40 : Value).ownBlock) (Kd.R_keptB (HO_276001.out) hkp (fun k_ hk_ hs_ => (hk_.2) hs_)) (fun k_ hk_ => ⟨hk_.1.1,hk_.1.2⟩));have n2_:=Aside0.mk (Kd.R_reok rfl hy0 (fun k_ e_ => HO_282001.out.1 k_ e_));have n3_:=Aside0.mk (blk_kept (by (with_reducible repeat (first|refine blk_drewN ?_ _|refine blk_drew ?_|refine blk_alloc ?_ _));exact BK259.out) hkp (fun hs_ => (fun e_ => (Kd.R_ne HO_282001.out BK259.out (by decide)) e_) hs_));have n4_:=Aside0.mk (blk_kept (by (with_reducible repeat (first|refine blk_drewN ?_ _|refine blk_drew ?_|refine blk_alloc ?_ _));exact BK270.out) hkp (fun hs_ => (fun e_ => (Kd.R_ne HO_282001.out BK270.out (by decide)) e_) hs_));have n5_:=Aside0.mk (blk_kept (by (with_reducible repeat (first|refine blk_drewN ?_ _|refine blk_drew ?_|refine blk_alloc ?_ _));exact BK275.out) hkp (fun hs_ => (fun e_ => (Kd.R_ne HO_282001.out BK275.out (by decide)) e_) hs_));have n6_:=Aside0.mk (blk_kept (by (with_reducible repeat (first|refine blk_drewN ?_ _|refine blk_drew ?_|refine blk_alloc ?_ _));exact BK281.out) hkp (fun hs_ => (fun e_ => (Kd.R_ne HO_282001.out BK281.out (by decide)) e_) hs_));have n7_:=Aside0.mk (hb);clear HO_271001 HO_276001 HO_282001 BK259 BK270 BK275 BK281 HB;have HO_271001:=n0_;have HO_276001:=n1_;have HO_282001:=n2_;have BK259:=n3_;have BK270:=n4_;have BK275:=n5_;have BK281:=n6_;have HB:=n7_;clear n0_ n1_ n2_ n3_ n4_ n5_ n6_ n7_;(try clear hb);(try clear hkp);(try clear hy0);have hcz177_0 : w176.cell? ⟨gb281,0,none⟩ = some (.int .i64 t276):=(blk_cell BK281.out 0).trans rfl;have hcz177_1 : w176.cell? ⟨gb281,1,none⟩ = some (.slice Ao40 t277.length co40):=(blk_cell BK281.out 1).trans rfl;have hfz177_0:=blk_frozen BK281.out 0;have hfz177_1:=blk_frozen BK281.out 1)|((with_reducible refine gate_callee (f:=29) rfl ?_);refine goesL_ (some 78) rfl rfl Try.func29 (by kernel_rfl) rfl #[.agg #[.int .i64 t276,.slice Ao40 t292.length co40],.int .i64 1] rfl (by (try simp only [List.map_toArray,List.map_cons,List.map_nil]);first|done|(rw [show t292.length = t277.length from (Kd.R_reads' HO_282001.out).1.symm] <;> rfl)|rfl|(simp only [List.length_drop,List.length_take];rfl)) ?_;(with_reducible refine (laws_heldCat.calls kj63 t276 _ _ t292 1 t293 _ ?side1 ?side2 A95.out).mono ?_);(case side1 => repeat (first|exact (Kd.R_reads' HO_282001.out).2.2|(with_reducible refine Kd.C_alloc ?_ _)|(with_reducible refine Kd.C_drewN ?_ _)|(with_reducible refine Kd.C_drew ?_)));(case side2 => rw [show t292.length = t277.length from (Kd.R_reads' HO_282001.out).1.symm];exact (Kd.R_reads' HO_282001.out).2.1);rintro e w178 ⟨rfl,hb⟩;refine ⟨_,rfl,?_⟩;have n0_:=Aside0.mk (Kd.R_below (by (with_reducible repeat (first|apply Kd.R_alloc|apply Kd.R_drewN|apply Kd.R_drew));exact HO_271001.out) hb);have n1_:=Aside0.mk (Kd.R_below (by (with_reducible repeat (first|apply Kd.R_alloc|apply Kd.R_drewN|apply Kd.R_drew));exact HO_276001.out) hb);have n2_:=Aside0.mk (Kd.R_below (by (with_reducible repeat (first|apply Kd.R_alloc|apply Kd.R_drewN|apply Kd.R_drew));exact HO_282001.out) hb);have n3_:=Aside0.mk (blk_below (g:=gb259) (o:=.cells #[.int .i64 a0_0,.slice A0_1 l0_1.length c0_1] 24 (0,0)) (by (with_reducible repeat (first|refine blk_drewN ?_ _|refine blk_drew ?_|refine blk_alloc ?_ _));exact BK259.out) hb);have n4_:=Aside0.mk (blk_below (g:=gb270) (o:=.cells #[.int .i64 t265,.slice Ao26 t266.length co26] 29 (0,0)) (by (with_reducible repeat (first|refine blk_drewN ?_ _|refine blk_drew ?_|refine blk_alloc ?_ _));exact BK270.out) hb);have n5_:=Aside0.mk (blk_below (g:=gb275) (o:=.cells #[.int .i64 t271,.slice Ao33 t289.length co33] 29 (0,0)) (by (with_reducible repeat (first|refine blk_drewN ?_ _|refine blk_drew ?_|refine blk_alloc ?_ _));exact BK275.out) hb);have n6_:=Aside0.mk (blk_below (g:=gb281) (o:=.cells #[.int .i64 t276,.slice Ao40 t277.length co40] 29 (0,0)) (by (with_reducible repeat (first|refine blk_drewN ?_ _|refine blk_drew ?_|refine blk_alloc ?_ _));exact BK281.out) hb);have n7_:=Aside0.mk (below_step (by repeat (first|(with_reducible first|exact HB.out|apply below_alloc|apply pw_below_drewN|apply below_drew1|refine below_set ?_ GE259.out|refine below_set ?_ GE270.out|refine below_set ?_ GE275.out|refine below_set ?_ GE281.out)|exact HB.out)) hb);clear HO_271001 HO_276001 HO_282001 BK259 BK270 BK275 BK281 HB;have HO_271001:=n0_;have HO_276001:=n1_;have HO_282001:=n2_;have BK259:=n3_;have BK270:=n4_;have BK275:=n5_;have BK281:=n6_;have HB:=n7_;clear n0_ n1_ n2_ n3_ n4_ n5_ n6_ n7_;(try clear hb);(try clear hb2);(try clear hk);(try clear hi)))
            go_ret
            exact ⟨by first|rfl|(simp [errW_none,errW_some] <;> rfl)|(simp [*,errW_none,errW_some] <;> rfl),by repeat (first|(with_reducible first|exact HB.out|apply below_alloc|apply pw_below_drewN|apply below_drew1|refine below_set ?_ GE259.out|refine below_set ?_ GE270.out|refine below_set ?_ GE275.out|refine below_set ?_ GE281.out)|exact HB.out)⟩
      ·replace c62 := Bool.eq_false_iff.mpr c62
       subst c62
       have H1 : (some false) = some r:=by rw [if_neg (show ¬ (false = true) by decide)] at H;exact H
       clear H
       have H := H1
       clear H1
       obtain rfl := Option.some.inj H
       try go_wp2
       have n0_ := Aside0.mk (Kd.R_drew HO_271001.out)
       have n1_ := Aside0.mk (Kd.R_drew HO_276001.out)
       have n2_ := Aside0.mk (Kd.R_drew HO_282001.out)
       have n3_ := Aside0.mk (blk_drew BK259.out)
       have n4_ := Aside0.mk (blk_drew BK270.out)
       have n5_ := Aside0.mk (blk_drew BK275.out)
       have n6_ := Aside0.mk (blk_drew BK281.out)
       have n7_ := Aside0.mk (below_drew1 HB.out)
       clear HO_271001
       clear HO_276001
       clear HO_282001
       clear BK259
       clear BK270
       clear BK275
       clear BK281
       clear HB
       have HO_271001 := n0_
       have HO_276001 := n1_
       have HO_282001 := n2_
       have BK259 := n3_
       have BK270 := n4_
       have BK275 := n5_
       have BK281 := n6_
       have HB := n7_
       clear n0_ n1_ n2_ n3_ n4_ n5_ n6_ n7_
       refine start_ (n:=5) (S:=fun w' => w'.cell? ⟨gb275,0,none⟩ = some (.int .i64 t271) ∧ w'.cell? ⟨gb275,1,none⟩ = some (.slice Ao33 t272.length co33) ∧ w'.cell? ⟨gb259,0,none⟩ = some (.int .i64 a0_0) ∧ w'.cell? ⟨gb259,1,none⟩ = some (.slice A0_1 l0_1.length c0_1)) (ds:=[]) #[false,false,false,false,false] (by kernel_rfl) rfl rfl ⟨(blk_cell BK275.out 0).trans rfl,(blk_cell BK275.out 1).trans rfl,(blk_cell BK259.out 0).trans rfl,(blk_cell BK259.out 1).trans rfl⟩ (fun hHeld => ?_)
       generalize wc.drew = w179 at HO_271001 HO_276001 HO_282001 BK259 BK270 BK275 BK281 HB hHeld ⊢
       refine take_ (i:=0) (N:=some 52) (v:=?_) (a':=?_) #[true,false,false,false,false] rfl rfl (by kernel_rfl) (fun _ _ _ h => h) (Or.inl ⟨by rfl,?_⟩) hHeld ?_ ?_
       rotate_left
       ·rintro w' ⟨s0, s1, s2, s3⟩
        go_simp
        with_reducible rfl
       rotate_left
       ·simp only [Act.put,List.setIfInBounds_toArray,List.set_cons_zero,List.set_cons_succ,i64_w,i32_w]
        rfl
       refine take_ (i:=1) (N:=some 53) (v:=?_) (a':=?_) #[true,true,false,false,false] rfl rfl (by kernel_rfl) (fun _ _ _ h => h) (Or.inl ⟨by rfl,?_⟩) hHeld ?_ ?_
       rotate_left
       ·rintro w' ⟨s0, s1, s2, s3⟩
        go_simp
        with_reducible rfl
       rotate_left
       ·simp only [Act.put,List.setIfInBounds_toArray,List.set_cons_zero,List.set_cons_succ,i64_w,i32_w]
        rfl
       refine one_ (i:=2) (N:=some 54) #[true,true,true,false,false] rfl rfl (by kernel_rfl) (by decide) (fun K hK => ?_)
       refine goes_ Try.func15 (by kernel_rfl) rfl #[.agg #[.int .i64 a0_0,.slice A0_1 l0_1.length c0_1]] (by rfl) rfl rfl (by (try simp only [List.map_toArray,List.map_cons,List.map_nil]);first|done|rfl|(simp only [List.length_drop,List.length_take];rfl)) ?_
       with_reducible refine (laws_toCat.calls kj14 a0_0 _ _ l0_1 t283 t284 _ ?side1 ?side2 A60.out).mono ?_
       (case side1 => repeat (first|exact (Kd.C_below HR0_1.out HB.out)|(with_reducible refine Kd.C_alloc ?_ _)|(with_reducible refine Kd.C_drewN ?_ _)|(with_reducible refine Kd.C_drew ?_)))
       (case side2 => exact HC0_1.out)
       rintro e w180 ⟨v285, rfl, ho0, hb⟩
       refine ⟨_, rfl, ?_⟩
       have n0_:=Aside0.mk (Kd.R_elder' (by (with_reducible repeat (first|apply Kd.R_alloc|apply Kd.R_drewN|apply Kd.R_drew));exact HO_271001.out) (Kd.R_base ho0) hb)
       have n1_:=Aside0.mk (Kd.R_elder' (by (with_reducible repeat (first|apply Kd.R_alloc|apply Kd.R_drewN|apply Kd.R_drew));exact HO_276001.out) (Kd.R_base ho0) hb)
       have n2_:=Aside0.mk (Kd.R_elder' (by (with_reducible repeat (first|apply Kd.R_alloc|apply Kd.R_drewN|apply Kd.R_drew));exact HO_282001.out) (Kd.R_base ho0) hb)
       have n3_:=Aside0.mk (Kd.R_lower (Kd.R_new' (Kd.R_new' (Kd.R_new' ho0 (Kd.R_lt (by (with_reducible repeat (first|apply Kd.R_alloc|apply Kd.R_drewN|apply Kd.R_drew));exact HO_271001.out))) (Kd.R_lt (by (with_reducible repeat (first|apply Kd.R_alloc|apply Kd.R_drewN|apply Kd.R_drew));exact HO_276001.out))) (Kd.R_lt (by (with_reducible repeat (first|apply Kd.R_alloc|apply Kd.R_drewN|apply Kd.R_drew));exact HO_282001.out))) (below_size (by repeat (first|(with_reducible first|exact HB.out|apply below_alloc|apply pw_below_drewN|apply below_drew1|refine below_set ?_ GE259.out|refine below_set ?_ GE270.out|refine below_set ?_ GE275.out|refine below_set ?_ GE281.out)|exact HB.out))))
       have n4_:=Aside0.mk (blk_below (g:=gb259) (o:=.cells #[.int .i64 a0_0,.slice A0_1 l0_1.length c0_1] 24 (0,0)) (by (with_reducible repeat (first|refine blk_drewN ?_ _|refine blk_drew ?_|refine blk_alloc ?_ _));exact BK259.out) hb)
       have n5_:=Aside0.mk (blk_below (g:=gb270) (o:=.cells #[.int .i64 t265,.slice Ao26 t266.length co26] 29 (0,0)) (by (with_reducible repeat (first|refine blk_drewN ?_ _|refine blk_drew ?_|refine blk_alloc ?_ _));exact BK270.out) hb)
       have n6_:=Aside0.mk (blk_below (g:=gb275) (o:=.cells #[.int .i64 t271,.slice Ao33 t272.length co33] 29 (0,0)) (by (with_reducible repeat (first|refine blk_drewN ?_ _|refine blk_drew ?_|refine blk_alloc ?_ _));exact BK275.out) hb)
       have n7_:=Aside0.mk (blk_below (g:=gb281) (o:=.cells #[.int .i64 t276,.slice Ao40 t277.length co40] 29 (0,0)) (by (with_reducible repeat (first|refine blk_drewN ?_ _|refine blk_drew ?_|refine blk_alloc ?_ _));exact BK281.out) hb)
       have n8_:=Aside0.mk (below_step (by repeat (first|(with_reducible first|exact HB.out|apply below_alloc|apply pw_below_drewN|apply below_drew1|refine below_set ?_ GE259.out|refine below_set ?_ GE270.out|refine below_set ?_ GE275.out|refine below_set ?_ GE281.out)|exact HB.out)) hb)
       clear HO_271001
       clear HO_276001
       clear HO_282001
       clear BK259
       clear BK270
       clear BK275
       clear BK281
       clear HB
       have HO_271001 := n0_
       have HO_276001 := n1_
       have HO_282001 := n2_
       have HO286 := n3_
       have BK259 := n4_
       have BK270 := n5_
       have BK275 := n6_
       have BK281 := n7_
       have HB := n8_
       clear n0_ n1_ n2_ n3_ n4_ n5_ n6_ n7_ n8_
       (try clear hb)
       (try clear hb2)
       (try clear hk)
       (try clear hi)
       (try clear ho0)
       obtain ⟨Ao181, co181, eo181⟩ := Kd.R_slice HO286.out
       (first|subst eo181|(injection eo181 with f1_ f2_ f3_;have f4_:=f1_.symm;have f5_:=f3_.symm;clear f1_ f2_ f3_;subst f4_;subst f5_))
       refine hK.out _ _ ⟨(blk_cell BK275.out 0).trans rfl,(blk_cell BK275.out 1).trans rfl,(blk_cell BK259.out 0).trans rfl,(blk_cell BK259.out 1).trans rfl⟩ (fun hHeld => ?_)
       clear hK K
       refine norm_ (a' := ?_) ?_ ?_
       rotate_left
       ·show Act.put _ (some 54) _ = _
        simp only [Act.put,List.setIfInBounds_toArray,List.set_cons_zero,List.set_cons_succ,i64_w,i32_w]
        rfl
       refine one_ (i:=3) (N:=some 55) #[true,true,true,true,false] rfl rfl (by kernel_rfl) (by decide) (fun K hK => ?_)
       refine goes_ Try.func17 (by kernel_rfl) rfl #[.agg #[.int .i64 t271,.slice Ao33 t272.length co33],.agg #[.int .i64 t283,.slice Ao181 t284.length co181]] (by rfl) rfl rfl (by (try simp only [List.map_toArray,List.map_cons,List.map_nil]);first|done|rfl|(simp only [List.length_drop,List.length_take];rfl)) ?_
       with_reducible refine (laws_eqCat.calls kj14 t271 _ _ t272 t283 _ _ t284 false _ ?side1 ?side2 ?side3 ?side4 A61.out).mono ?_
       (case side1 => repeat (first|exact (Kd.R_reads' HO_276001.out).2.2|(with_reducible refine Kd.C_alloc ?_ _)|(with_reducible refine Kd.C_drewN ?_ _)|(with_reducible refine Kd.C_drew ?_)))
       (case side2 => exact (Kd.R_reads' HO_276001.out).2.1)
       (case side3 => repeat (first|exact (Kd.R_reads' HO286.out).2.2|(with_reducible refine Kd.C_alloc ?_ _)|(with_reducible refine Kd.C_drewN ?_ _)|(with_reducible refine Kd.C_drew ?_)))
       (case side4 => exact (Kd.R_reads' HO286.out).2.1)
       rintro e w182 ⟨rfl, hb⟩
       refine ⟨_, rfl, ?_⟩
       have n0_:=Aside0.mk (Kd.R_below (by (with_reducible repeat (first|apply Kd.R_alloc|apply Kd.R_drewN|apply Kd.R_drew));exact HO_271001.out) hb)
       have n1_:=Aside0.mk (Kd.R_below (by (with_reducible repeat (first|apply Kd.R_alloc|apply Kd.R_drewN|apply Kd.R_drew));exact HO_276001.out) hb)
       have n2_:=Aside0.mk (Kd.R_below (by (with_reducible repeat (first|apply Kd.R_alloc|apply Kd.R_drewN|apply Kd.R_drew));exact HO_282001.out) hb)
       have n3_:=Aside0.mk (Kd.R_below (by (with_reducible repeat (first|apply Kd.R_alloc|apply Kd.R_drewN|apply Kd.R_drew));exact HO286.out) hb)
       have n4_:=Aside0.mk (blk_below (g:=gb259) (o:=.cells #[.int .i64 a0_0,.slice A0_1 l0_1.length c0_1] 24 (0,0)) (by (with_reducible repeat (first|refine blk_drewN ?_ _|refine blk_drew ?_|refine blk_alloc ?_ _));exact BK259.out) hb)
       have n5_:=Aside0.mk (blk_below (g:=gb270) (o:=.cells #[.int .i64 t265,.slice Ao26 t266.length co26] 29 (0,0)) (by (with_reducible repeat (first|refine blk_drewN ?_ _|refine blk_drew ?_|refine blk_alloc ?_ _));exact BK270.out) hb)
       have n6_:=Aside0.mk (blk_below (g:=gb275) (o:=.cells #[.int .i64 t271,.slice Ao33 t272.length co33] 29 (0,0)) (by (with_reducible repeat (first|refine blk_drewN ?_ _|refine blk_drew ?_|refine blk_alloc ?_ _));exact BK275.out) hb)
       have n7_:=Aside0.mk (blk_below (g:=gb281) (o:=.cells #[.int .i64 t276,.slice Ao40 t277.length co40] 29 (0,0)) (by (with_reducible repeat (first|refine blk_drewN ?_ _|refine blk_drew ?_|refine blk_alloc ?_ _));exact BK281.out) hb)
       have n8_:=Aside0.mk (below_step (by repeat (first|(with_reducible first|exact HB.out|apply below_alloc|apply pw_below_drewN|apply below_drew1|refine below_set ?_ GE259.out|refine below_set ?_ GE270.out|refine below_set ?_ GE275.out|refine below_set ?_ GE281.out)|exact HB.out)) hb)
       clear HO_271001
       clear HO_276001
       clear HO_282001
       clear HO286
       clear BK259
       clear BK270
       clear BK275
       clear BK281
       clear HB
       have HO_271001 := n0_
       have HO_276001 := n1_
       have HO_282001 := n2_
       have HO286 := n3_
       have BK259 := n4_
       have BK270 := n5_
       have BK275 := n6_
       have BK281 := n7_
       have HB := n8_
       clear n0_ n1_ n2_ n3_ n4_ n5_ n6_ n7_ n8_
       (try clear hb)
       (try clear hb2)
       (try clear hk)
       (try clear hi)
       refine hK.out _ _ ⟨(blk_cell BK275.out 0).trans rfl,(blk_cell BK275.out 1).trans rfl,(blk_cell BK259.out 0).trans rfl,(blk_cell BK259.out 1).trans rfl⟩ (fun hHeld => ?_)
       clear hK K
       refine norm_ (a' := ?_) ?_ ?_
       rotate_left
       ·show Act.put _ (some 55) _ = _
        simp only [Act.put,List.setIfInBounds_toArray,List.set_cons_zero,List.set_cons_succ,i64_w,i32_w]
        rfl
       refine pure_ (i:=4) (N:=some 56) (v:=?_) (a':=?_) #[true,true,true,true,true] rfl rfl (by kernel_rfl) (fun _ _ _ h => h) (Or.inl ⟨by rfl,?_⟩) ?_ ?_
       rotate_left
       ·intro w'
        go_simp
        with_reducible rfl
       rotate_left
       ·simp only [Act.put,List.setIfInBounds_toArray,List.set_cons_zero,List.set_cons_succ,i64_w,i32_w]
        rfl
       refine done_ (by kernel_rfl) ?_
       try go_wp2
       go_ret
       exact ⟨by first|rfl|(simp [errW_none,errW_some] <;> rfl)|(simp [*,errW_none,errW_some] <;> rfl),by repeat (first|(with_reducible first|exact HB.out|apply below_alloc|apply pw_below_drewN|apply below_drew1|refine below_set ?_ GE259.out|refine below_set ?_ GE270.out|refine below_set ?_ GE275.out|refine below_set ?_ GE281.out)|exact HB.out)⟩

end Go.Proofs.Ytbpmfdpbgcpjeaa.PFnExactCatTake
