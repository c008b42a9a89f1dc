-- Written by a program of this session over the print's form. Lean checks it.
import Derived.Test.YtlfnjkcgefcidaaPFnPoolLetx0
import Derived.Test.YtlfnjkcgefcidaaPFnPoolLetx8
import Derived.Test.YtlfnjkcgefcidaaPFnPoolLetx9
import Derived.Test.YtlfnjkcgefcidaaPFnPoolLetx16
namespace Go.Proofs.Ytlfnjkcgefcidaa.PFnPoolLet
open Go.RowKit Go.Proofs.YtlfnjkcgefcidaaW.PrintWords Go.Proofs.YtlfnjkcgefcidaaW.PrintLast Go.Proofs.YtlfnjkcgefcidaaW.PrintMore
attribute [local go_sem] max2_int min2_int max_two min_two max_three min_three max_four min_four   -- for this text's walks alone
set_option linter.unusedVariables false
set_option linter.unusedSimpArgs false

/-! ### spec_DrawPoolLet: function 22 -/
def spec_DrawPoolLet.f (k : Nat) (l0 : List Int) : Option ((List (S41)) × Int × Int) := (spec_l1Open.f l0).bind fun bt268 => ((spec_l15AnyPool.f k bt268.1 bt268.2).bind fun bt271 => ((spec_l1Rd_pick.f k bt268.1 bt271.2.2 10).bind fun bt276 => (some (bt271.1, bt271.2.1, wrap64 (bt276.1 - 1)))))
theorem spec_DrawPoolLet.mono : ∀ a0 k, LeO (spec_DrawPoolLet.f k a0) (spec_DrawPoolLet.f (k + 1) a0) := by
 intro a0 k
 unfold spec_DrawPoolLet.f
 repeat' first
   | (with_reducible exact spec_l15AnyPool.mono _ _ _)
   | (with_reducible exact spec_l1Rd_pick.mono _ _ _ _)
   | (with_reducible exact LeO.refl _)
   | (with_reducible exact LeO.none _)
   | (with_reducible refine LeO.ite ?_ ?_)
   | (with_reducible refine LeO.bind ?_ (fun _ => ?_))
   | exact spec_l15AnyPool.mono _ _ _
   | exact spec_l1Rd_pick.mono _ _ _ _
   | exact LeO.none _
   | refine LeO.ite ?_ ?_
   | refine LeO.bind ?_ (fun _ => ?_)
set_option maxHeartbeats 8000000 in
set_option maxRecDepth 100000 in
theorem spec_DrawPoolLet.calls (k : Nat) (A0 : Option Addr) (c0 : Nat) (l0 : List Int) (r1 : List (S41)) (r2 : Int) (r3 : Int) (w : World) (hr0 : Kd.C (Kd.int .u8) w A0 l0.length l0) (hc0 : l0.length ≤ c0) (h : spec_DrawPoolLet.f k l0 = some (r1, r2, r3)) :
  Calls Try.prog 22 #[.slice A0 l0.length c0] w fun e w' => ∃ v0_ : Value, e = .returned (.tuple #[.agg #[v0_, .int .i64 r2], .int .i64 r3]) ∧ Kd.Q k41 41 w' w.heap.size (fun _ => True) v0_ r1 ∧ Below w.heap.size w w' := by
 have hu29 := Try.underlying29
 have HR0 := Aside0.mk hr0
 have HC0 := Aside0.mk hc0
 clear hr0 hc0
 have HB := Aside0.mk (Below.refl w.heap.size w)
 have H : ((spec_l1Open.f l0).bind fun bt268 => ((spec_l15AnyPool.f k bt268.1 bt268.2).bind fun bt271 => ((spec_l1Rd_pick.f k bt268.1 bt271.2.2 10).bind fun bt276 => (some (bt271.1,bt271.2.1,wrap64 (bt276.1 - 1)))))) = some (r1,r2,r3):=h
 clear h
 replace H := Option.bind_eq_some_iff.mp H
 obtain ⟨⟨t268, t269⟩, A20, H⟩ := H
 replace H : ((spec_l15AnyPool.f k t268 t269).bind fun bt271 => ((spec_l1Rd_pick.f k t268 bt271.2.2 10).bind fun bt276 => (some (bt271.1,bt271.2.1,wrap64 (bt276.1 - 1))))) = some (r1,r2,r3):=H
 have A2 := Aside0.mk A20
 clear A20
 replace H := Option.bind_eq_some_iff.mp H
 obtain ⟨⟨t271, t274, t275⟩, A30, H⟩ := H
 replace H : ((spec_l1Rd_pick.f k t268 t275 10).bind fun bt276 => (some (t271,t274,wrap64 (bt276.1 - 1)))) = some (r1,r2,r3):=H
 have A3 := Aside0.mk A30
 clear A30
 replace H := Option.bind_eq_some_iff.mp H
 obtain ⟨⟨t276, t277⟩, A40, H⟩ := H
 replace H : (some (t271,t274,wrap64 (t276 - 1))) = some (r1,r2,r3):=H
 have A4 := Aside0.mk A40
 clear A40
 simp only [Option.some.injEq, Prod.mk.injEq] at H
 obtain ⟨rfl, rfl, rfl⟩ := H
 go_enter Try.func22, Try.ntmps22
 go_wp2_with (first|((with_reducible refine gate_dst (N:=2) rfl ?_);refine box_event ?hg (N:=2) ?hd (cs:=#[.slice none 0 0,.int .i64 0]) (t:=29) ?hr ?_;(case hd => rfl);(case hg => rfl);(case hr => first|(go_simp;done)|(go_simp;rfl));intro gb267 hg w5 hbox hb;have n0_:=Aside0.mk (below_step (by repeat (first|(with_reducible first|exact HB.out|apply y_h|apply y_i|apply y_j)|exact HB.out)) hb);have n1_:=Aside0.mk (hbox);have n2_:=Aside0.mk ((by rw [hg];exact (below_size (by repeat (first|(with_reducible first|exact HB.out|apply y_h|apply y_i|apply y_j)|exact HB.out))) : w.heap.size ≤ gb267));have n3_:=Aside0.mk ((by rw [hg];exact (below_size (by repeat (first|(with_reducible first|exact HB.out|apply y_h|apply y_i|apply y_j)|exact HB.out))) : w.heap.size ≤ gb267));clear HB;have HB:=n0_;have BK267:=n1_;have GW267:=n2_;have GE267:=n3_;clear n0_ n1_ n2_ n3_;clear hb hbox hg)|((with_reducible refine gate_callee (f:=50) rfl ?_);refine goesL_ (some 6) rfl rfl Try.func50 (by kernel_rfl) rfl #[.slice A0 l0.length c0] rfl (by (try simp only [List.map_toArray,List.map_cons,List.map_nil]);first|done|rfl|(simp only [List.length_drop,List.length_take];rfl)) ?_;(with_reducible refine (spec_l1Open.calls _ _ l0 t268 t269 w _ ?side1 ?side2 ?side3 A2.out).mono ?_);(case side1 => repeat (first|(with_reducible first|exact HB.out|apply y_h|apply y_i|apply y_j|refine y_s ?_ GE267.out)|exact HB.out));(case side2 => exact HR0.out);(case side3 => exact HC0.out);rintro e w6 ⟨g270,rfl,hi,hb,hb2⟩;refine ⟨_,rfl,?_⟩;have n0_:=Aside0.mk (blk_below (g:=gb267) (o:=.cells #[.slice none 0 0,.int .i64 0] 29 (0,0)) (by (with_reducible repeat (first|refine y_b ?_ _|refine y_c ?_|refine y_d ?_ _));exact BK267.out) hb2);have n1_:=Aside0.mk (hb);have n2_:=Aside0.mk (hi);have n3_:=Aside0.mk (IsS89.ne_blk hi (blk_below (g:=gb267) (o:=.cells #[.slice none 0 0,.int .i64 0] 29 (0,0)) (by (with_reducible repeat (first|refine y_b ?_ _|refine y_c ?_|refine y_d ?_ _));exact BK267.out) hb2) (by decide));have n4_:=Aside0.mk (Ne.symm (IsS89.ne_blk hi (blk_below (g:=gb267) (o:=.cells #[.slice none 0 0,.int .i64 0] 29 (0,0)) (by (with_reducible repeat (first|refine y_b ?_ _|refine y_c ?_|refine y_d ?_ _));exact BK267.out) hb2) (by decide)));clear BK267 HB;have BK267:=n0_;have HB:=n1_;have HI270:=n2_;have NB270_267:=n3_;have NB267_270:=n4_;clear n0_ n1_ n2_ n3_ n4_;(try clear hb);(try clear hb2);(try clear hk);(try clear hi))|((with_reducible refine gate_callee (f:=51) rfl ?_);refine goesL_ (some 8) rfl rfl Try.func51 (by kernel_rfl) rfl #[.pointer (some ⟨g270,0,none⟩)] rfl (by (try simp only [List.map_toArray,List.map_cons,List.map_nil]);first|done|rfl|(simp only [List.length_drop,List.length_take];rfl)) ?_;(with_reducible refine (spec_l15AnyPool.calls k g270 t268 t269 t271 t274 t275 w _ ?side1 ?side2 A3.out).mono ?_);(case side1 => repeat (first|(with_reducible first|exact HI270.out|apply IsS89.alloc|apply IsS89.drewN|apply IsS89.drew|apply IsS89.set_1|refine IsS89.far ?_ NB270_267.out _)|exact HI270.out));(case side2 => repeat (first|(with_reducible first|exact HB.out|apply y_h|apply y_i|apply y_j|refine y_s ?_ (IsS89.ge HI270.out)|refine y_s ?_ GE267.out)|exact HB.out));rintro e w7 ⟨v272,rfl,ho0,hi,hb,hk⟩;refine ⟨_,rfl,?_⟩;have n0_:=Aside0.mk (KeepBut.blk hk (g':=gb267) (o:=.cells #[.slice none 0 0,.int .i64 0] 29 (0,0)) (by (with_reducible repeat (first|refine y_b ?_ _|refine y_c ?_|refine y_d ?_ _));exact BK267.out) NB267_270.out (by simp));have n1_:=Aside0.mk (Kd.Q_lower ho0 (below_size (by repeat (first|(with_reducible first|exact HB.out|apply y_h|apply y_i|apply y_j|refine y_s ?_ (IsS89.ge HI270.out)|refine y_s ?_ GE267.out)|exact HB.out))));have n2_:=Aside0.mk (hb);have n3_:=Aside0.mk (hi);clear BK267 HB HI270;have BK267:=n0_;have HO273:=n1_;have HB:=n2_;have HI270:=n3_;clear n0_ n1_ n2_ n3_;(try clear hb);(try clear hb2);(try clear hk);(try clear hi);(try clear ho0))|((with_reducible refine gate_callee (f:=52) rfl ?_);refine goesL_ (some 10) rfl rfl Try.func52 (by kernel_rfl) rfl #[.pointer (some ⟨g270,0,none⟩),.int .i64 10] rfl (by (try simp only [List.map_toArray,List.map_cons,List.map_nil]);first|done|rfl|(simp only [List.length_drop,List.length_take];rfl)) ?_;(with_reducible refine (spec_l1Rd_pick.calls k g270 t268 t275 10 t276 t277 w _ ?side1 ?side2 A4.out).mono ?_);(case side1 => repeat (first|(with_reducible first|exact HI270.out|apply IsS89.alloc|apply IsS89.drewN|apply IsS89.drew|apply IsS89.set_1|refine IsS89.far ?_ NB270_267.out _)|exact HI270.out));(case side2 => repeat (first|(with_reducible first|exact HB.out|apply y_h|apply y_i|apply y_j|refine y_s ?_ (IsS89.ge HI270.out)|refine y_s ?_ GE267.out)|exact HB.out));rintro e w8 ⟨rfl,hi,hb,hk⟩;refine ⟨_,rfl,?_⟩;have n0_:=Aside0.mk (KeepBut.blk hk (g':=gb267) (o:=.cells #[.slice none 0 0,.int .i64 0] 29 (0,0)) (by (with_reducible repeat (first|refine y_b ?_ _|refine y_c ?_|refine y_d ?_ _));exact BK267.out) NB267_270.out (by simp));have n1_:=Aside0.mk (Kd.Q_mono (Kd.Q_keep (IsS89.apartQ (show IsS89 w _ g270 t268 t275 from by repeat (first|(with_reducible first|exact HI270.out|apply IsS89.alloc|apply IsS89.drewN|apply IsS89.drew|apply IsS89.set_1|refine IsS89.far ?_ NB270_267.out _)|exact HI270.out)) (by (with_reducible repeat (first|apply Kd.Q_alloc|apply Kd.Q_drewN|apply Kd.Q_drew));exact HO273.out) (by decide)) hk (fun _ h => h.2)) (fun _ h => h.1));have n2_:=Aside0.mk (hb);have n3_:=Aside0.mk (hi);clear BK267 HO273 HB HI270;have BK267:=n0_;have HO273:=n1_;have HB:=n2_;have HI270:=n3_;clear n0_ n1_ n2_ n3_;(try clear hb);(try clear hb2);(try clear hk);(try clear hi);obtain ⟨Ao9,co9,eo9,_⟩:=Kd.Q_slice HO273.out;subst eo9;have hnb10:=NB267_270.out;have hnc10:=NB270_267.out;have hcz11_0 : w8.cell? ⟨gb267,0,none⟩ = some (.slice none 0 0):=(blk_cell BK267.out 0).trans rfl;have hcz11_1 : w8.cell? ⟨gb267,1,none⟩ = some (.int .i64 0):=(blk_cell BK267.out 1).trans rfl;have hfz11_0:=blk_frozen BK267.out 0;have hfz11_1:=blk_frozen BK267.out 1))
 refine bodyPost_ret (results_ct rfl _ _ gb267 29 #[.slice Ao9 t271.length co9,.int .i64 t274] (0,0) _ rfl (by (with_reducible repeat (first|refine y_b ?_ _|refine y_c ?_|refine y_d ?_ _));refine blk_put (cs:=#[.slice Ao9 t271.length co9,.int .i64 0]) ?_ 1 _ rfl;(with_reducible repeat (first|refine y_b ?_ _|refine y_c ?_|refine y_d ?_ _));refine blk_put (cs:=#[.slice none 0 0,.int .i64 0]) ?_ 0 _ rfl;(with_reducible repeat (first|refine y_b ?_ _|refine y_c ?_|refine y_d ?_ _));exact BK267.out) Try.underlying29 rfl (by kernel_rfl)) rfl ?_
 exact ⟨_,by first|rfl|(simp [errW_none,errW_some] <;> rfl)|(simp [*,errW_none,errW_some] <;> rfl),by (with_reducible repeat (first|apply Kd.Q_alloc|apply Kd.Q_drewN|apply Kd.Q_drew));exact Kd.Q_mono (Kd.Q_far (p:=⟨gb267,1,none⟩) (Kd.Q_far (p:=⟨gb267,0,none⟩) (Kd.Q_types HO273.out BK267.out (by decide)) (fun _ hk => hk.2) (.slice Ao9 t271.length co9)) (fun _ hk => hk.2) (.int .i64 t274)) (fun _ hk => trivial),by repeat (first|(with_reducible first|exact HB.out|apply y_h|apply y_i|apply y_j|refine y_s ?_ (IsS89.ge HI270.out)|refine y_s ?_ GE267.out)|exact HB.out)⟩

/-! ### impl_clonePool: function 53 -/
def impl_clonePool.f (l0_0 : List (S41)) (a0_1 : Int) : Option ((List (S41)) × Int) := (some (([] : List (S41)) : List (S41))).bind fun y280 => (if y280.length + l0_0.length < 3518437208883 then (some ((y280 ++ l0_0), a0_1)) else (none))
def impl_clonePool.T1 : Bool × List (List Nat × List Nat) := (true, [([], []), ([], []), ([1], [1]), ([0, 2], [0, 2]), ([], []), ([4], [4]), ([3, 5], [3, 5]), ([6, 3, 0, 1, 2, 3, 4, 5, 6], [6])])
def impl_clonePool.B1 : List Nat := [0, 0, 2, 7, 0, 16, 63, 127]
theorem impl_clonePool.tab1 : rtab .any (opsOf Try.f53 1) = impl_clonePool.T1 := by kernel_rfl
theorem impl_clonePool.bits1 : waitsOk impl_clonePool.T1.2 impl_clonePool.B1 = true := by kernel_rfl
set_option maxHeartbeats 8000000 in
set_option maxRecDepth 100000 in
theorem impl_clonePool.calls (A0_0 : Option Addr) (c0_0 : Nat) (l0_0 : List (S41)) (a0_1 : Int) (r1 : List (S41)) (r2 : Int) (w : World) (hr0_0 : Kd.C k41 w A0_0 l0_0.length l0_0) (hc0_0 : l0_0.length ≤ c0_0) (h : impl_clonePool.f l0_0 a0_1 = some (r1, r2)) :
  Calls Try.prog 53 #[.agg #[.slice A0_0 l0_0.length c0_0, .int .i64 a0_1]] w fun e w' => ∃ v0_ : Value, e = .returned (.agg #[v0_, .int .i64 r2]) ∧ Kd.R k41 41 w' w.heap.size (fun _ => True) v0_ r1 ∧ Below w.heap.size w w' := by
 have hu29 := Try.underlying29
 have HR0_0 := Aside0.mk hr0_0
 have HC0_0 := Aside0.mk hc0_0
 clear hr0_0 hc0_0
 have HB := Aside0.mk (Below.refl w.heap.size w)
 have H : ((some (([] : List (S41)) : List (S41))).bind fun y280 => (if y280.length + l0_0.length < 3518437208883 then (some ((y280++l0_0),a0_1)) else (none))) = some (r1,r2):=h
 clear h
 obtain ⟨y280,hy280⟩ : ∃ y_ : List (S41),y_ = (([] : List (S41))):=⟨_,rfl⟩
 replace H : (if y280.length + l0_0.length < 3518437208883 then (some ((y280++l0_0),a0_1)) else (none)) = some (r1,r2):=by first|(rw [hy280];with_reducible exact H)|(have H2_:=(Option.bind_some _ _).symm.trans H;rw [hy280];with_reducible exact H2_)|(have H2_:=(Option.bind_some _ _).symm.trans H;with_reducible exact H2_)|with_reducible exact H|(rw [hy280];exact H)|exact H
 have Ny280 := Aside0.mk hy280
 clear hy280
 by_cases c2 : y280.length + l0_0.length < 3518437208883
 ·rw [if_pos c2] at H
  have LMc2 := Aside0.mk c2
  clear c2
  obtain ⟨y283,hy283⟩ : ∃ y_ : List (S41),y_ = (y280++l0_0):=⟨_,rfl⟩
  replace H : (some (y283,a0_1)) = some (r1,r2):=by first|(rw [hy283];with_reducible exact H)|(have H2_:=(Option.bind_some _ _).symm.trans H;rw [hy283];with_reducible exact H2_)|(have H2_:=(Option.bind_some _ _).symm.trans H;with_reducible exact H2_)|with_reducible exact H|(rw [hy283];exact H)|exact H
  have Ny283 := Aside0.mk hy283
  clear hy283
  simp only [Option.some.injEq, Prod.mk.injEq] at H
  obtain ⟨rfl, rfl⟩ := H
  go_enter Try.func53, Try.ntmps53
  try go_wp2_with (first|((with_reducible refine gate_dst (N:=1) rfl ?_);refine box_event ?hg (N:=1) ?hd (cs:=#[.slice A0_0 l0_0.length c0_0,.int .i64 a0_1]) (t:=29) ?hr ?_;(case hd => rfl);(case hg => rfl);(case hr => first|(go_simp;done)|(go_simp;rfl));intro gb278 hg w3 hbox hb;have n0_:=Aside0.mk (below_step (by repeat (first|(with_reducible first|exact HB.out|apply y_h|apply y_i|apply y_j)|exact HB.out)) hb);have n1_:=Aside0.mk (hbox);have n2_:=Aside0.mk ((by rw [hg];exact (below_size (by repeat (first|(with_reducible first|exact HB.out|apply y_h|apply y_i|apply y_j)|exact HB.out))) : w.heap.size ≤ gb278));have n3_:=Aside0.mk ((by rw [hg];exact (below_size (by repeat (first|(with_reducible first|exact HB.out|apply y_h|apply y_i|apply y_j)|exact HB.out))) : w.heap.size ≤ gb278));clear HB;have HB:=n0_;have BK278:=n1_;have GW278:=n2_;have GE278:=n3_;clear n0_ n1_ n2_ n3_;clear hb hbox hg)|((with_reducible refine gate_dst (N:=2) rfl ?_);refine box_event ?hg (N:=2) ?hd (cs:=#[.slice none 0 0,.int .i64 0]) (t:=29) ?hr ?_;(case hd => rfl);(case hg => rfl);(case hr => first|(go_simp;done)|(go_simp;rfl));intro gb279 hg w4 hbox hb;have n0_:=Aside0.mk (blk_below (g:=gb278) (o:=.cells #[.slice A0_0 l0_0.length c0_0,.int .i64 a0_1] 29 (0,0)) (by (with_reducible repeat (first|refine y_b ?_ _|refine y_c ?_|refine y_d ?_ _));exact BK278.out) hb);have n1_:=Aside0.mk (below_step (by repeat (first|(with_reducible first|exact HB.out|apply y_h|apply y_i|apply y_j|refine y_s ?_ GE278.out)|exact HB.out)) hb);have n2_:=Aside0.mk (hbox);have n3_:=Aside0.mk ((by rw [hg];exact (below_size (by repeat (first|(with_reducible first|exact HB.out|apply y_h|apply y_i|apply y_j|refine y_s ?_ GE278.out)|exact HB.out))) : w.heap.size ≤ gb279));have n4_:=Aside0.mk ((by rw [hg];exact (below_size (by repeat (first|(with_reducible first|exact HB.out|apply y_h|apply y_i|apply y_j|refine y_s ?_ GE278.out)|exact HB.out))) : w.heap.size ≤ gb279));have n5_:=Aside0.mk ((by rw [hg];exact Nat.ne_of_lt (blk_lt (g:=gb278) (o:=.cells #[.slice A0_0 l0_0.length c0_0,.int .i64 a0_1] 29 (0,0)) (by (with_reducible repeat (first|refine y_b ?_ _|refine y_c ?_|refine y_d ?_ _));exact BK278.out)) : gb278 ≠ gb279));have n6_:=Aside0.mk ((by rw [hg];exact Nat.ne_of_gt (blk_lt (g:=gb278) (o:=.cells #[.slice A0_0 l0_0.length c0_0,.int .i64 a0_1] 29 (0,0)) (by (with_reducible repeat (first|refine y_b ?_ _|refine y_c ?_|refine y_d ?_ _));exact BK278.out)) : gb279 ≠ gb278));clear BK278 HB;have BK278:=n0_;have HB:=n1_;have BK279:=n2_;have GW279:=n3_;have GE279:=n4_;have NB278_279:=n5_;have NB279_278:=n6_;clear n0_ n1_ n2_ n3_ n4_ n5_ n6_;clear hb hbox hg))
  have n0_ := Aside0.mk (y_c BK278.out)
  have n1_ := Aside0.mk (y_c BK279.out)
  have n2_ := Aside0.mk (y_j HB.out)
  clear BK278
  clear BK279
  clear HB
  have BK278 := n0_
  have BK279 := n1_
  have HB := n2_
  clear n0_ n1_ n2_
  refine start_ (n:=8) (S:=fun w' => w'.cell? ⟨gb278,0,none⟩ = some (.slice A0_0 l0_0.length c0_0) ∧ w'.cell? ⟨gb278,1,none⟩ = some (.int .i64 a0_1)) (ds:=[]) #[false,false,false,false,false,false,false,false] (by kernel_rfl) rfl rfl ⟨(blk_cell BK278.out 0).trans rfl,(blk_cell BK278.out 1).trans rfl⟩ (fun hHeld => ?_);refine with_tabW impl_clonePool.tab1 impl_clonePool.bits1 (fun HT_ HW_ => ?_)
  generalize w4.drew = w5 at BK278 BK279 HB hHeld ⊢
  refine pure_ (i:=1) (N:=some 4) (v:=?_) (a':=?_) #[false,true,false,false,false,false,false,false] rfl rfl (any_of HT_.out (by kernel_rfl)) (fun _ _ _ h => h) (Or.inl ⟨by rfl,?_⟩) ?_ ?_
  rotate_left
  ·intro w'
   go_simp
   with_reducible rfl
  rotate_left
  ·simp only [Act.put,List.setIfInBounds_toArray,List.set_cons_zero,List.set_cons_succ,i64_w,i32_w]
   rfl
  refine pure_ (i:=4) (N:=some 7) (v:=?_) (a':=?_) #[false,true,false,false,true,false,false,false] rfl rfl (any_of HT_.out (by kernel_rfl)) (fun _ _ _ h => h) (Or.inl ⟨by rfl,?_⟩) ?_ ?_
  rotate_left
  ·intro w'
   go_simp
   with_reducible rfl
  rotate_left
  ·simp only [Act.put,List.setIfInBounds_toArray,List.set_cons_zero,List.set_cons_succ,i64_w,i32_w]
   rfl
  refine take_ (i:=2) (N:=some 5) (v:=?_) (a':=?_) #[false,true,true,false,true,false,false,false] rfl rfl (take_ofW HT_.out HW_.out (by kernel_rfl)) (fun _ _ _ h => h) (Or.inl ⟨by rfl,?_⟩) hHeld ?_ ?_
  rotate_left
  ·rintro w' ⟨s0, s1⟩
   go_simp
   with_reducible rfl
  rotate_left
  ·simp only [Act.put,List.setIfInBounds_toArray,List.set_cons_zero,List.set_cons_succ,i64_w,i32_w]
   rfl
  refine take_ (i:=5) (N:=some 8) (v:=?_) (a':=?_) #[false,true,true,false,true,true,false,false] rfl rfl (take_ofW HT_.out HW_.out (by kernel_rfl)) (fun _ _ _ h => h) (Or.inl ⟨by rfl,?_⟩) hHeld ?_ ?_
  rotate_left
  ·rintro w' ⟨s0, s1⟩
   go_simp
   with_reducible rfl
  rotate_left
  ·simp only [Act.put,List.setIfInBounds_toArray,List.set_cons_zero,List.set_cons_succ,i64_w,i32_w]
   rfl
  refine one_ (i:=0) (N:=some 3) #[true,true,true,false,true,true,false,false] rfl rfl (one_of HT_.out (by kernel_rfl)) (by decide) (fun K hK => ?_)
  refine Kd.R_lit_step k41 _ 41 ?hg (N:=3) ?hd (xs:=([] : List (S41))) (inner:=[]) (ok:=fun _ => True) (okp:=fun _ => True) ?hr ?hp (fun _ hk => hk) trivial (Below.refl _ _) (Nat.le_refl _) (by simp) ?_;(case hd => rfl);(case hg => rfl);(case hr => first|(go_simp;done)|(go_simp;rfl));(case hp => exact (Reps.none _ _))
  intro v281 w6 ho7 hb hg_ hnew_
  clear hg_ hnew_
  (first|rw [← Ny280.out] at ho7|(simp only [Int.reduceToNat] at ho7;rw [← Ny280.out] at ho7))
  have n0_:=Aside0.mk (Kd.R_lower ho7 (below_size (by repeat (first|(with_reducible first|exact HB.out|apply y_h|apply y_i|apply y_j|refine y_s ?_ GE278.out|refine y_s ?_ GE279.out)|exact HB.out))))
  have n1_:=Aside0.mk (blk_below (g:=gb278) (o:=.cells #[.slice A0_0 l0_0.length c0_0,.int .i64 a0_1] 29 (0,0)) (by (with_reducible repeat (first|refine y_b ?_ _|refine y_c ?_|refine y_d ?_ _));exact BK278.out) hb)
  have n2_:=Aside0.mk (blk_below (g:=gb279) (o:=.cells #[.slice none 0 0,.int .i64 0] 29 (0,0)) (by (with_reducible repeat (first|refine y_b ?_ _|refine y_c ?_|refine y_d ?_ _));exact BK279.out) hb)
  have n3_:=Aside0.mk (below_step (by repeat (first|(with_reducible first|exact HB.out|apply y_h|apply y_i|apply y_j|refine y_s ?_ GE278.out|refine y_s ?_ GE279.out)|exact HB.out)) hb)
  clear BK278
  clear BK279
  clear HB
  have HO282 := n0_
  have BK278 := n1_
  have BK279 := n2_
  have HB := n3_
  clear n0_ n1_ n2_ n3_
  clear hb ho7
  refine hK.out _ _ ⟨(blk_cell BK278.out 0).trans rfl,(blk_cell BK278.out 1).trans rfl⟩ (fun hHeld => ?_)
  clear hK K
  refine norm_ (a' := ?_) ?_ ?_
  rotate_left
  ·show Act.put _ (some 3) _ = _
   simp only [Act.put,List.setIfInBounds_toArray,List.set_cons_zero,List.set_cons_succ,i64_w,i32_w]
   rfl
  refine one_ (i:=3) (N:=some 6) #[true,true,true,true,true,true,false,false] rfl rfl (one_of HT_.out (by kernel_rfl)) (by decide) (fun K hK => ?_)
  refine Kd.R_append_rows_step k41 (w0:=w) w.heap.size (by rfl) (.tmp 3) (.tmp 5) 27 41 (.agg #[(.int .i64 0),(.int .i64 0),(.int .i64 0),(.int .i64 0),(.bool false)]) 40 rfl Try.underlying27 info41 rfl (by decide) (by omega) v281 y280 l0_0 _ _ _ (fun _ => True) (fun _ => False) rfl rfl ?aO ?aR (fun _ _ h => h) (fun _ h => h.elim) ?aF ?aB ?aS ?aL ?_
  (case aR => repeat (first|exact (Kd.C_below HR0_0.out HB.out)|(with_reducible refine y_o ?_ _)|(with_reducible refine y_p ?_ _)|(with_reducible refine y_q ?_)))
  (case aB => exact (by repeat (first|(with_reducible first|exact HB.out|apply y_h|apply y_i|apply y_j|refine y_s ?_ GE278.out|refine y_s ?_ GE279.out)|exact HB.out)))
  (case aF => exact (fun _ _ => trivial))
  (case aO => exact (by (with_reducible repeat (first|apply y_e|apply y_f|apply y_g));exact HO282.out))
  (case aS => exact (below_size (by repeat (first|(with_reducible first|exact HB.out|apply y_h|apply y_i|apply y_j|refine y_s ?_ GE278.out|refine y_s ?_ GE279.out)|exact HB.out))))
  (case aL => have := LMc2.out; omega)
  intro v284 w8 ho hb hg hat
  rw [← Ny283.out] at ho
  have n0_:=Aside0.mk (blk_grown (g:=gb278) (o:=.cells #[.slice A0_0 l0_0.length c0_0,.int .i64 a0_1] 29 (0,0)) (by (with_reducible repeat (first|refine y_b ?_ _|refine y_c ?_|refine y_d ?_ _));exact BK278.out) hg (Kd.R_ne HO282.out BK278.out (by decide)))
  have n1_:=Aside0.mk (blk_grown (g:=gb279) (o:=.cells #[.slice none 0 0,.int .i64 0] 29 (0,0)) (by (with_reducible repeat (first|refine y_b ?_ _|refine y_c ?_|refine y_d ?_ _));exact BK279.out) hg (Kd.R_ne HO282.out BK279.out (by decide)))
  have n2_ := Aside0.mk (hb)
  have n3_ := Aside0.mk (ho)
  clear BK278
  clear BK279
  clear HB
  clear HO282
  have BK278 := n0_
  have BK279 := n1_
  have HB := n2_
  have HO285 := n3_
  clear n0_ n1_ n2_ n3_
  clear ho hb hg hat
  obtain ⟨Ao9, co9, eo9⟩ := Kd.R_slice HO285.out
  (first|subst eo9|(injection eo9 with f1_ f2_ f3_;have f4_:=f1_.symm;have f5_:=f3_.symm;clear f1_ f2_ f3_;subst f4_;subst f5_))
  refine hK.out _ _ ⟨(blk_cell BK278.out 0).trans rfl,(blk_cell BK278.out 1).trans rfl⟩ (fun hHeld => ?_)
  clear hK K
  refine norm_ (a' := ?_) ?_ ?_
  rotate_left
  ·show Act.put _ (some 6) _ = _
   simp only [Act.put,List.setIfInBounds_toArray,List.set_cons_zero,List.set_cons_succ,i64_w,i32_w]
   rfl
  refine pure_ (i:=6) (N:=some 9) (v:=?_) (a':=?_) #[true,true,true,true,true,true,true,false] rfl rfl (any_of HT_.out (by kernel_rfl)) (fun _ _ _ h => h) (Or.inl ⟨by rfl,?_⟩) ?_ ?_
  rotate_left
  ·intro w'
   go_simp
   with_reducible rfl
  rotate_left
  ·simp only [Act.put,List.setIfInBounds_toArray,List.set_cons_zero,List.set_cons_succ,i64_w,i32_w]
   rfl
  refine one_ (i:=7) (N:=none) #[true,true,true,true,true,true,true,true] rfl rfl (one_of HT_.out (by kernel_rfl)) (by decide) (fun K hK => ?_)
  have hs10 : w8.cell? ⟨gb279,0,none⟩ = some (.slice none 0 0):=(blk_cell BK279.out 0).trans rfl
  have hfs10 := blk_frozen BK279.out 0
  have hns10_0 := NB278_279.out
  have hms10_0 := NB279_278.out
  have hs11 : w8.cell? ⟨gb279,1,none⟩ = some (.int .i64 0):=(blk_cell BK279.out 1).trans rfl
  have hfs11 := blk_frozen BK279.out 1
  have hns11_0 := NB278_279.out
  have hms11_0 := NB279_278.out
  refine skip_ (w1 := ?_) (by rfl) rfl ?_ ?_
  rotate_left
  ·go_simp
   rfl
  refine hK.out _ _ ⟨((cell_far (p:=⟨gb279,_,none⟩) NB278_279.out _).trans (((cell_far (p:=⟨gb279,_,none⟩) NB278_279.out _).trans (hHeld.1)))),((cell_far (p:=⟨gb279,_,none⟩) NB278_279.out _).trans (((cell_far (p:=⟨gb279,_,none⟩) NB278_279.out _).trans (hHeld.2))))⟩ (fun hHeld => ?_)
  clear hK K
  refine done_ (done_of HT_.out (by kernel_rfl)) ?_
  try go_wp2
  refine bodyPost_ret (results_cell_row rfl _ _ gb279 29 #[.slice Ao9 y283.length co9,.int .i64 a0_1] (0,0) _ rfl (by (with_reducible repeat (first|refine y_b ?_ _|refine y_c ?_|refine y_d ?_ _));refine blk_put (cs:=#[.slice Ao9 y283.length co9,.int .i64 0]) ?_ 1 _ rfl;(with_reducible repeat (first|refine y_b ?_ _|refine y_c ?_|refine y_d ?_ _));refine blk_put (cs:=#[.slice none 0 0,.int .i64 0]) ?_ 0 _ rfl;(with_reducible repeat (first|refine y_b ?_ _|refine y_c ?_|refine y_d ?_ _));exact BK279.out) Try.underlying29 rfl (by kernel_rfl)) rfl ?_
  exact ⟨_,by first|rfl|(simp [errW_none,errW_some] <;> rfl)|(simp [*,errW_none,errW_some] <;> rfl),by (with_reducible repeat (first|apply y_e|apply y_f|apply y_g));exact y_t (Kd.R_far (p:=⟨gb279,1,none⟩) (Kd.R_far (p:=⟨gb279,0,none⟩) (Kd.R_types HO285.out BK279.out (by decide)) (fun _ hk => hk.2) (.slice Ao9 y283.length co9)) (fun _ hk => hk.2) (.int .i64 a0_1)) (fun _ hk => trivial),by repeat (first|(with_reducible first|exact HB.out|apply y_h|apply y_i|apply y_j|refine y_s ?_ GE278.out|refine y_s ?_ GE279.out)|exact HB.out)⟩
 ·rw [if_neg c2] at H
  exact absurd H (by simp)

end Go.Proofs.Ytlfnjkcgefcidaa.PFnPoolLet
