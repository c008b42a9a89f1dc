-- Written by a program of this session over the print's form. Lean checks it.
import Derived.Test.YtlfnjkcgefcidaaPFnPoolDropx0
import Derived.Test.YtlfnjkcgefcidaaPFnPoolDropx1
import Derived.Test.YtlfnjkcgefcidaaPFnPoolDropx4
import Derived.Test.YtlfnjkcgefcidaaPFnPoolDropx7
import Derived.Test.YtlfnjkcgefcidaaPFnPoolDropx8
import Derived.Test.YtlfnjkcgefcidaaPFnPoolDropx11
import Derived.Test.YtlfnjkcgefcidaaPFnPoolDropx12
import Derived.Test.YtlfnjkcgefcidaaPFnPoolDropx22
namespace Go.Proofs.Ytlfnjkcgefcidaa.PFnPoolDrop
open Go.RowKit Go.Proofs.YtlfnjkcgefcidaaW.PrintWords Go.Proofs.YtlfnjkcgefcidaaW.PrintLast Go.Proofs.YtlfnjkcgefcidaaW.PrintMore
attribute [local go_sem] max2_int min2_int max_two min_two max_three min_three max_four min_four   -- for this text's walks alone
set_option linter.unusedVariables false
set_option linter.unusedSimpArgs false

attribute [local go_sem high] eqA41
/-! ### laws_FnPoolDrop: function 8 -/
mutual
def laws_FnPoolDrop.j0 : Nat → Int → Bool → List (S41) → Int → List (S41) → Int → Option (Bool)
 | 0, _, _, _, _, _, _ => none
 | k + 1, x4, x29, x320000, x320001, x325000, x325001 => if x29 = true then ((spec_PoolDrop.f k x320000 x320001 x4).bind fun bt331 => ((laws_whPool.f k x325000 x325001 bt331.1 bt331.2).bind fun t335 => (some t335))) else (laws_FnPoolDrop.l0 k x4 0 x320000 x320001 x325000 x325001)
def laws_FnPoolDrop.l0 : Nat → Int → Int → List (S41) → Int → List (S41) → Int → Option (Bool)
 | 0, _, _, _, _, _, _ => none
 | k + 1, x4, x6, x320000, x320001, x325000, x325001 => if x6 < (x320000.length : Int) then (if 0 ≤ x6 then (if ((rd_T41 x320000 x6).f1) = x4 then (if ((rd_T41 x320000 x6).f3) = 0 then (if x6 < (x325000.length : Int) then (if ((rd_T41 x325000 x6).f1) = 0 then (if (((rd_T41 x320000 x6).f3) = 0) then (laws_FnPoolDrop.l0 k x4 (wrap64 (x6 + 1)) x320000 x320001 x325000 x325001) else (if (!(((rd_T41 x325000 x6).f0) == ((rd_T41 x320000 x6).f0)) || (!(((rd_T41 x325000 x6).f1) == ((rd_T41 x320000 x6).f1)) || (!(((rd_T41 x325000 x6).f2) == ((rd_T41 x320000 x6).f2)) || (!(((rd_T41 x325000 x6).f3) == ((rd_T41 x320000 x6).f3)) || (!(((rd_T41 x325000 x6).f4) == ((rd_T41 x320000 x6).f4))))))) = true then (some false) else (laws_FnPoolDrop.l0 k x4 (wrap64 (x6 + 1)) x320000 x320001 x325000 x325001))) else (some false)) else (none)) else (if (((rd_T41 x320000 x6).f3) = 0) then (laws_FnPoolDrop.l0 k x4 (wrap64 (x6 + 1)) x320000 x320001 x325000 x325001) else (if x6 < (x325000.length : Int) then (if (!(((rd_T41 x325000 x6).f0) == ((rd_T41 x320000 x6).f0)) || (!(((rd_T41 x325000 x6).f1) == ((rd_T41 x320000 x6).f1)) || (!(((rd_T41 x325000 x6).f2) == ((rd_T41 x320000 x6).f2)) || (!(((rd_T41 x325000 x6).f3) == ((rd_T41 x320000 x6).f3)) || (!(((rd_T41 x325000 x6).f4) == ((rd_T41 x320000 x6).f4))))))) = true then (some false) else (laws_FnPoolDrop.l0 k x4 (wrap64 (x6 + 1)) x320000 x320001 x325000 x325001)) else (none)))) else (if x6 < (x325000.length : Int) then (if (!(((rd_T41 x325000 x6).f0) == ((rd_T41 x320000 x6).f0)) || (!(((rd_T41 x325000 x6).f1) == ((rd_T41 x320000 x6).f1)) || (!(((rd_T41 x325000 x6).f2) == ((rd_T41 x320000 x6).f2)) || (!(((rd_T41 x325000 x6).f3) == ((rd_T41 x320000 x6).f3)) || (!(((rd_T41 x325000 x6).f4) == ((rd_T41 x320000 x6).f4))))))) = true then (some false) else (laws_FnPoolDrop.l0 k x4 (wrap64 (x6 + 1)) x320000 x320001 x325000 x325001)) else (none))) else (none)) else ((impl_PoolOk.f k x325000 x325001).bind fun t345 => (if t345 = true then ((impl_PoolDrop.f k x325000 x325001 x4).bind fun bt346 => ((laws_whPool.f k bt346.1 bt346.2 x325000 x325001).bind fun t350 => (some t350))) else (some false)))
end
def laws_FnPoolDrop.f (k : Nat) (l0 : List Int) : Option (Bool) := if (l0.length : Int) > 1048576 then (some true) else ((spec_DrawPoolDrop.f k l0).bind fun bt314 => ((impl_PoolDrop.f k bt314.1 bt314.2.1 bt314.2.2).bind fun bt320 => ((spec_PoolDrop.f k bt314.1 bt314.2.1 bt314.2.2).bind fun bt325 => ((laws_whPool.f k bt320.1 bt320.2 bt325.1 bt325.2).bind fun t329 => (if t329 = true then ((spec_PoolOk.f k bt314.1 bt314.2.1).bind fun t330 => (laws_FnPoolDrop.j0 k bt314.2.2 (!t330) bt314.1 bt314.2.1 bt320.1 bt320.2)) else (laws_FnPoolDrop.j0 k bt314.2.2 true bt314.1 bt314.2.1 bt320.1 bt320.2))))))
theorem laws_FnPoolDrop.mono_l : ∀ k, (∀ y0 y1 y2 y3 y4 y5, LeO (laws_FnPoolDrop.j0 k y0 y1 y2 y3 y4 y5) (laws_FnPoolDrop.j0 (k + 1) y0 y1 y2 y3 y4 y5)) ∧ (∀ y0 y1 y2 y3 y4 y5, LeO (laws_FnPoolDrop.l0 k y0 y1 y2 y3 y4 y5) (laws_FnPoolDrop.l0 (k + 1) y0 y1 y2 y3 y4 y5))
 | 0 => ⟨fun _ _ _ _ _ _ r h => by simp [laws_FnPoolDrop.j0] at h, fun _ _ _ _ _ _ r h => by simp [laws_FnPoolDrop.l0] at h⟩
 | k + 1 => by
  obtain ⟨ih0, ih1⟩ := laws_FnPoolDrop.mono_l k
  refine ⟨?_, ?_⟩
  ·intro y0 y1 y2 y3 y4 y5
   unfold laws_FnPoolDrop.j0
   repeat' first
   | (with_reducible exact ih0 _ _ _ _ _ _)
   | (with_reducible exact ih1 _ _ _ _ _ _)
   | (with_reducible exact impl_PoolDrop.mono _ _ _ _)
   | (with_reducible exact impl_PoolOk.mono _ _ _)
   | (with_reducible exact laws_whPool.mono _ _ _ _ _)
   | (with_reducible exact spec_DrawPoolDrop.mono _ _)
   | (with_reducible exact spec_PoolDrop.mono _ _ _ _)
   | (with_reducible exact spec_PoolOk.mono _ _ _)
   | (with_reducible exact LeO.refl _)
   | (with_reducible exact LeO.none _)
   | (with_reducible refine LeO.ite ?_ ?_)
   | (with_reducible refine LeO.bind ?_ (fun _ => ?_))
   | exact ih0 _ _ _ _ _ _
   | exact ih1 _ _ _ _ _ _
   | exact impl_PoolDrop.mono _ _ _ _
   | exact impl_PoolOk.mono _ _ _
   | exact laws_whPool.mono _ _ _ _ _
   | exact spec_DrawPoolDrop.mono _ _
   | exact spec_PoolDrop.mono _ _ _ _
   | exact spec_PoolOk.mono _ _ _
   | exact LeO.none _
   | refine LeO.ite ?_ ?_
   | refine LeO.bind ?_ (fun _ => ?_)
  ·intro y0 y1 y2 y3 y4 y5
   unfold laws_FnPoolDrop.l0
   repeat' first
   | (with_reducible exact ih0 _ _ _ _ _ _)
   | (with_reducible exact ih1 _ _ _ _ _ _)
   | (with_reducible exact impl_PoolDrop.mono _ _ _ _)
   | (with_reducible exact impl_PoolOk.mono _ _ _)
   | (with_reducible exact laws_whPool.mono _ _ _ _ _)
   | (with_reducible exact spec_DrawPoolDrop.mono _ _)
   | (with_reducible exact spec_PoolDrop.mono _ _ _ _)
   | (with_reducible exact spec_PoolOk.mono _ _ _)
   | (with_reducible exact LeO.refl _)
   | (with_reducible exact LeO.none _)
   | (with_reducible refine LeO.ite ?_ ?_)
   | (with_reducible refine LeO.bind ?_ (fun _ => ?_))
   | exact ih0 _ _ _ _ _ _
   | exact ih1 _ _ _ _ _ _
   | exact impl_PoolDrop.mono _ _ _ _
   | exact impl_PoolOk.mono _ _ _
   | exact laws_whPool.mono _ _ _ _ _
   | exact spec_DrawPoolDrop.mono _ _
   | exact spec_PoolDrop.mono _ _ _ _
   | exact spec_PoolOk.mono _ _ _
   | exact LeO.none _
   | refine LeO.ite ?_ ?_
   | refine LeO.bind ?_ (fun _ => ?_)
theorem laws_FnPoolDrop.mono : ∀ a0 k, LeO (laws_FnPoolDrop.f k a0) (laws_FnPoolDrop.f (k + 1) a0) := by
 intro a0 k;obtain ⟨ih0, ih1⟩ := laws_FnPoolDrop.mono_l k;unfold laws_FnPoolDrop.f
 repeat' first
   | (with_reducible exact ih0 _ _ _ _ _ _)
   | (with_reducible exact ih1 _ _ _ _ _ _)
   | (with_reducible exact impl_PoolDrop.mono _ _ _ _)
   | (with_reducible exact impl_PoolOk.mono _ _ _)
   | (with_reducible exact laws_whPool.mono _ _ _ _ _)
   | (with_reducible exact spec_DrawPoolDrop.mono _ _)
   | (with_reducible exact spec_PoolDrop.mono _ _ _ _)
   | (with_reducible exact spec_PoolOk.mono _ _ _)
   | (with_reducible exact LeO.refl _)
   | (with_reducible exact LeO.none _)
   | (with_reducible refine LeO.ite ?_ ?_)
   | (with_reducible refine LeO.bind ?_ (fun _ => ?_))
   | exact ih0 _ _ _ _ _ _
   | exact ih1 _ _ _ _ _ _
   | exact impl_PoolDrop.mono _ _ _ _
   | exact impl_PoolOk.mono _ _ _
   | exact laws_whPool.mono _ _ _ _ _
   | exact spec_DrawPoolDrop.mono _ _
   | exact spec_PoolDrop.mono _ _ _ _
   | exact spec_PoolOk.mono _ _ _
   | exact LeO.none _
   | refine LeO.ite ?_ ?_
   | refine LeO.bind ?_ (fun _ => ?_)
def laws_FnPoolDrop.T5 : Bool × List (List Nat × List Nat) := (true, [([], []), ([], []), ([], []), ([1, 2], [1, 2]), ([0, 3, 3], [0, 3]), ([4], [4]), ([5, 4], [5]), ([6], [6]), ([7, 6, 6], [6, 7]), ([8, 6], [6, 8]), ([6, 9], [6, 9])])
def laws_FnPoolDrop.B5 : List Nat := [0, 0, 0, 6, 15, 31, 63, 127, 255, 511, 1023]
theorem laws_FnPoolDrop.tab5 : rtab .any (opsOf Try.f8 5) = laws_FnPoolDrop.T5 := by kernel_rfl
theorem laws_FnPoolDrop.bits5 : waitsOk laws_FnPoolDrop.T5.2 laws_FnPoolDrop.B5 = true := by kernel_rfl
def laws_FnPoolDrop.T11 : Bool × List (List Nat × List Nat) := (true, [([], []), ([0], [0]), ([1], [1]), ([2, 1], [1, 2]), ([1], [1]), ([3, 4, 1], [1, 3, 4]), ([5, 1], [1, 5]), ([6, 1], [1, 6]), ([7, 1], [1, 7]), ([1, 8], [1, 8]), ([9, 1], [9]), ([10], [10]), ([11, 10], [10, 11]), ([12, 10, 10], [10, 12]), ([13], [13]), ([14, 13], [13, 14]), ([13], [13]), ([15, 16, 13], [13, 15, 16]), ([17, 13], [13, 17]), ([13], [13]), ([19, 13], [13, 19]), ([13], [13]), ([20, 21, 13], [13, 20, 21]), ([22, 13], [13, 22]), ([18, 23, 13], [13, 18, 23]), ([13, 24, 10], [10, 13, 24]), ([10, 25], [10, 25])])
def laws_FnPoolDrop.B11 : List Nat := [0, 1, 3, 7, 3, 31, 63, 127, 255, 511, 1023, 2047, 4095, 8191, 16383, 32767, 16383, 131071, 262143, 16383, 540671, 16383, 3686399, 7880703, 16777215, 33554431, 67108863]
theorem laws_FnPoolDrop.tab11 : rtab .any (opsOf Try.f8 11) = laws_FnPoolDrop.T11 := by kernel_rfl
theorem laws_FnPoolDrop.bits11 : waitsOk laws_FnPoolDrop.T11.2 laws_FnPoolDrop.B11 = true := by kernel_rfl
def laws_FnPoolDrop.T13 : Bool × List (List Nat × List Nat) := (true, [([], []), ([0], [0]), ([1, 1], [1]), ([2], [2]), ([2], [2]), ([3, 4, 2, 2], [2, 3, 4]), ([2], [2]), ([5, 6, 5, 2], [2, 5, 6]), ([2, 7], [2, 7]), ([8, 7, 0, 1, 2, 3, 4, 5, 6, 7, 8], [8])])
def laws_FnPoolDrop.B13 : List Nat := [0, 1, 3, 7, 7, 31, 7, 127, 255, 511]
theorem laws_FnPoolDrop.tab13 : rtab .any (opsOf Try.f8 13) = laws_FnPoolDrop.T13 := by kernel_rfl
theorem laws_FnPoolDrop.bits13 : waitsOk laws_FnPoolDrop.T13.2 laws_FnPoolDrop.B13 = true := by kernel_rfl
set_option maxHeartbeats 8000000 in
set_option maxRecDepth 100000 in
theorem laws_FnPoolDrop.calls (k : Nat) (A0 : Option Addr) (c0 : Nat) (l0 : List Int) (r : Bool) (w : World) (hr0 : Kd.C (Kd.int .u8) w A0 l0.length l0) (hc0 : l0.length ≤ c0) (h : laws_FnPoolDrop.f k l0 = some r) :
  Calls Try.prog 8 #[.slice A0 l0.length c0] w fun e w' => e = .returned (.bool r) ∧ Below w.heap.size w w' := by
 have hu29 := Try.underlying29;have hu41 := Try.underlying41;have HR0 := z_a hr0;have HC0 := z_a hc0;clear hr0 hc0;have HB := z_a (Below.refl w.heap.size w);have H : (if (l0.length : Int) > 1048576 then (some true) else ((spec_DrawPoolDrop.f k l0).bind fun bt314 => ((impl_PoolDrop.f k bt314.1 bt314.2.1 bt314.2.2).bind fun bt320 => ((spec_PoolDrop.f k bt314.1 bt314.2.1 bt314.2.2).bind fun bt325 => ((laws_whPool.f k bt320.1 bt320.2 bt325.1 bt325.2).bind fun t329 => (if t329 = true then ((spec_PoolOk.f k bt314.1 bt314.2.1).bind fun t330 => (laws_FnPoolDrop.j0 k bt314.2.2 (!t330) bt314.1 bt314.2.1 bt320.1 bt320.2)) else (laws_FnPoolDrop.j0 k bt314.2.2 true bt314.1 bt314.2.1 bt320.1 bt320.2))))))) = some r:=h;clear h
 by_cases c2 : (l0.length : Int) > 1048576
 ·rw [if_pos c2] at H;have c2b0 : decide (1048576 < (l0.length : Int)) = true:=z_e c2;have c2b1 : decide (1048576 < l0.length) = true:=z_e (by omega);clear c2;obtain rfl := Option.some.inj H
  go_enter Try.func8, Try.ntmps8
  go_wp2
  go_ret
  exact ⟨by first|rfl|(simp [errW_none,errW_some] <;> rfl)|(simp [*,errW_none,errW_some] <;> rfl),zB⟩
 rw [if_neg c2] at H;have c2b0 : decide (1048576 < (l0.length : Int)) = false:=decide_eq_false c2;have c2b1 : decide (1048576 < l0.length) = false:=decide_eq_false (by omega);clear c2;replace H := z_8 H;obtain ⟨⟨t314, t317, t318⟩, A30, H⟩ := H;replace H : ((impl_PoolDrop.f k t314 t317 t318).bind fun bt320 => ((spec_PoolDrop.f k t314 t317 t318).bind fun bt325 => ((laws_whPool.f k bt320.1 bt320.2 bt325.1 bt325.2).bind fun t329 => (if t329 = true then ((spec_PoolOk.f k t314 t317).bind fun t330 => (laws_FnPoolDrop.j0 k t318 (!t330) t314 t317 bt320.1 bt320.2)) else (laws_FnPoolDrop.j0 k t318 true t314 t317 bt320.1 bt320.2))))) = some r:=H;have A3 := z_a A30;clear A30;replace H := z_8 H;obtain ⟨⟨t320, t323⟩, A40, H⟩ := H;replace H : ((spec_PoolDrop.f k t314 t317 t318).bind fun bt325 => ((laws_whPool.f k t320 t323 bt325.1 bt325.2).bind fun t329 => (if t329 = true then ((spec_PoolOk.f k t314 t317).bind fun t330 => (laws_FnPoolDrop.j0 k t318 (!t330) t314 t317 t320 t323)) else (laws_FnPoolDrop.j0 k t318 true t314 t317 t320 t323)))) = some r:=H;have A4 := z_a A40;clear A40;have HC5 := z_a H;clear H
 go_enter Try.func8, Try.ntmps8
 go_upto_region 5 with (first|((with_reducible refine gate_callee (f:=30) rfl ?_);refine goesL_ (some 13) rfl rfl Try.func30 (by kernel_rfl) rfl #[.slice A0 l0.length c0] rfl (by (try simp only [z_7,List.map_cons,List.map_nil]);first|done|rfl|(simp only [z_6,z_5];rfl)) ?_;(with_reducible refine (spec_DrawPoolDrop.calls k _ _ l0 t314 t317 t318 _ ?side1 ?side2 A3.out).mono ?_);(case side1 => repeat (first|exact HR0.out|(with_reducible refine y_o ?_ _)|(with_reducible refine y_p ?_ _)|(with_reducible refine y_q ?_)));(case side2 => exact HC0.out);rintro e w6 ⟨v315,rfl,ho0,hb⟩;refine ⟨_,rfl,?_⟩;have n0_:=z_a (Kd.Q_lower ho0 (z_g zB));have n1_:=z_a (z_f zB hb);clear HB;have HO316:=n0_;have HB:=n1_;clear n0_ n1_;(try clear hb);(try clear hb2);(try clear hk);(try clear hi);(try clear ho0))|((with_reducible refine gate_dst (N:=3) rfl ?_);refine box_event ?hg (N:=3) ?hd (cs:=#[.slice none 0 0,.int .i64 0]) (t:=29) ?hr ?_;(case hd => rfl);(case hg => rfl);(case hr => first|(go_simp;done)|(go_simp;rfl));intro gb319 hg w7 hbox hb;have n0_:=z_a (Kd.Q_below (by (with_reducible repeat (first|apply Kd.Q_alloc|apply Kd.Q_drewN|apply Kd.Q_drew));exact HO316.out) hb);have n1_:=z_a (z_f zB hb);have n2_:=z_a (hbox);have n3_:=z_a ((by rw [hg];exact (z_g zB) : w.heap.size ≤ gb319));have n4_:=z_a ((by rw [hg];exact (z_g zB) : w.heap.size ≤ gb319));clear HO316 HB;have HO316:=n0_;have HB:=n1_;have BK319:=n2_;have GW319:=n3_;have GE319:=n4_;clear n0_ n1_ n2_ n3_ n4_;clear hb hbox hg;obtain ⟨Ao8,co8,eo8,_⟩:=Kd.Q_slice HO316.out;subst eo8;have hcz9_0 : w7.cell? ⟨gb319,0,none⟩ = some (.slice none 0 0):=(z_b BK319.out 0).trans rfl;have hcz9_1 : w7.cell? ⟨gb319,1,none⟩ = some (.int .i64 0):=(z_b BK319.out 1).trans rfl;have hfz9_0:=z_4 BK319.out 0;have hfz9_1:=z_4 BK319.out 1)|((with_reducible refine gate_callee (f:=29) rfl ?_);refine goesL_ (some 18) rfl rfl Try.func29 (by kernel_rfl) rfl #[.agg #[.slice Ao8 t314.length co8,.int .i64 t317],.int .i64 t318] rfl (by (try simp only [z_7,List.map_cons,List.map_nil]);first|done|rfl|(simp only [z_6,z_5];rfl)) ?_;(with_reducible refine (impl_PoolDrop.calls k _ _ t314 t317 t318 t320 t323 _ ?side1 ?side2 A4.out).mono ?_);(case side1 => refine (Kd.Q_reads' (e:=41) (base:=w.heap.size) (ok:=fun k_ => True) (n:=t314.length) (c:=co8) ?_).2.2;exact (by (with_reducible repeat (first|apply Kd.Q_alloc|apply Kd.Q_drewN|apply Kd.Q_drew));exact (Kd.Q_mono (Kd.Q_far (p:=⟨gb319,1,none⟩) (Kd.Q_far (p:=⟨gb319,0,none⟩) (Kd.Q_types HO316.out BK319.out (by decide)) (fun _ hk => hk.2) (.slice Ao8 t314.length co8)) (fun _ hk => hk.2) (.int .i64 t317)) (fun _ h_ => h_.1))));(case side2 => exact (Kd.Q_reads' HO316.out).2.1);rintro e w10 ⟨v321,rfl,ho0,hb⟩;refine ⟨_,rfl,?_⟩;have n0_:=z_a (Kd.Q_elder' (by (with_reducible repeat (first|apply Kd.Q_alloc|apply Kd.Q_drewN|apply Kd.Q_drew));exact (Kd.Q_mono (Kd.Q_far (p:=⟨gb319,1,none⟩) (Kd.Q_far (p:=⟨gb319,0,none⟩) (Kd.Q_types HO316.out BK319.out (by decide)) (fun _ hk => hk.2) (.slice Ao8 t314.length co8)) (fun _ hk => hk.2) (.int .i64 t317)) (fun _ h_ => h_.1))) (Kd.R_base ho0) hb);have n1_:=z_a (Kd.R_lower (Kd.R_new' ho0 (Kd.Q_lt (by (with_reducible repeat (first|apply Kd.Q_alloc|apply Kd.Q_drewN|apply Kd.Q_drew));exact (Kd.Q_mono (Kd.Q_far (p:=⟨gb319,1,none⟩) (Kd.Q_far (p:=⟨gb319,0,none⟩) (Kd.Q_types HO316.out BK319.out (by decide)) (fun _ hk => hk.2) (.slice Ao8 t314.length co8)) (fun _ hk => hk.2) (.int .i64 t317)) (fun _ h_ => h_.1))))) (z_g zB));have n2_:=z_a (z_d (g:=gb319) (o:=.cells #[.slice Ao8 t314.length co8,.int .i64 t317] 29 (0,0)) (by (with_reducible repeat (first|refine y_b ?_ _|refine y_c ?_|refine y_d ?_ _));refine blk_put (cs:=#[.slice Ao8 t314.length co8,.int .i64 0]) ?_ 1 _ rfl;(with_reducible repeat (first|refine y_b ?_ _|refine y_c ?_|refine y_d ?_ _));refine blk_put (cs:=#[.slice none 0 0,.int .i64 0]) ?_ 0 _ rfl;(with_reducible repeat (first|refine y_b ?_ _|refine y_c ?_|refine y_d ?_ _));exact BK319.out) hb);have n3_:=z_a (z_f zB hb);clear HO316 BK319 HB;have HO316:=n0_;have HO322:=n1_;have BK319:=n2_;have HB:=n3_;clear n0_ n1_ n2_ n3_;(try clear hb);(try clear hb2);(try clear hk);(try clear hi);(try clear ho0))|((with_reducible refine gate_dst (N:=5) rfl ?_);refine box_event ?hg (N:=5) ?hd (cs:=#[.slice none 0 0,.int .i64 0]) (t:=29) ?hr ?_;(case hd => rfl);(case hg => rfl);(case hr => first|(go_simp;done)|(go_simp;rfl));intro gb324 hg w11 hbox hb;have n0_:=z_a (Kd.Q_below (by (with_reducible repeat (first|apply Kd.Q_alloc|apply Kd.Q_drewN|apply Kd.Q_drew));exact HO316.out) hb);have n1_:=z_a (Kd.R_below (by (with_reducible repeat (first|apply y_e|apply y_f|apply y_g));exact HO322.out) hb);have n2_:=z_a (z_d (g:=gb319) zK hb);have n3_:=z_a (z_f zB hb);have n4_:=z_a (hbox);have n5_:=z_a ((by rw [hg];exact (z_g zB) : w.heap.size ≤ gb324));have n6_:=z_a ((by rw [hg];exact (z_g zB) : w.heap.size ≤ gb324));have n7_:=z_a ((by rw [hg];exact Nat.ne_of_lt (blk_lt (g:=gb319) (o:=.cells #[.slice Ao8 t314.length co8,.int .i64 t317] 29 (0,0)) zK) : gb319 ≠ gb324));have n8_:=z_a ((by rw [hg];exact Nat.ne_of_gt (blk_lt (g:=gb319) (o:=.cells #[.slice Ao8 t314.length co8,.int .i64 t317] 29 (0,0)) zK) : gb324 ≠ gb319));clear HO316 HO322 BK319 HB;have HO316:=n0_;have HO322:=n1_;have BK319:=n2_;have HB:=n3_;have BK324:=n4_;have GW324:=n5_;have GE324:=n6_;have NB319_324:=n7_;have NB324_319:=n8_;clear n0_ n1_ n2_ n3_ n4_ n5_ n6_ n7_ n8_;clear hb hbox hg;obtain ⟨Ao12,co12,eo12⟩:=Kd.R_slice HO322.out;subst eo12;have hnb13:=NB324_319.out;have hnc13:=NB319_324.out;have hcz14_0 : w11.cell? ⟨gb324,0,none⟩ = some (.slice none 0 0):=(z_b BK324.out 0).trans rfl;have hcz14_1 : w11.cell? ⟨gb324,1,none⟩ = some (.int .i64 0):=(z_b BK324.out 1).trans rfl;have hfz14_0:=z_4 BK324.out 0;have hfz14_1:=z_4 BK324.out 1))
 (try simp only [Act.put,z_1,z_2,z_3])
 go_cut [29] (fun v29 wc => ∃ (kq : Nat) (x29_4 : Bool),v29 = .bool x29_4 ∧ Aside0 (laws_FnPoolDrop.j0 kq t318 x29_4 t314 t317 t320 t323 = some r) ∧ Aside0 (kq ≤ k) ∧ Aside0 (Kd.Q k41 41 wc w.heap.size (fun k_ => some k_ ≠ ((.slice Ao12 t320.length co12) : Value).ownBlock) (.slice Ao8 t314.length co8) t314) ∧ Aside0 (Kd.Q k41 41 wc w.heap.size (fun k_ => some k_ ≠ ((.slice Ao8 t314.length co8) : Value).ownBlock) (.slice Ao12 t320.length co12) t320) ∧ Aside0 (wc.heap[gb319]? = some (.cells #[(.slice Ao8 t314.length co8),.int .i64 t317] 29 (0,0))) ∧ Aside0 (wc.heap[gb324]? = some (.cells #[(.slice Ao12 t320.length co12),.int .i64 t323] 29 (0,0))) ∧ Aside0 (Below w.heap.size w wc))
 case first =>
  have H := HC5.out;clear HC5;replace H := z_8 H;obtain ⟨⟨t325, t328⟩, A150, H⟩ := H;replace H : ((laws_whPool.f k t320 t323 t325 t328).bind fun t329 => (if t329 = true then ((spec_PoolOk.f k t314 t317).bind fun t330 => (laws_FnPoolDrop.j0 k t318 (!t330) t314 t317 t320 t323)) else (laws_FnPoolDrop.j0 k t318 true t314 t317 t320 t323))) = some r:=H;have A15 := z_a A150;clear A150;replace H := z_8 H;obtain ⟨t329, A160, H⟩ := H;replace H : (if t329 = true then ((spec_PoolOk.f k t314 t317).bind fun t330 => (laws_FnPoolDrop.j0 k t318 (!t330) t314 t317 t320 t323)) else (laws_FnPoolDrop.j0 k t318 true t314 t317 t320 t323)) = some r:=H;have A16 := z_a A160;clear A160
  by_cases c17 : t329 = true
  ·subst c17;have H1 : ((spec_PoolOk.f k t314 t317).bind fun t330 => (laws_FnPoolDrop.j0 k t318 (!t330) t314 t317 t320 t323)) = some r:=by rw [if_pos rfl] at H;exact H
   clear H;have H := H1;clear H1;replace H := z_8 H;obtain ⟨t330, A180, H⟩ := H;replace H : (laws_FnPoolDrop.j0 k t318 (!t330) t314 t317 t320 t323) = some r:=H;have A18 := z_a A180;clear A180;have H' := z_a H;clear H
   try go_wp2
   have n0_ : Aside0 (Kd.Q k41 41 ((w11.setCell ⟨gb324,0,none⟩ (.slice Ao12 t320.length co12)).setCell ⟨gb324,1,none⟩ (.int .i64 t323)) w.heap.size (fun k_ => some k_ ≠ (.slice Ao12 t320.length co12 : Value).ownBlock) (.slice Ao8 t314.length co8) t314):=⟨by (with_reducible repeat (first|apply Kd.Q_alloc|apply Kd.Q_drewN|apply Kd.Q_drew));exact Kd.Q_mono (Kd.Q_far (p:=⟨gb324,1,none⟩) (Kd.Q_far (p:=⟨gb324,0,none⟩) (Kd.Q_types HO316.out BK324.out (by decide)) (fun _ hk => hk.2) (.slice Ao12 t320.length co12)) (fun _ hk => hk.2) (.int .i64 t323)) (fun _ hk => hk.1.2)⟩;have n1_ : Aside0 (Kd.R k41 41 ((w11.setCell ⟨gb324,0,none⟩ (.slice Ao12 t320.length co12)).setCell ⟨gb324,1,none⟩ (.int .i64 t323)) w.heap.size (fun k_ => some k_ ≠ (.slice Ao8 t314.length co8 : Value).ownBlock) (.slice Ao12 t320.length co12) t320):=⟨by (with_reducible repeat (first|apply y_e|apply y_f|apply y_g));exact y_t (Kd.R_far (p:=⟨gb324,1,none⟩) (Kd.R_far (p:=⟨gb324,0,none⟩) (Kd.R_types HO322.out BK324.out (by decide)) (fun _ hk => hk.2) (.slice Ao12 t320.length co12)) (fun _ hk => hk.2) (.int .i64 t323)) (fun _ hk => hk.1.2)⟩
   have n2_ : Aside0 (((w11.setCell ⟨gb324,0,none⟩ (.slice Ao12 t320.length co12)).setCell ⟨gb324,1,none⟩ (.int .i64 t323)).heap[gb319]? = some (.cells #[.slice Ao8 t314.length co8,.int .i64 t317] 29 (0,0))):=⟨by (with_reducible repeat (first|refine y_b ?_ _|refine y_c ?_|refine y_d ?_ _));refine blk_far ?_ NB319_324.out _;(with_reducible repeat (first|refine y_b ?_ _|refine y_c ?_|refine y_d ?_ _));refine blk_far ?_ NB319_324.out _;(with_reducible repeat (first|refine y_b ?_ _|refine y_c ?_|refine y_d ?_ _));exact BK319.out⟩;have n3_ : Aside0 (((w11.setCell ⟨gb324,0,none⟩ (.slice Ao12 t320.length co12)).setCell ⟨gb324,1,none⟩ (.int .i64 t323)).heap[gb324]? = some (.cells #[.slice Ao12 t320.length co12,.int .i64 t323] 29 (0,0))):=⟨by (with_reducible repeat (first|refine y_b ?_ _|refine y_c ?_|refine y_d ?_ _));refine blk_put (cs:=#[.slice Ao12 t320.length co12,.int .i64 0]) ?_ 1 _ rfl;(with_reducible repeat (first|refine y_b ?_ _|refine y_c ?_|refine y_d ?_ _));refine blk_put (cs:=#[.slice none 0 0,.int .i64 0]) ?_ 0 _ rfl;(with_reducible repeat (first|refine y_b ?_ _|refine y_c ?_|refine y_d ?_ _));exact BK324.out⟩;have n4_ : Aside0 (Below w.heap.size w ((w11.setCell ⟨gb324,0,none⟩ (.slice Ao12 t320.length co12)).setCell ⟨gb324,1,none⟩ (.int .i64 t323))):=⟨zB⟩;(try clear HO316);(try clear HO322);(try clear BK319);(try clear BK324)
   (try clear HB);generalize ((w11.setCell ⟨gb324,0,none⟩ (.slice Ao12 t320.length co12)).setCell ⟨gb324,1,none⟩ (.int .i64 t323)) = w19 at n0_ n1_ n2_ n3_ n4_ ⊢;have HO316 := n0_;have HO322 := n1_;have BK319 := n2_;have BK324 := n3_;have HB := n4_;clear n0_ n1_ n2_ n3_ n4_;have n0_ := z_a (Kd.Q_drew HO316.out);have n1_ := z_a (y_g HO322.out);have n2_ := z_a (y_c BK319.out);have n3_ := z_a (y_c BK324.out);have n4_ := z_a (y_j HB.out);clear HO316;clear HO322;clear BK319;clear BK324;clear HB;have HO316 := n0_;have HO322 := n1_;have BK319 := n2_;have BK324 := n3_;have HB := n4_;clear n0_ n1_ n2_ n3_ n4_;refine start_ (n:=11) (S:=fun w' => w'.cell? ⟨gb324,0,none⟩ = some (.slice Ao12 t320.length co12) ∧ w'.cell? ⟨gb324,1,none⟩ = some (.int .i64 t323) ∧ w'.cell? ⟨gb319,0,none⟩ = some (.slice Ao8 t314.length co8) ∧ w'.cell? ⟨gb319,1,none⟩ = some (.int .i64 t317)) (ds:=[]) #[false,false,false,false,false,false,false,false,false,false,false] (by kernel_rfl) rfl rfl ⟨(z_b BK324.out 0).trans rfl,(z_b BK324.out 1).trans rfl,(z_b BK319.out 0).trans rfl,(z_b BK319.out 1).trans rfl⟩ (fun hHeld => ?_);refine with_tabW laws_FnPoolDrop.tab5 laws_FnPoolDrop.bits5 (fun HT_ HW_ => ?_);generalize w19.drew = w20 at HO316 HO322 BK319 BK324 HB hHeld ⊢;refine pure_ (i:=2) (N:=some 21) (v:=?_) (a':=?_) (Mb 11 4) rfl rfl (any_of HT_.out (by kernel_rfl)) (fun _ _ _ h => h) (Or.inl ⟨by rfl,?_⟩) ?_ ?_;rotate_left
   ·intro w';go_simp;with_reducible rfl
   rotate_left
   ·simp only [Act.put,z_1,z_2,z_3,i64_w,i32_w];rfl
   refine take_ (i:=0) (N:=some 19) (v:=?_) (a':=?_) (Mb 11 5) rfl rfl (take_ofW HT_.out HW_.out (by kernel_rfl)) (fun _ _ _ h => h) (Or.inl ⟨by rfl,?_⟩) hHeld ?_ ?_;rotate_left
   ·rintro w' ⟨s0, s1, s2, s3⟩;go_simp;with_reducible rfl
   rotate_left
   ·simp only [Act.put,z_1,z_2,z_3,i64_w,i32_w];rfl
   refine take_ (i:=1) (N:=some 20) (v:=?_) (a':=?_) (Mb 11 7) rfl rfl (take_ofW HT_.out HW_.out (by kernel_rfl)) (fun _ _ _ h => h) (Or.inl ⟨by rfl,?_⟩) hHeld ?_ ?_;rotate_left
   ·rintro w' ⟨s0, s1, s2, s3⟩;go_simp;with_reducible rfl
   rotate_left
   ·simp only [Act.put,z_1,z_2,z_3,i64_w,i32_w];rfl
   refine one_ (i:=3) (N:=some 22) (Mb 11 15) rfl rfl (one_of HT_.out (by kernel_rfl)) (by decide) (fun K hK => ?_);refine goes_ Try.func28 (by kernel_rfl) rfl #[.agg #[.slice Ao8 t314.length co8,.int .i64 t317],.int .i64 t318] (by rfl) rfl rfl (by (try simp only [z_7,List.map_cons,List.map_nil]);first|done|rfl|(simp only [z_6,z_5];rfl)) ?_;with_reducible refine (spec_PoolDrop.calls k _ _ t314 t317 t318 t325 t328 _ ?side1 ?side2 A15.out).mono ?_
   (case side1 => repeat (first|exact (Kd.Q_reads' HO316.out).2.2|(with_reducible refine y_o ?_ _)|(with_reducible refine y_p ?_ _)|(with_reducible refine y_q ?_)))
   (case side2 => exact (Kd.Q_reads' HO316.out).2.1)
   rintro e w21 ⟨v326, rfl, ho0, hb⟩;refine ⟨_, rfl, ?_⟩;have n0_:=z_a (Kd.Q_elder' (by (with_reducible repeat (first|apply Kd.Q_alloc|apply Kd.Q_drewN|apply Kd.Q_drew));exact HO316.out) (Kd.R_base ho0) hb);have n1_:=z_a (Kd.R_elder' (by (with_reducible repeat (first|apply y_e|apply y_f|apply y_g));exact HO322.out) (Kd.R_base ho0) hb);have n2_:=z_a (Kd.R_lower (Kd.R_new' (Kd.R_new' ho0 (Kd.Q_lt (by (with_reducible repeat (first|apply Kd.Q_alloc|apply Kd.Q_drewN|apply Kd.Q_drew));exact HO316.out))) (Kd.R_lt (by (with_reducible repeat (first|apply y_e|apply y_f|apply y_g));exact HO322.out))) (z_g zB));have n3_:=z_a (z_d (g:=gb319) zK hb);have n4_:=z_a (z_d (g:=gb324) zK hb);have n5_:=z_a (z_f zB hb);clear HO316;clear HO322;clear BK319;clear BK324;clear HB;have HO316 := n0_;have HO322 := n1_;have HO327 := n2_;have BK319 := n3_;have BK324 := n4_;have HB := n5_
   clear n0_ n1_ n2_ n3_ n4_ n5_;(try clear hb);(try clear hb2);(try clear hk);(try clear hi);(try clear ho0);obtain ⟨Ao22, co22, eo22⟩ := Kd.R_slice HO327.out
   (first|subst eo22|(injection eo22 with f1_ f2_ f3_;have f4_:=f1_.symm;have f5_:=f3_.symm;clear f1_ f2_ f3_;subst f4_;subst f5_))
   refine hK.out _ _ ⟨(z_b BK324.out 0).trans rfl,(z_b BK324.out 1).trans rfl,(z_b BK319.out 0).trans rfl,(z_b BK319.out 1).trans rfl⟩ (fun hHeld => ?_);clear hK K;refine norm_ (a' := ?_) ?_ ?_;rotate_left
   ·show Act.put _ (some 22) _ = _;simp only [Act.put,z_1,z_2,z_3,i64_w,i32_w];rfl
   refine one_ (i:=4) (N:=some 23) (Mb 11 31) rfl rfl (one_of HT_.out (by kernel_rfl)) (by decide) (fun K hK => ?_);refine goes_ Try.func25 (by kernel_rfl) rfl #[.agg #[.slice Ao12 t320.length co12,.int .i64 t323],.agg #[.slice Ao22 t325.length co22,.int .i64 t328]] (by rfl) rfl rfl (by (try simp only [z_7,List.map_cons,List.map_nil]);first|done|rfl|(simp only [z_6,z_5];rfl)) ?_;with_reducible refine (laws_whPool.calls k _ _ t320 t323 _ _ t325 t328 true _ ?side1 ?side2 ?side3 ?side4 A16.out).mono ?_
   (case side1 => repeat (first|exact (Kd.R_reads' HO322.out).2.2|(with_reducible refine y_o ?_ _)|(with_reducible refine y_p ?_ _)|(with_reducible refine y_q ?_)))
   (case side2 => exact (Kd.R_reads' HO322.out).2.1)
   (case side3 => repeat (first|exact (Kd.R_reads' HO327.out).2.2|(with_reducible refine y_o ?_ _)|(with_reducible refine y_p ?_ _)|(with_reducible refine y_q ?_)))
   (case side4 => exact (Kd.R_reads' HO327.out).2.1)
   rintro e w23 ⟨rfl, hb⟩;refine ⟨_, rfl, ?_⟩;have n0_:=z_a (Kd.Q_below (by (with_reducible repeat (first|apply Kd.Q_alloc|apply Kd.Q_drewN|apply Kd.Q_drew));exact HO316.out) hb);have n1_:=z_a (Kd.R_below (by (with_reducible repeat (first|apply y_e|apply y_f|apply y_g));exact HO322.out) hb);have n2_:=z_a (Kd.R_below (by (with_reducible repeat (first|apply y_e|apply y_f|apply y_g));exact HO327.out) hb);have n3_:=z_a (z_d (g:=gb319) zK hb);have n4_:=z_a (z_d (g:=gb324) zK hb);have n5_:=z_a (z_f zB hb);clear HO316;clear HO322;clear HO327;clear BK319;clear BK324;clear HB;have HO316 := n0_;have HO322 := n1_;have HO327 := n2_;have BK319 := n3_;have BK324 := n4_;have HB := n5_;clear n0_ n1_ n2_ n3_ n4_ n5_;(try clear hb);(try clear hb2);(try clear hk);(try clear hi);refine hK.out _ _ ⟨(z_b BK324.out 0).trans rfl,(z_b BK324.out 1).trans rfl,(z_b BK319.out 0).trans rfl,(z_b BK319.out 1).trans rfl⟩ (fun hHeld => ?_);clear hK K;refine norm_ (a' := ?_) ?_ ?_;rotate_left
   ·show Act.put _ (some 23) _ = _;simp only [Act.put,z_1,z_2,z_3,i64_w,i32_w];rfl
   refine pure_ (i:=5) (N:=some 24) (v:=?_) (a':=?_) (Mb 11 63) rfl rfl (any_of HT_.out (by kernel_rfl)) (fun _ _ _ h => h) (Or.inl ⟨by rfl,?_⟩) ?_ ?_;rotate_left
   ·intro w';go_simp;with_reducible rfl
   rotate_left
   ·simp only [Act.put,z_1,z_2,z_3,i64_w,i32_w];rfl
   refine pure_ (i:=6) (N:=some 25) (v:=?_) (a':=?_) (Mb 11 127) rfl rfl (any_of HT_.out (by kernel_rfl)) (fun _ _ _ h => h) (Or.inl ⟨by rfl,?_⟩) ?_ ?_;rotate_left
   ·intro w';go_simp;with_reducible rfl
   rotate_left
   ·simp only [Act.put,z_1,z_2,z_3,i64_w,i32_w];rfl
   refine take_ (i:=7) (N:=some 26) (v:=?_) (a':=?_) (Mb 11 255) rfl rfl (take_ofW HT_.out HW_.out (by kernel_rfl)) (fun _ _ _ h => h) (Or.inl ⟨by rfl,?_⟩) hHeld ?_ ?_;rotate_left
   ·rintro w' ⟨s0, s1, s2, s3⟩;go_simp;with_reducible rfl
   rotate_left
   ·simp only [Act.put,z_1,z_2,z_3,i64_w,i32_w];rfl
   refine one_ (i:=8) (N:=some 27) (Mb 11 511) rfl rfl (one_of HT_.out (by kernel_rfl)) (by decide) (fun K hK => ?_);refine goes_ Try.func16 (by kernel_rfl) rfl #[.agg #[.slice Ao8 t314.length co8,.int .i64 t317]] (by rfl) rfl rfl (by (try simp only [z_7,List.map_cons,List.map_nil]);first|done|rfl|(simp only [z_6,z_5];rfl)) ?_;with_reducible refine (spec_PoolOk.calls k _ _ t314 t317 t330 _ ?side1 ?side2 A18.out).mono ?_
   (case side1 => repeat (first|exact (Kd.Q_reads' HO316.out).2.2|(with_reducible refine y_o ?_ _)|(with_reducible refine y_p ?_ _)|(with_reducible refine y_q ?_)))
   (case side2 => exact (Kd.Q_reads' HO316.out).2.1)
   rintro e w24 ⟨rfl, hb⟩;refine ⟨_, rfl, ?_⟩;have n0_:=z_a (Kd.Q_below (by (with_reducible repeat (first|apply Kd.Q_alloc|apply Kd.Q_drewN|apply Kd.Q_drew));exact HO316.out) hb);have n1_:=z_a (Kd.R_below (by (with_reducible repeat (first|apply y_e|apply y_f|apply y_g));exact HO322.out) hb);have n2_:=z_a (Kd.R_below (by (with_reducible repeat (first|apply y_e|apply y_f|apply y_g));exact HO327.out) hb);have n3_:=z_a (z_d (g:=gb319) zK hb);have n4_:=z_a (z_d (g:=gb324) zK hb);have n5_:=z_a (z_f zB hb);clear HO316;clear HO322;clear HO327;clear BK319;clear BK324;clear HB;have HO316 := n0_;have HO322 := n1_;have HO327 := n2_;have BK319 := n3_;have BK324 := n4_;have HB := n5_;clear n0_ n1_ n2_ n3_ n4_ n5_;(try clear hb);(try clear hb2);(try clear hk);(try clear hi);refine hK.out _ _ ⟨(z_b BK324.out 0).trans rfl,(z_b BK324.out 1).trans rfl,(z_b BK319.out 0).trans rfl,(z_b BK319.out 1).trans rfl⟩ (fun hHeld => ?_);clear hK K;refine norm_ (a' := ?_) ?_ ?_;rotate_left
   ·show Act.put _ (some 27) _ = _;simp only [Act.put,z_1,z_2,z_3,i64_w,i32_w];rfl
   refine pure_ (i:=9) (N:=some 28) (v:=?_) (a':=?_) (Mb 11 1023) rfl rfl (any_of HT_.out (by kernel_rfl)) (fun _ _ _ h => h) (Or.inl ⟨by rfl,?_⟩) ?_ ?_;rotate_left
   ·intro w';go_simp;with_reducible rfl
   rotate_left
   ·simp only [Act.put,z_1,z_2,z_3,i64_w,i32_w];rfl
   refine pure_ (i:=10) (N:=some 29) (v:=?_) (a':=?_) (Mb 11 2047) rfl rfl (any_of HT_.out (by kernel_rfl)) (fun _ _ _ h => h) (Or.inl ⟨by rfl,?_⟩) ?_ ?_;rotate_left
   ·intro w';go_simp;with_reducible rfl
   rotate_left
   ·simp only [Act.put,z_1,z_2,z_3,i64_w,i32_w];rfl
   refine done_ (done_of HT_.out (by kernel_rfl)) ?_
   try go_wp2
   go_meet
   case rel => exact ⟨_,(!t330),(by first|rfl|(simp;done)|(simp [*];done)),H',⟨by first|omega|exact Nat.le_refl _⟩,⟨by (with_reducible repeat (first|apply Kd.Q_alloc|apply Kd.Q_drewN|apply Kd.Q_drew));exact Kd.Q_mono HO316.out (fun _ hk => hk.1)⟩,⟨Kd.Q_of_R (by (with_reducible repeat (first|apply y_e|apply y_f|apply y_g));exact y_t HO322.out (fun _ hk => hk.1))⟩,⟨by (with_reducible repeat (first|refine y_b ?_ _|refine y_c ?_|refine y_d ?_ _));exact BK319.out⟩,⟨by (with_reducible repeat (first|refine y_b ?_ _|refine y_c ?_|refine y_d ?_ _));exact BK324.out⟩,⟨zB⟩⟩
  replace c17 := Bool.eq_false_iff.mpr c17;subst c17;have H1 : (laws_FnPoolDrop.j0 k t318 true t314 t317 t320 t323) = some r:=by rw [if_neg (show ¬ (false = true) by decide)] at H;exact H
  clear H;have H := H1;clear H1;have H' := z_a H;clear H
  try go_wp2
  have n0_ : Aside0 (Kd.Q k41 41 ((w11.setCell ⟨gb324,0,none⟩ (.slice Ao12 t320.length co12)).setCell ⟨gb324,1,none⟩ (.int .i64 t323)) w.heap.size (fun k_ => some k_ ≠ (.slice Ao12 t320.length co12 : Value).ownBlock) (.slice Ao8 t314.length co8) t314):=⟨by (with_reducible repeat (first|apply Kd.Q_alloc|apply Kd.Q_drewN|apply Kd.Q_drew));exact Kd.Q_mono (Kd.Q_far (p:=⟨gb324,1,none⟩) (Kd.Q_far (p:=⟨gb324,0,none⟩) (Kd.Q_types HO316.out BK324.out (by decide)) (fun _ hk => hk.2) (.slice Ao12 t320.length co12)) (fun _ hk => hk.2) (.int .i64 t323)) (fun _ hk => hk.1.2)⟩;have n1_ : Aside0 (Kd.R k41 41 ((w11.setCell ⟨gb324,0,none⟩ (.slice Ao12 t320.length co12)).setCell ⟨gb324,1,none⟩ (.int .i64 t323)) w.heap.size (fun k_ => some k_ ≠ (.slice Ao8 t314.length co8 : Value).ownBlock) (.slice Ao12 t320.length co12) t320):=⟨by (with_reducible repeat (first|apply y_e|apply y_f|apply y_g));exact y_t (Kd.R_far (p:=⟨gb324,1,none⟩) (Kd.R_far (p:=⟨gb324,0,none⟩) (Kd.R_types HO322.out BK324.out (by decide)) (fun _ hk => hk.2) (.slice Ao12 t320.length co12)) (fun _ hk => hk.2) (.int .i64 t323)) (fun _ hk => hk.1.2)⟩
  have n2_ : Aside0 (((w11.setCell ⟨gb324,0,none⟩ (.slice Ao12 t320.length co12)).setCell ⟨gb324,1,none⟩ (.int .i64 t323)).heap[gb319]? = some (.cells #[.slice Ao8 t314.length co8,.int .i64 t317] 29 (0,0))):=⟨by (with_reducible repeat (first|refine y_b ?_ _|refine y_c ?_|refine y_d ?_ _));refine blk_far ?_ NB319_324.out _;(with_reducible repeat (first|refine y_b ?_ _|refine y_c ?_|refine y_d ?_ _));refine blk_far ?_ NB319_324.out _;(with_reducible repeat (first|refine y_b ?_ _|refine y_c ?_|refine y_d ?_ _));exact BK319.out⟩;have n3_ : Aside0 (((w11.setCell ⟨gb324,0,none⟩ (.slice Ao12 t320.length co12)).setCell ⟨gb324,1,none⟩ (.int .i64 t323)).heap[gb324]? = some (.cells #[.slice Ao12 t320.length co12,.int .i64 t323] 29 (0,0))):=⟨by (with_reducible repeat (first|refine y_b ?_ _|refine y_c ?_|refine y_d ?_ _));refine blk_put (cs:=#[.slice Ao12 t320.length co12,.int .i64 0]) ?_ 1 _ rfl;(with_reducible repeat (first|refine y_b ?_ _|refine y_c ?_|refine y_d ?_ _));refine blk_put (cs:=#[.slice none 0 0,.int .i64 0]) ?_ 0 _ rfl;(with_reducible repeat (first|refine y_b ?_ _|refine y_c ?_|refine y_d ?_ _));exact BK324.out⟩;have n4_ : Aside0 (Below w.heap.size w ((w11.setCell ⟨gb324,0,none⟩ (.slice Ao12 t320.length co12)).setCell ⟨gb324,1,none⟩ (.int .i64 t323))):=⟨zB⟩;(try clear HO316);(try clear HO322);(try clear BK319);(try clear BK324)
  (try clear HB);generalize ((w11.setCell ⟨gb324,0,none⟩ (.slice Ao12 t320.length co12)).setCell ⟨gb324,1,none⟩ (.int .i64 t323)) = w25 at n0_ n1_ n2_ n3_ n4_ ⊢;have HO316 := n0_;have HO322 := n1_;have BK319 := n2_;have BK324 := n3_;have HB := n4_;clear n0_ n1_ n2_ n3_ n4_;have n0_ := z_a (Kd.Q_drew HO316.out);have n1_ := z_a (y_g HO322.out);have n2_ := z_a (y_c BK319.out);have n3_ := z_a (y_c BK324.out);have n4_ := z_a (y_j HB.out);clear HO316;clear HO322;clear BK319;clear BK324;clear HB;have HO316 := n0_;have HO322 := n1_;have BK319 := n2_;have BK324 := n3_;have HB := n4_;clear n0_ n1_ n2_ n3_ n4_;refine start_ (n:=11) (S:=fun w' => w'.cell? ⟨gb324,0,none⟩ = some (.slice Ao12 t320.length co12) ∧ w'.cell? ⟨gb324,1,none⟩ = some (.int .i64 t323) ∧ w'.cell? ⟨gb319,0,none⟩ = some (.slice Ao8 t314.length co8) ∧ w'.cell? ⟨gb319,1,none⟩ = some (.int .i64 t317)) (ds:=[]) #[false,false,false,false,false,false,false,false,false,false,false] (by kernel_rfl) rfl rfl ⟨(z_b BK324.out 0).trans rfl,(z_b BK324.out 1).trans rfl,(z_b BK319.out 0).trans rfl,(z_b BK319.out 1).trans rfl⟩ (fun hHeld => ?_);refine with_tabW laws_FnPoolDrop.tab5 laws_FnPoolDrop.bits5 (fun HT_ HW_ => ?_);generalize w25.drew = w26 at HO316 HO322 BK319 BK324 HB hHeld ⊢;refine pure_ (i:=2) (N:=some 21) (v:=?_) (a':=?_) (Mb 11 4) rfl rfl (any_of HT_.out (by kernel_rfl)) (fun _ _ _ h => h) (Or.inl ⟨by rfl,?_⟩) ?_ ?_;rotate_left
  ·intro w';go_simp;with_reducible rfl
  rotate_left
  ·simp only [Act.put,z_1,z_2,z_3,i64_w,i32_w];rfl
  refine take_ (i:=0) (N:=some 19) (v:=?_) (a':=?_) (Mb 11 5) rfl rfl (take_ofW HT_.out HW_.out (by kernel_rfl)) (fun _ _ _ h => h) (Or.inl ⟨by rfl,?_⟩) hHeld ?_ ?_;rotate_left
  ·rintro w' ⟨s0, s1, s2, s3⟩;go_simp;with_reducible rfl
  rotate_left
  ·simp only [Act.put,z_1,z_2,z_3,i64_w,i32_w];rfl
  refine take_ (i:=1) (N:=some 20) (v:=?_) (a':=?_) (Mb 11 7) rfl rfl (take_ofW HT_.out HW_.out (by kernel_rfl)) (fun _ _ _ h => h) (Or.inl ⟨by rfl,?_⟩) hHeld ?_ ?_;rotate_left
  ·rintro w' ⟨s0, s1, s2, s3⟩;go_simp;with_reducible rfl
  rotate_left
  ·simp only [Act.put,z_1,z_2,z_3,i64_w,i32_w];rfl
  refine one_ (i:=3) (N:=some 22) (Mb 11 15) rfl rfl (one_of HT_.out (by kernel_rfl)) (by decide) (fun K hK => ?_);refine goes_ Try.func28 (by kernel_rfl) rfl #[.agg #[.slice Ao8 t314.length co8,.int .i64 t317],.int .i64 t318] (by rfl) rfl rfl (by (try simp only [z_7,List.map_cons,List.map_nil]);first|done|rfl|(simp only [z_6,z_5];rfl)) ?_;with_reducible refine (spec_PoolDrop.calls k _ _ t314 t317 t318 t325 t328 _ ?side1 ?side2 A15.out).mono ?_
  (case side1 => repeat (first|exact (Kd.Q_reads' HO316.out).2.2|(with_reducible refine y_o ?_ _)|(with_reducible refine y_p ?_ _)|(with_reducible refine y_q ?_)))
  (case side2 => exact (Kd.Q_reads' HO316.out).2.1)
  rintro e w27 ⟨v326, rfl, ho0, hb⟩;refine ⟨_, rfl, ?_⟩;have n0_:=z_a (Kd.Q_elder' (by (with_reducible repeat (first|apply Kd.Q_alloc|apply Kd.Q_drewN|apply Kd.Q_drew));exact HO316.out) (Kd.R_base ho0) hb);have n1_:=z_a (Kd.R_elder' (by (with_reducible repeat (first|apply y_e|apply y_f|apply y_g));exact HO322.out) (Kd.R_base ho0) hb);have n2_:=z_a (Kd.R_lower (Kd.R_new' (Kd.R_new' ho0 (Kd.Q_lt (by (with_reducible repeat (first|apply Kd.Q_alloc|apply Kd.Q_drewN|apply Kd.Q_drew));exact HO316.out))) (Kd.R_lt (by (with_reducible repeat (first|apply y_e|apply y_f|apply y_g));exact HO322.out))) (z_g zB));have n3_:=z_a (z_d (g:=gb319) zK hb);have n4_:=z_a (z_d (g:=gb324) zK hb);have n5_:=z_a (z_f zB hb);clear HO316;clear HO322;clear BK319;clear BK324;clear HB;have HO316 := n0_;have HO322 := n1_;have HO327 := n2_;have BK319 := n3_;have BK324 := n4_;have HB := n5_
  clear n0_ n1_ n2_ n3_ n4_ n5_;(try clear hb);(try clear hb2);(try clear hk);(try clear hi);(try clear ho0);obtain ⟨Ao28, co28, eo28⟩ := Kd.R_slice HO327.out
  (first|subst eo28|(injection eo28 with f1_ f2_ f3_;have f4_:=f1_.symm;have f5_:=f3_.symm;clear f1_ f2_ f3_;subst f4_;subst f5_))
  refine hK.out _ _ ⟨(z_b BK324.out 0).trans rfl,(z_b BK324.out 1).trans rfl,(z_b BK319.out 0).trans rfl,(z_b BK319.out 1).trans rfl⟩ (fun hHeld => ?_);clear hK K;refine norm_ (a' := ?_) ?_ ?_;rotate_left
  ·show Act.put _ (some 22) _ = _;simp only [Act.put,z_1,z_2,z_3,i64_w,i32_w];rfl
  refine one_ (i:=4) (N:=some 23) (Mb 11 31) rfl rfl (one_of HT_.out (by kernel_rfl)) (by decide) (fun K hK => ?_);refine goes_ Try.func25 (by kernel_rfl) rfl #[.agg #[.slice Ao12 t320.length co12,.int .i64 t323],.agg #[.slice Ao28 t325.length co28,.int .i64 t328]] (by rfl) rfl rfl (by (try simp only [z_7,List.map_cons,List.map_nil]);first|done|rfl|(simp only [z_6,z_5];rfl)) ?_;with_reducible refine (laws_whPool.calls k _ _ t320 t323 _ _ t325 t328 false _ ?side1 ?side2 ?side3 ?side4 A16.out).mono ?_
  (case side1 => repeat (first|exact (Kd.R_reads' HO322.out).2.2|(with_reducible refine y_o ?_ _)|(with_reducible refine y_p ?_ _)|(with_reducible refine y_q ?_)))
  (case side2 => exact (Kd.R_reads' HO322.out).2.1)
  (case side3 => repeat (first|exact (Kd.R_reads' HO327.out).2.2|(with_reducible refine y_o ?_ _)|(with_reducible refine y_p ?_ _)|(with_reducible refine y_q ?_)))
  (case side4 => exact (Kd.R_reads' HO327.out).2.1)
  rintro e w29 ⟨rfl, hb⟩;refine ⟨_, rfl, ?_⟩;have n0_:=z_a (Kd.Q_below (by (with_reducible repeat (first|apply Kd.Q_alloc|apply Kd.Q_drewN|apply Kd.Q_drew));exact HO316.out) hb);have n1_:=z_a (Kd.R_below (by (with_reducible repeat (first|apply y_e|apply y_f|apply y_g));exact HO322.out) hb);have n2_:=z_a (Kd.R_below (by (with_reducible repeat (first|apply y_e|apply y_f|apply y_g));exact HO327.out) hb);have n3_:=z_a (z_d (g:=gb319) zK hb);have n4_:=z_a (z_d (g:=gb324) zK hb);have n5_:=z_a (z_f zB hb);clear HO316;clear HO322;clear HO327;clear BK319;clear BK324;clear HB;have HO316 := n0_;have HO322 := n1_;have HO327 := n2_;have BK319 := n3_;have BK324 := n4_;have HB := n5_;clear n0_ n1_ n2_ n3_ n4_ n5_;(try clear hb);(try clear hb2);(try clear hk);(try clear hi);refine hK.out _ _ ⟨(z_b BK324.out 0).trans rfl,(z_b BK324.out 1).trans rfl,(z_b BK319.out 0).trans rfl,(z_b BK319.out 1).trans rfl⟩ (fun hHeld => ?_);clear hK K;refine norm_ (a' := ?_) ?_ ?_;rotate_left
  ·show Act.put _ (some 23) _ = _;simp only [Act.put,z_1,z_2,z_3,i64_w,i32_w];rfl
  refine pure_ (i:=5) (N:=some 24) (v:=?_) (a':=?_) (Mb 11 63) rfl rfl (any_of HT_.out (by kernel_rfl)) (fun _ _ _ h => h) (Or.inl ⟨by rfl,?_⟩) ?_ ?_;rotate_left
  ·intro w';go_simp;with_reducible rfl
  rotate_left
  ·simp only [Act.put,z_1,z_2,z_3,i64_w,i32_w];rfl
  refine pure_ (i:=6) (N:=some 25) (v:=?_) (a':=?_) (Mb 11 127) rfl rfl (any_of HT_.out (by kernel_rfl)) (fun _ _ _ h => h) (Or.inl ⟨by rfl,?_⟩) ?_ ?_;rotate_left
  ·intro w';go_simp;with_reducible rfl
  rotate_left
  ·simp only [Act.put,z_1,z_2,z_3,i64_w,i32_w];rfl
  refine pure_ (i:=7) (N:=some 26) (v:=undef) (a':=?_) (Mb 11 255) rfl rfl (any_of HT_.out (by kernel_rfl)) (fun _ _ _ h => h) (Or.inr ⟨by rfl,rfl⟩) ?_ ?_;rotate_left
  ·simp only [Act.put,z_1,z_2,z_3,i64_w,i32_w];rfl
  refine pure_ (i:=8) (N:=some 27) (v:=undef) (a':=?_) (Mb 11 511) rfl rfl (any_of HT_.out (by kernel_rfl)) (fun _ _ _ h => h) (Or.inr ⟨by rfl,rfl⟩) ?_ ?_;rotate_left
  ·simp only [Act.put,z_1,z_2,z_3,i64_w,i32_w];rfl
  refine pure_ (i:=9) (N:=some 28) (v:=undef) (a':=?_) (Mb 11 1023) rfl rfl (any_of HT_.out (by kernel_rfl)) (fun _ _ _ h => h) (Or.inr ⟨by rfl,rfl⟩) ?_ ?_;rotate_left
  ·simp only [Act.put,z_1,z_2,z_3,i64_w,i32_w];rfl
  refine pure_ (i:=10) (N:=some 29) (v:=?_) (a':=?_) (Mb 11 2047) rfl rfl (any_of HT_.out (by kernel_rfl)) (fun _ _ _ h => h) (Or.inl ⟨by rfl,?_⟩) ?_ ?_;rotate_left
  ·intro w';go_simp;with_reducible rfl
  rotate_left
  ·simp only [Act.put,z_1,z_2,z_3,i64_w,i32_w];rfl
  refine done_ (done_of HT_.out (by kernel_rfl)) ?_
  try go_wp2
  go_meet
  case rel => exact ⟨_,(true),(by first|rfl|(simp;done)|(simp [*];done)),H',⟨by first|omega|exact Nat.le_refl _⟩,⟨by (with_reducible repeat (first|apply Kd.Q_alloc|apply Kd.Q_drewN|apply Kd.Q_drew));exact Kd.Q_mono HO316.out (fun _ hk => hk.1)⟩,⟨Kd.Q_of_R (by (with_reducible repeat (first|apply y_e|apply y_f|apply y_g));exact y_t HO322.out (fun _ hk => hk.1))⟩,⟨by (with_reducible repeat (first|refine y_b ?_ _|refine y_c ?_|refine y_d ?_ _));exact BK319.out⟩,⟨by (with_reducible repeat (first|refine y_b ?_ _|refine y_c ?_|refine y_d ?_ _));exact BK324.out⟩,⟨zB⟩⟩
 case rest =>
  clear HC5
  try clear c1
  try clear c2
  try clear c2b0
  try clear c2b1
  try clear p2
  try clear c3
  try clear c8
  try clear c13
  try clear c16
  try clear c17
  try clear c25
  try clear c28
  try clear c29
  try clear hcz14_0
  try clear hcz14_1
  try clear hcz9_0
  try clear hcz9_1
  try clear hfz14_0
  try clear hfz14_1
  try clear hfz9_0
  try clear hfz9_1
  obtain ⟨kq,x29_4,rfl,HA,HJ4,HO_320000,HO_325000,BK319,BK324,HB⟩:=hcut;cases kq with
  | zero => exact absurd HA.out (by simp [laws_FnPoolDrop.j0])
  | succ kj4 =>
   have H := HA.out;clear HA;simp only [laws_FnPoolDrop.j0] at H
   by_cases c30 : x29_4 = true
   ·subst c30;have H1 : ((spec_PoolDrop.f kj4 t314 t317 t318).bind fun bt331 => ((laws_whPool.f kj4 t320 t323 bt331.1 bt331.2).bind fun t335 => (some t335))) = some r:=by rw [if_pos rfl] at H;exact H
    clear H;have H := H1;clear H1;replace H := z_8 H;obtain ⟨⟨t331, t334⟩, A310, H⟩ := H;replace H : ((laws_whPool.f kj4 t320 t323 t331 t334).bind fun t335 => (some t335)) = some r:=H;have A31 := z_a A310;clear A310;replace H := z_8 H;obtain ⟨t335, A320, H⟩ := H;replace H : (some t335) = some r := H;have A32 := z_a A320;clear A320;obtain rfl := Option.some.inj H
    try go_wp2
    have n0_ := z_a (Kd.Q_drew HO_320000.out);have n1_ := z_a (Kd.Q_drew HO_325000.out);have n2_ := z_a (y_c BK319.out);have n3_ := z_a (y_c BK324.out);have n4_ := z_a (y_j HB.out);clear HO_320000;clear HO_325000;clear BK319;clear BK324;clear HB;have HO_320000 := n0_;have HO_325000 := n1_;have BK319 := n2_;have BK324 := n3_;have HB := n4_;clear n0_ n1_ n2_ n3_ n4_;refine start_ (n:=6) (S:=fun w' => w'.cell? ⟨gb324,0,none⟩ = some (.slice Ao12 t320.length co12) ∧ w'.cell? ⟨gb324,1,none⟩ = some (.int .i64 t323) ∧ w'.cell? ⟨gb319,0,none⟩ = some (.slice Ao8 t314.length co8) ∧ w'.cell? ⟨gb319,1,none⟩ = some (.int .i64 t317)) (ds:=[]) #[false,false,false,false,false,false] (by kernel_rfl) rfl rfl ⟨(z_b BK324.out 0).trans rfl,(z_b BK324.out 1).trans rfl,(z_b BK319.out 0).trans rfl,(z_b BK319.out 1).trans rfl⟩ (fun hHeld => ?_);generalize wc.drew = w33 at HO_320000 HO_325000 BK319 BK324 HB hHeld ⊢;refine pure_ (i:=2) (N:=some 32) (v:=?_) (a':=?_) (Mb 6 4) rfl rfl (by kernel_rfl) (fun _ _ _ h => h) (Or.inl ⟨by rfl,?_⟩) ?_ ?_;rotate_left
    ·intro w';go_simp;with_reducible rfl
    rotate_left
    ·simp only [Act.put,z_1,z_2,z_3,i64_w,i32_w];rfl
    refine take_ (i:=0) (N:=some 30) (v:=?_) (a':=?_) (Mb 6 5) rfl rfl (by kernel_rfl) (fun _ _ _ h => h) (Or.inl ⟨by rfl,?_⟩) hHeld ?_ ?_;rotate_left
    ·rintro w' ⟨s0, s1, s2, s3⟩;go_simp;with_reducible rfl
    rotate_left
    ·simp only [Act.put,z_1,z_2,z_3,i64_w,i32_w];rfl
    refine take_ (i:=1) (N:=some 31) (v:=?_) (a':=?_) (Mb 6 7) rfl rfl (by kernel_rfl) (fun _ _ _ h => h) (Or.inl ⟨by rfl,?_⟩) hHeld ?_ ?_;rotate_left
    ·rintro w' ⟨s0, s1, s2, s3⟩;go_simp;with_reducible rfl
    rotate_left
    ·simp only [Act.put,z_1,z_2,z_3,i64_w,i32_w];rfl
    refine one_ (i:=3) (N:=some 33) (Mb 6 15) rfl rfl (by kernel_rfl) (by decide) (fun K hK => ?_);refine goes_ Try.func28 (by kernel_rfl) rfl #[.agg #[.slice Ao8 t314.length co8,.int .i64 t317],.int .i64 t318] (by rfl) rfl rfl (by (try simp only [z_7,List.map_cons,List.map_nil]);first|done|rfl|(simp only [z_6,z_5];rfl)) ?_;with_reducible refine (spec_PoolDrop.calls kj4 _ _ t314 t317 t318 t331 t334 _ ?side1 ?side2 A31.out).mono ?_
    (case side1 => repeat (first|exact (Kd.Q_reads' HO_320000.out).2.2|(with_reducible refine y_o ?_ _)|(with_reducible refine y_p ?_ _)|(with_reducible refine y_q ?_)))
    (case side2 => exact (Kd.Q_reads' HO_320000.out).2.1)
    rintro e w34 ⟨v332, rfl, ho0, hb⟩;refine ⟨_, rfl, ?_⟩;have n0_:=z_a (Kd.Q_elder' (by (with_reducible repeat (first|apply Kd.Q_alloc|apply Kd.Q_drewN|apply Kd.Q_drew));exact HO_320000.out) (Kd.R_base ho0) hb);have n1_:=z_a (Kd.Q_elder' (by (with_reducible repeat (first|apply Kd.Q_alloc|apply Kd.Q_drewN|apply Kd.Q_drew));exact HO_325000.out) (Kd.R_base ho0) hb);have n2_:=z_a (Kd.R_lower (Kd.R_new' (Kd.R_new' ho0 (Kd.Q_lt (by (with_reducible repeat (first|apply Kd.Q_alloc|apply Kd.Q_drewN|apply Kd.Q_drew));exact HO_320000.out))) (Kd.Q_lt (by (with_reducible repeat (first|apply Kd.Q_alloc|apply Kd.Q_drewN|apply Kd.Q_drew));exact HO_325000.out))) (z_g zB));have n3_:=z_a (z_d (g:=gb319) zK hb);have n4_:=z_a (z_d (g:=gb324) zK hb);have n5_:=z_a (z_f zB hb);clear HO_320000;clear HO_325000;clear BK319;clear BK324;clear HB;have HO_320000 := n0_;have HO_325000 := n1_
    have HO333 := n2_;have BK319 := n3_;have BK324 := n4_;have HB := n5_;clear n0_ n1_ n2_ n3_ n4_ n5_;(try clear hb);(try clear hb2);(try clear hk);(try clear hi);(try clear ho0);obtain ⟨Ao35, co35, eo35⟩ := Kd.R_slice HO333.out
    (first|subst eo35|(injection eo35 with f1_ f2_ f3_;have f4_:=f1_.symm;have f5_:=f3_.symm;clear f1_ f2_ f3_;subst f4_;subst f5_))
    refine hK.out _ _ ⟨(z_b BK324.out 0).trans rfl,(z_b BK324.out 1).trans rfl,(z_b BK319.out 0).trans rfl,(z_b BK319.out 1).trans rfl⟩ (fun hHeld => ?_);clear hK K;refine norm_ (a' := ?_) ?_ ?_;rotate_left
    ·show Act.put _ (some 33) _ = _;simp only [Act.put,z_1,z_2,z_3,i64_w,i32_w];rfl
    refine one_ (i:=4) (N:=some 34) (Mb 6 31) rfl rfl (by kernel_rfl) (by decide) (fun K hK => ?_);refine goes_ Try.func25 (by kernel_rfl) rfl #[.agg #[.slice Ao12 t320.length co12,.int .i64 t323],.agg #[.slice Ao35 t331.length co35,.int .i64 t334]] (by rfl) rfl rfl (by (try simp only [z_7,List.map_cons,List.map_nil]);first|done|rfl|(simp only [z_6,z_5];rfl)) ?_;with_reducible refine (laws_whPool.calls kj4 _ _ t320 t323 _ _ t331 t334 t335 _ ?side1 ?side2 ?side3 ?side4 A32.out).mono ?_
    (case side1 => repeat (first|exact (Kd.Q_reads' HO_325000.out).2.2|(with_reducible refine y_o ?_ _)|(with_reducible refine y_p ?_ _)|(with_reducible refine y_q ?_)))
    (case side2 => exact (Kd.Q_reads' HO_325000.out).2.1)
    (case side3 => repeat (first|exact (Kd.R_reads' HO333.out).2.2|(with_reducible refine y_o ?_ _)|(with_reducible refine y_p ?_ _)|(with_reducible refine y_q ?_)))
    (case side4 => exact (Kd.R_reads' HO333.out).2.1)
    rintro e w36 ⟨rfl, hb⟩;refine ⟨_, rfl, ?_⟩;have n0_:=z_a (Kd.Q_below (by (with_reducible repeat (first|apply Kd.Q_alloc|apply Kd.Q_drewN|apply Kd.Q_drew));exact HO_320000.out) hb);have n1_:=z_a (Kd.Q_below (by (with_reducible repeat (first|apply Kd.Q_alloc|apply Kd.Q_drewN|apply Kd.Q_drew));exact HO_325000.out) hb);have n2_:=z_a (Kd.R_below (by (with_reducible repeat (first|apply y_e|apply y_f|apply y_g));exact HO333.out) hb);have n3_:=z_a (z_d (g:=gb319) zK hb);have n4_:=z_a (z_d (g:=gb324) zK hb);have n5_:=z_a (z_f zB hb);clear HO_320000;clear HO_325000;clear HO333;clear BK319;clear BK324;clear HB;have HO_320000 := n0_;have HO_325000 := n1_;have HO333 := n2_;have BK319 := n3_;have BK324 := n4_;have HB := n5_;clear n0_ n1_ n2_ n3_ n4_ n5_;(try clear hb);(try clear hb2);(try clear hk);(try clear hi);refine hK.out _ _ ⟨(z_b BK324.out 0).trans rfl,(z_b BK324.out 1).trans rfl,(z_b BK319.out 0).trans rfl,(z_b BK319.out 1).trans rfl⟩ (fun hHeld => ?_);clear hK K;refine norm_ (a' := ?_) ?_ ?_;rotate_left
    ·show Act.put _ (some 34) _ = _;simp only [Act.put,z_1,z_2,z_3,i64_w,i32_w];rfl
    refine pure_ (i:=5) (N:=some 2) (v:=?_) (a':=?_) (Mb 6 63) rfl rfl (by kernel_rfl) (fun _ _ _ h => h) (Or.inl ⟨by rfl,?_⟩) ?_ ?_;rotate_left
    ·intro w';go_simp;with_reducible rfl
    rotate_left
    ·simp only [Act.put,z_1,z_2,z_3,i64_w,i32_w];rfl
    refine done_ (by kernel_rfl) ?_
    try go_wp2
    go_ret
    exact ⟨by first|rfl|(simp [errW_none,errW_some] <;> rfl)|(simp [*,errW_none,errW_some] <;> rfl),zB⟩
   ·replace c30 := Bool.eq_false_iff.mpr c30;subst c30;have H1 : (laws_FnPoolDrop.l0 kj4 t318 0 t314 t317 t320 t323) = some r:=by rw [if_neg (show ¬ (false = true) by decide)] at H;exact H
    clear H;have H := H1;clear H1;have H' := z_a H;clear H
    go_wp2
    go_loopg [6] kj4 (fun kq v6 w' => ∃ (x6_2 : Int),v6 = .int .i64 x6_2 ∧ Aside0 (laws_FnPoolDrop.l0 kq t318 x6_2 t314 t317 t320 t323 = some r) ∧ Aside0 (kq ≤ kj4) ∧ Aside0 (Kd.Q k41 41 w' w.heap.size (fun k_ => some k_ ≠ ((.slice Ao12 t320.length co12) : Value).ownBlock) (.slice Ao8 t314.length co8) t314) ∧ Aside0 (Kd.Q k41 41 w' w.heap.size (fun k_ => some k_ ≠ ((.slice Ao8 t314.length co8) : Value).ownBlock) (.slice Ao12 t320.length co12) t320) ∧ Aside0 (w'.heap[gb319]? = some (.cells #[(.slice Ao8 t314.length co8),.int .i64 t317] 29 (0,0))) ∧ Aside0 (w'.heap[gb324]? = some (.cells #[(.slice Ao12 t320.length co12),.int .i64 t323] 29 (0,0))) ∧ Aside0 (Below w.heap.size w w'))
    case atStart => exact ⟨(0),(by first|rfl|(simp;done)|(simp [*];done)),H',⟨Nat.le_refl _⟩,⟨by (with_reducible repeat (first|apply Kd.Q_alloc|apply Kd.Q_drewN|apply Kd.Q_drew));exact HO_320000.out⟩,⟨by (with_reducible repeat (first|apply Kd.Q_alloc|apply Kd.Q_drewN|apply Kd.Q_drew));exact HO_325000.out⟩,⟨by (with_reducible repeat (first|refine y_b ?_ _|refine y_c ?_|refine y_d ?_ _));exact BK319.out⟩,⟨by (with_reducible repeat (first|refine y_b ?_ _|refine y_c ?_|refine y_d ?_ _));exact BK324.out⟩,⟨zB⟩⟩
    case round =>
     clear H'
     try clear c1
     try clear c2
     try clear c2b0
     try clear c2b1
     try clear p2
     try clear c3
     try clear c8
     try clear c13
     try clear c16
     try clear c17
     try clear c25
     try clear c28
     try clear c29
     try clear c30
     try clear hcz14_0
     try clear hcz14_1
     try clear hcz9_0
     try clear hcz9_1
     try clear hfz14_0
     try clear hfz14_1
     try clear hfz9_0
     try clear hfz9_1
     try clear p2
     obtain ⟨x6_2,rfl,HA,HK2,HO_320000,HO_325000,BK319,BK324,HB⟩:=hrel;cases gk with
     | zero => exact absurd HA.out (by simp [laws_FnPoolDrop.l0])
     | succ k2 =>
      have H := HA.out;clear HA;simp only [laws_FnPoolDrop.l0] at H
      by_cases c37 : x6_2 < (t314.length : Int)
      ·rw [if_pos c37] at H;have c37b0 : decide (x6_2 < (t314.length : Int)) = true:=z_e c37;clear c37
       by_cases c38 : 0 ≤ x6_2
       ·rw [if_pos c38] at H;have c38b0 : decide (0 ≤ x6_2) = true := z_e c38;clear c38
        by_cases c39 : ((rd_T41 t314 x6_2).f1) = t318
        ·rw [if_pos c39] at H;have c39b0 : (((rd_T41 t314 x6_2).f1) == t318) = true:=beq_iff_eq.mpr c39;have c39b1 : (((rd_T41 t314 x6_2).f1) != t318) = false:=bne_eq_false_iff_eq.mpr c39;clear c39
         by_cases c40 : ((rd_T41 t314 x6_2).f3) = 0
         ·rw [if_pos c40] at H;have c40b0 : (((rd_T41 t314 x6_2).f3) == 0) = true:=beq_iff_eq.mpr c40;have c40b1 : (((rd_T41 t314 x6_2).f3) != 0) = false:=bne_eq_false_iff_eq.mpr c40;clear c40
          by_cases c41 : x6_2 < (t320.length : Int)
          ·rw [if_pos c41] at H;have c41b0 : decide (x6_2 < (t320.length : Int)) = true:=z_e c41;clear c41
           by_cases c42 : ((rd_T41 t320 x6_2).f1) = 0
           ·rw [if_pos c42] at H;have c42b0 : (((rd_T41 t320 x6_2).f1) == 0) = true:=beq_iff_eq.mpr c42;have c42b1 : (((rd_T41 t320 x6_2).f1) != 0) = false:=bne_eq_false_iff_eq.mpr c42;clear c42
            by_cases c43 : (((rd_T41 t314 x6_2).f3) = 0)
            ·rw [if_pos c43] at H;have c43b0 : (((rd_T41 t314 x6_2).f3) == 0) = true:=beq_iff_eq.mpr c43;have c43b1 : (((rd_T41 t314 x6_2).f3) != 0) = false:=bne_eq_false_iff_eq.mpr c43;clear c43;have H' := z_a H;clear H;have hnb44 := NB319_324.out;have hnc44 := NB324_319.out;have hcz45_0 : wr.cell? ⟨gb319,0,none⟩ = some (.slice Ao8 t314.length co8):=(z_b BK319.out 0).trans rfl;have hcz45_1 : wr.cell? ⟨gb319,1,none⟩ = some (.int .i64 t317):=(z_b BK319.out 1).trans rfl;have hfz45_0 := z_4 BK319.out 0;have hfz45_1 := z_4 BK319.out 1;have p336 : 0 ≤ (x6_2 : Int):=z_9 (by first|(with_reducible assumption)|assumption);have q336 : x6_2 < (t314.length : Int):=z_9 (by first|(with_reducible assumption)|assumption);obtain ⟨ad336,e336,hx336_0,hx336_1,hx336_2,hx336_3,hx336_4⟩:=at_T41 (Kd.Q_reads' HO_320000.out).2.2 x6_2 p336 q336;cases e336;replace p336 := eq_true p336;replace q336 := eq_true q336;have p337 : 0 ≤ (x6_2 : Int):=z_9 (by first|(with_reducible assumption)|assumption);have q337 : x6_2 < (t314.length : Int):=z_9 (by first|(with_reducible assumption)|assumption);obtain ⟨ad337,e337,hx337_0,hx337_1,hx337_2,hx337_3,hx337_4⟩:=at_T41 (Kd.Q_reads' HO_320000.out).2.2 x6_2 p337 q337;obtain rfl : ad336 = ad337 := (by injection e337);replace p337 := eq_true p337;replace q337 := eq_true q337
             try go_wp2
             have n0_ := z_a (Kd.Q_drew HO_320000.out);have n1_ := z_a (Kd.Q_drew HO_325000.out);have n2_ := z_a (y_c BK319.out);have n3_ := z_a (y_c BK324.out);have n4_ := z_a (y_j HB.out);clear HO_320000;clear HO_325000;clear BK319;clear BK324;clear HB;have HO_320000 := n0_;have HO_325000 := n1_;have BK319 := n2_;have BK324 := n3_;have HB := n4_;clear n0_ n1_ n2_ n3_ n4_;have p338 : 0 ≤ (x6_2 : Int):=z_9 (by first|(with_reducible assumption)|assumption);have q338 : x6_2 < (t320.length : Int):=z_9 (by first|(with_reducible assumption)|assumption);obtain ⟨ad338,e338,hx338_0,hx338_1,hx338_2,hx338_3,hx338_4⟩:=at_T41 (Kd.Q_reads' HO_325000.out).2.2 x6_2 p338 q338;cases e338;replace p338 := eq_true p338;replace q338 := eq_true q338
             refine start_ (n:=27) (S:=fun w' => w'.cell? ⟨gb324,0,none⟩ = some (.slice (some ad338) t320.length co12) ∧ w'.cell? ⟨gb324,1,none⟩ = some (.int .i64 t323) ∧ w'.cell? (ad338.add ((x6_2).toNat * 5)) = some (.int .i64 ((rd_T41 t320 x6_2).f0)) ∧ w'.cell? ⟨(ad338.add ((x6_2).toNat * 5)).block,(ad338.add ((x6_2).toNat * 5)).off + 1,none⟩ = some (.int .i64 ((rd_T41 t320 x6_2).f1)) ∧ w'.cell? ⟨(ad338.add ((x6_2).toNat * 5)).block,(ad338.add ((x6_2).toNat * 5)).off + 2,none⟩ = some (.int .i64 ((rd_T41 t320 x6_2).f2)) ∧ w'.cell? ⟨(ad338.add ((x6_2).toNat * 5)).block,(ad338.add ((x6_2).toNat * 5)).off + 3,none⟩ = some (.int .i64 ((rd_T41 t320 x6_2).f3)) ∧ w'.cell? ⟨(ad338.add ((x6_2).toNat * 5)).block,(ad338.add ((x6_2).toNat * 5)).off + 4,none⟩ = some (.bool ((rd_T41 t320 x6_2).f4))) (ds:=[]) #[false,false,false,false,false,false,false,false,false,false,false,false,false,false,false,false,false,false,false,false,false,false,false,false,false,false,false] (by kernel_rfl) rfl rfl ⟨(z_b BK324.out 0).trans rfl,(z_b BK324.out 1).trans rfl,hx338_0,hx338_1,hx338_2,hx338_3,hx338_4⟩ (fun hHeld => ?_);refine with_tabW laws_FnPoolDrop.tab11 laws_FnPoolDrop.bits11 (fun HT_ HW_ => ?_);generalize wr.drew = w46 at HO_320000 HO_325000 BK319 BK324 HB hx338_0 hx338_1 hx338_2 hx338_3 hx338_4 hHeld ⊢;refine pure_ (i:=0) (N:=some 59) (v:=?_) (a':=?_) (Mb 27 1) rfl rfl (any_of HT_.out (by kernel_rfl)) (fun _ _ _ h => h) (Or.inl ⟨by rfl,?_⟩) ?_ ?_;rotate_left
             ·intro w';go_simp;with_reducible rfl
             rotate_left
             ·simp only [Act.put,z_1,z_2,z_3,i64_w,i32_w];rfl
             refine pure_ (i:=1) (N:=some 60) (v:=?_) (a':=?_) (Mb 27 3) rfl rfl (any_of HT_.out (by kernel_rfl)) (fun _ _ _ h => h) (Or.inl ⟨by rfl,?_⟩) ?_ ?_;rotate_left
             ·intro w';go_simp;with_reducible rfl
             rotate_left
             ·simp only [Act.put,z_1,z_2,z_3,i64_w,i32_w];rfl
             refine pure_ (i:=2) (N:=some 61) (v:=?_) (a':=?_) (Mb 27 7) rfl rfl (any_of HT_.out (by kernel_rfl)) (fun _ _ _ h => h) (Or.inl ⟨by rfl,?_⟩) ?_ ?_;rotate_left
             ·intro w';go_simp;with_reducible rfl
             rotate_left
             ·simp only [Act.put,z_1,z_2,z_3,i64_w,i32_w];rfl
             refine pure_ (i:=4) (N:=some 63) (v:=?_) (a':=?_) (Mb 27 23) rfl rfl (any_of HT_.out (by kernel_rfl)) (fun _ _ _ h => h) (Or.inl ⟨by rfl,?_⟩) ?_ ?_;rotate_left
             ·intro w';go_simp;with_reducible rfl
             rotate_left
             ·simp only [Act.put,z_1,z_2,z_3,i64_w,i32_w];rfl
             refine take_ (i:=3) (N:=some 62) (v:=?_) (a':=?_) (Mb 27 31) rfl rfl (take_ofW HT_.out HW_.out (by kernel_rfl)) (fun _ _ _ h => h) (Or.inl ⟨by rfl,?_⟩) hHeld ?_ ?_;rotate_left
             ·rintro w' ⟨s0, s1, s2, s3, s4, s5, s6⟩;go_simp;with_reducible rfl
             rotate_left
             ·simp only [Act.put,z_1,z_2,z_3,i64_w,i32_w];rfl
             refine pure_ (i:=5) (N:=some 64) (v:=?_) (a':=?_) (Mb 27 63) rfl rfl (any_of HT_.out (by kernel_rfl)) (fun _ _ _ h => h) (Or.inl ⟨by rfl,?_⟩) ?_ ?_;rotate_left
             ·intro w';go_simp;with_reducible rfl
             rotate_left
             ·simp only [Act.put,z_1,z_2,z_3,i64_w,i32_w];rfl
             refine pure_ (i:=6) (N:=some 65) (v:=?_) (a':=?_) (Mb 27 127) rfl rfl (any_of HT_.out (by kernel_rfl)) (fun _ _ _ h => h) (Or.inl ⟨by rfl,?_⟩) ?_ ?_;rotate_left
             ·intro w';go_simp;with_reducible rfl
             rotate_left
             ·simp only [Act.put,z_1,z_2,z_3,i64_w,i32_w];rfl
             refine take_ (i:=7) (N:=some 66) (v:=?_) (a':=?_) (Mb 27 255) rfl rfl (take_ofW HT_.out HW_.out (by kernel_rfl)) (fun _ _ _ h => h) (Or.inl ⟨by rfl,?_⟩) hHeld ?_ ?_;rotate_left
             ·rintro w' ⟨s0, s1, s2, s3, s4, s5, s6⟩;go_simp;with_reducible rfl
             rotate_left
             ·simp only [Act.put,z_1,z_2,z_3,i64_w,i32_w];rfl
             refine pure_ (i:=8) (N:=some 67) (v:=?_) (a':=?_) (Mb 27 511) rfl rfl (any_of HT_.out (by kernel_rfl)) (fun _ _ _ h => h) (Or.inl ⟨by rfl,?_⟩) ?_ ?_;rotate_left
             ·intro w';go_simp;with_reducible rfl
             rotate_left
             ·simp only [Act.put,z_1,z_2,z_3,i64_w,i32_w];rfl
             refine pure_ (i:=9) (N:=some 68) (v:=?_) (a':=?_) (Mb 27 1023) rfl rfl (any_of HT_.out (by kernel_rfl)) (fun _ _ _ h => h) (Or.inl ⟨by rfl,?_⟩) ?_ ?_;rotate_left
             ·intro w';go_simp;with_reducible rfl
             rotate_left
             ·simp only [Act.put,z_1,z_2,z_3,i64_w,i32_w];rfl
             refine pure_ (i:=10) (N:=some 69) (v:=?_) (a':=?_) (Mb 27 2047) rfl rfl (any_of HT_.out (by kernel_rfl)) (fun _ _ _ h => h) (Or.inl ⟨by rfl,?_⟩) ?_ ?_;rotate_left
             ·intro w';go_simp;with_reducible rfl
             rotate_left
             ·simp only [Act.put,z_1,z_2,z_3,i64_w,i32_w];rfl
             refine pure_ (i:=11) (N:=some 70) (v:=?_) (a':=?_) (Mb 27 4095) rfl rfl (any_of HT_.out (by kernel_rfl)) (fun _ _ _ h => h) (Or.inl ⟨by rfl,?_⟩) ?_ ?_;rotate_left
             ·intro w';go_simp;with_reducible rfl
             rotate_left
             ·simp only [Act.put,z_1,z_2,z_3,i64_w,i32_w];rfl
             refine pure_ (i:=12) (N:=some 71) (v:=?_) (a':=?_) (Mb 27 8191) rfl rfl (any_of HT_.out (by kernel_rfl)) (fun _ _ _ h => h) (Or.inl ⟨by rfl,?_⟩) ?_ ?_;rotate_left
             ·intro w';go_simp;with_reducible rfl
             rotate_left
             ·simp only [Act.put,z_1,z_2,z_3,i64_w,i32_w];rfl
             refine pure_ (i:=13) (N:=some 72) (v:=?_) (a':=?_) (Mb 27 16383) rfl rfl (any_of HT_.out (by kernel_rfl)) (fun _ _ _ h => h) (Or.inl ⟨by rfl,?_⟩) ?_ ?_;rotate_left
             ·intro w';go_simp;with_reducible rfl
             rotate_left
             ·simp only [Act.put,z_1,z_2,z_3,i64_w,i32_w];rfl
             refine pure_ (i:=14) (N:=some 73) (v:=undef) (a':=?_) (Mb 27 32767) rfl rfl (any_of HT_.out (by kernel_rfl)) (fun _ _ _ h => h) (Or.inr ⟨by rfl,rfl⟩) ?_ ?_;rotate_left
             ·simp only [Act.put,z_1,z_2,z_3,i64_w,i32_w];rfl
             refine pure_ (i:=15) (N:=some 74) (v:=undef) (a':=?_) (Mb 27 65535) rfl rfl (any_of HT_.out (by kernel_rfl)) (fun _ _ _ h => h) (Or.inr ⟨by rfl,rfl⟩) ?_ ?_;rotate_left
             ·simp only [Act.put,z_1,z_2,z_3,i64_w,i32_w];rfl
             refine pure_ (i:=16) (N:=some 75) (v:=undef) (a':=?_) (Mb 27 131071) rfl rfl (any_of HT_.out (by kernel_rfl)) (fun _ _ _ h => h) (Or.inr ⟨by rfl,rfl⟩) ?_ ?_;rotate_left
             ·simp only [Act.put,z_1,z_2,z_3,i64_w,i32_w];rfl
             refine pure_ (i:=17) (N:=some 76) (v:=undef) (a':=?_) (Mb 27 262143) rfl rfl (any_of HT_.out (by kernel_rfl)) (fun _ _ _ h => h) (Or.inr ⟨by rfl,rfl⟩) ?_ ?_;rotate_left
             ·simp only [Act.put,z_1,z_2,z_3,i64_w,i32_w];rfl
             refine pure_ (i:=18) (N:=some 77) (v:=undef) (a':=?_) (Mb 27 524287) rfl rfl (any_of HT_.out (by kernel_rfl)) (fun _ _ _ h => h) (Or.inr ⟨by rfl,rfl⟩) ?_ ?_;rotate_left
             ·simp only [Act.put,z_1,z_2,z_3,i64_w,i32_w];rfl
             refine pure_ (i:=19) (N:=some 78) (v:=undef) (a':=?_) (Mb 27 1048575) rfl rfl (any_of HT_.out (by kernel_rfl)) (fun _ _ _ h => h) (Or.inr ⟨by rfl,rfl⟩) ?_ ?_;rotate_left
             ·simp only [Act.put,z_1,z_2,z_3,i64_w,i32_w];rfl
             refine pure_ (i:=20) (N:=some 79) (v:=undef) (a':=?_) (Mb 27 2097151) rfl rfl (any_of HT_.out (by kernel_rfl)) (fun _ _ _ h => h) (Or.inr ⟨by rfl,rfl⟩) ?_ ?_;rotate_left
             ·simp only [Act.put,z_1,z_2,z_3,i64_w,i32_w];rfl
             refine pure_ (i:=21) (N:=some 80) (v:=undef) (a':=?_) (Mb 27 4194303) rfl rfl (any_of HT_.out (by kernel_rfl)) (fun _ _ _ h => h) (Or.inr ⟨by rfl,rfl⟩) ?_ ?_;rotate_left
             ·simp only [Act.put,z_1,z_2,z_3,i64_w,i32_w];rfl
             refine pure_ (i:=22) (N:=some 81) (v:=undef) (a':=?_) (Mb 27 8388607) rfl rfl (any_of HT_.out (by kernel_rfl)) (fun _ _ _ h => h) (Or.inr ⟨by rfl,rfl⟩) ?_ ?_;rotate_left
             ·simp only [Act.put,z_1,z_2,z_3,i64_w,i32_w];rfl
             refine pure_ (i:=23) (N:=some 82) (v:=undef) (a':=?_) (Mb 27 16777215) rfl rfl (any_of HT_.out (by kernel_rfl)) (fun _ _ _ h => h) (Or.inr ⟨by rfl,rfl⟩) ?_ ?_;rotate_left
             ·simp only [Act.put,z_1,z_2,z_3,i64_w,i32_w];rfl
             refine pure_ (i:=24) (N:=some 83) (v:=undef) (a':=?_) (Mb 27 33554431) rfl rfl (any_of HT_.out (by kernel_rfl)) (fun _ _ _ h => h) (Or.inr ⟨by rfl,rfl⟩) ?_ ?_;rotate_left
             ·simp only [Act.put,z_1,z_2,z_3,i64_w,i32_w];rfl
             refine pure_ (i:=25) (N:=some 84) (v:=?_) (a':=?_) (Mb 27 67108863) rfl rfl (any_of HT_.out (by kernel_rfl)) (fun _ _ _ h => h) (Or.inl ⟨by rfl,?_⟩) ?_ ?_;rotate_left
             ·intro w';go_simp;with_reducible rfl
             rotate_left
             ·simp only [Act.put,z_1,z_2,z_3,i64_w,i32_w];rfl
             refine pure_ (i:=26) (N:=some 85) (v:=?_) (a':=?_) (Mb 27 134217727) rfl rfl (any_of HT_.out (by kernel_rfl)) (fun _ _ _ h => h) (Or.inl ⟨by rfl,?_⟩) ?_ ?_;rotate_left
             ·intro w';go_simp;with_reducible rfl
             rotate_left
             ·simp only [Act.put,z_1,z_2,z_3,i64_w,i32_w];rfl
             refine done_ (done_of HT_.out (by kernel_rfl)) ?_
             try go_wp2
             go_roundg k2
             case measure => have := HJ4.out; have := HK2.out; omega
             case rel => exact ⟨(wrap64 (x6_2 + 1)),(by first|rfl|(simp;done)|(simp [*];done)),H',⟨by have:=HJ4.out;have:=HK2.out;omega⟩,⟨by (with_reducible repeat (first|apply Kd.Q_alloc|apply Kd.Q_drewN|apply Kd.Q_drew));exact HO_320000.out⟩,⟨by (with_reducible repeat (first|apply Kd.Q_alloc|apply Kd.Q_drewN|apply Kd.Q_drew));exact HO_325000.out⟩,⟨by (with_reducible repeat (first|refine y_b ?_ _|refine y_c ?_|refine y_d ?_ _));exact BK319.out⟩,⟨by (with_reducible repeat (first|refine y_b ?_ _|refine y_c ?_|refine y_d ?_ _));exact BK324.out⟩,⟨zB⟩⟩
            ·have c43b0 : (((rd_T41 t314 x6_2).f3) == 0) = false:=beq_eq_false_iff_ne.mpr c43;exact absurd (c40b0.symm.trans c43b0) (by decide)
           ·rw [if_neg c42] at H;have c42b0 : (((rd_T41 t320 x6_2).f1) == 0) = false:=beq_eq_false_iff_ne.mpr c42;have c42b1 : (((rd_T41 t320 x6_2).f1) != 0) = true:=bne_iff_ne.mpr c42;obtain rfl := Option.some.inj H;have hnb54 := NB319_324.out;have hnc54 := NB324_319.out;have hcz55_0 : wr.cell? ⟨gb319,0,none⟩ = some (.slice Ao8 t314.length co8):=(z_b BK319.out 0).trans rfl;have hcz55_1 : wr.cell? ⟨gb319,1,none⟩ = some (.int .i64 t317):=(z_b BK319.out 1).trans rfl;have hfz55_0 := z_4 BK319.out 0;have hfz55_1 := z_4 BK319.out 1;have p336 : 0 ≤ (x6_2 : Int):=z_9 (by first|(with_reducible assumption)|assumption);have q336 : x6_2 < (t314.length : Int):=z_9 (by first|(with_reducible assumption)|assumption);obtain ⟨ad336,e336,hx336_0,hx336_1,hx336_2,hx336_3,hx336_4⟩:=at_T41 (Kd.Q_reads' HO_320000.out).2.2 x6_2 p336 q336;cases e336;replace p336 := eq_true p336;replace q336 := eq_true q336;have p337 : 0 ≤ (x6_2 : Int):=z_9 (by first|(with_reducible assumption)|assumption);have q337 : x6_2 < (t314.length : Int):=z_9 (by first|(with_reducible assumption)|assumption);obtain ⟨ad337,e337,hx337_0,hx337_1,hx337_2,hx337_3,hx337_4⟩:=at_T41 (Kd.Q_reads' HO_320000.out).2.2 x6_2 p337 q337;obtain rfl : ad336 = ad337 := (by injection e337);replace p337 := eq_true p337;replace q337 := eq_true q337
            try go_wp2
            have n0_ := z_a (Kd.Q_drew HO_320000.out);have n1_ := z_a (Kd.Q_drew HO_325000.out);have n2_ := z_a (y_c BK319.out);have n3_ := z_a (y_c BK324.out);have n4_ := z_a (y_j HB.out);clear HO_320000;clear HO_325000;clear BK319;clear BK324;clear HB;have HO_320000 := n0_;have HO_325000 := n1_;have BK319 := n2_;have BK324 := n3_;have HB := n4_;clear n0_ n1_ n2_ n3_ n4_;have p338 : 0 ≤ (x6_2 : Int):=z_9 (by first|(with_reducible assumption)|assumption);have q338 : x6_2 < (t320.length : Int):=z_9 (by first|(with_reducible assumption)|assumption);obtain ⟨ad338,e338,hx338_0,hx338_1,hx338_2,hx338_3,hx338_4⟩:=at_T41 (Kd.Q_reads' HO_325000.out).2.2 x6_2 p338 q338;cases e338;replace p338 := eq_true p338;replace q338 := eq_true q338
            refine start_ (n:=27) (S:=fun w' => w'.cell? ⟨gb324,0,none⟩ = some (.slice (some ad338) t320.length co12) ∧ w'.cell? ⟨gb324,1,none⟩ = some (.int .i64 t323) ∧ w'.cell? (ad338.add ((x6_2).toNat * 5)) = some (.int .i64 ((rd_T41 t320 x6_2).f0)) ∧ w'.cell? ⟨(ad338.add ((x6_2).toNat * 5)).block,(ad338.add ((x6_2).toNat * 5)).off + 1,none⟩ = some (.int .i64 ((rd_T41 t320 x6_2).f1)) ∧ w'.cell? ⟨(ad338.add ((x6_2).toNat * 5)).block,(ad338.add ((x6_2).toNat * 5)).off + 2,none⟩ = some (.int .i64 ((rd_T41 t320 x6_2).f2)) ∧ w'.cell? ⟨(ad338.add ((x6_2).toNat * 5)).block,(ad338.add ((x6_2).toNat * 5)).off + 3,none⟩ = some (.int .i64 ((rd_T41 t320 x6_2).f3)) ∧ w'.cell? ⟨(ad338.add ((x6_2).toNat * 5)).block,(ad338.add ((x6_2).toNat * 5)).off + 4,none⟩ = some (.bool ((rd_T41 t320 x6_2).f4))) (ds:=[]) #[false,false,false,false,false,false,false,false,false,false,false,false,false,false,false,false,false,false,false,false,false,false,false,false,false,false,false] (by kernel_rfl) rfl rfl ⟨(z_b BK324.out 0).trans rfl,(z_b BK324.out 1).trans rfl,hx338_0,hx338_1,hx338_2,hx338_3,hx338_4⟩ (fun hHeld => ?_);refine with_tabW laws_FnPoolDrop.tab11 laws_FnPoolDrop.bits11 (fun HT_ HW_ => ?_);generalize wr.drew = w56 at HO_320000 HO_325000 BK319 BK324 HB hx338_0 hx338_1 hx338_2 hx338_3 hx338_4 hHeld ⊢;refine pure_ (i:=0) (N:=some 59) (v:=?_) (a':=?_) (Mb 27 1) rfl rfl (any_of HT_.out (by kernel_rfl)) (fun _ _ _ h => h) (Or.inl ⟨by rfl,?_⟩) ?_ ?_;rotate_left
            ·intro w';go_simp;with_reducible rfl
            rotate_left
            ·simp only [Act.put,z_1,z_2,z_3,i64_w,i32_w];rfl
            refine pure_ (i:=1) (N:=some 60) (v:=?_) (a':=?_) (Mb 27 3) rfl rfl (any_of HT_.out (by kernel_rfl)) (fun _ _ _ h => h) (Or.inl ⟨by rfl,?_⟩) ?_ ?_;rotate_left
            ·intro w';go_simp;with_reducible rfl
            rotate_left
            ·simp only [Act.put,z_1,z_2,z_3,i64_w,i32_w];rfl
            refine pure_ (i:=2) (N:=some 61) (v:=?_) (a':=?_) (Mb 27 7) rfl rfl (any_of HT_.out (by kernel_rfl)) (fun _ _ _ h => h) (Or.inl ⟨by rfl,?_⟩) ?_ ?_;rotate_left
            ·intro w';go_simp;with_reducible rfl
            rotate_left
            ·simp only [Act.put,z_1,z_2,z_3,i64_w,i32_w];rfl
            refine pure_ (i:=4) (N:=some 63) (v:=?_) (a':=?_) (Mb 27 23) rfl rfl (any_of HT_.out (by kernel_rfl)) (fun _ _ _ h => h) (Or.inl ⟨by rfl,?_⟩) ?_ ?_;rotate_left
            ·intro w';go_simp;with_reducible rfl
            rotate_left
            ·simp only [Act.put,z_1,z_2,z_3,i64_w,i32_w];rfl
            refine take_ (i:=3) (N:=some 62) (v:=?_) (a':=?_) (Mb 27 31) rfl rfl (take_ofW HT_.out HW_.out (by kernel_rfl)) (fun _ _ _ h => h) (Or.inl ⟨by rfl,?_⟩) hHeld ?_ ?_;rotate_left
            ·rintro w' ⟨s0, s1, s2, s3, s4, s5, s6⟩;go_simp;with_reducible rfl
            rotate_left
            ·simp only [Act.put,z_1,z_2,z_3,i64_w,i32_w];rfl
            refine pure_ (i:=5) (N:=some 64) (v:=?_) (a':=?_) (Mb 27 63) rfl rfl (any_of HT_.out (by kernel_rfl)) (fun _ _ _ h => h) (Or.inl ⟨by rfl,?_⟩) ?_ ?_;rotate_left
            ·intro w';go_simp;with_reducible rfl
            rotate_left
            ·simp only [Act.put,z_1,z_2,z_3,i64_w,i32_w];rfl
            refine pure_ (i:=6) (N:=some 65) (v:=?_) (a':=?_) (Mb 27 127) rfl rfl (any_of HT_.out (by kernel_rfl)) (fun _ _ _ h => h) (Or.inl ⟨by rfl,?_⟩) ?_ ?_;rotate_left
            ·intro w';go_simp;with_reducible rfl
            rotate_left
            ·simp only [Act.put,z_1,z_2,z_3,i64_w,i32_w];rfl
            refine take_ (i:=7) (N:=some 66) (v:=?_) (a':=?_) (Mb 27 255) rfl rfl (take_ofW HT_.out HW_.out (by kernel_rfl)) (fun _ _ _ h => h) (Or.inl ⟨by rfl,?_⟩) hHeld ?_ ?_;rotate_left
            ·rintro w' ⟨s0, s1, s2, s3, s4, s5, s6⟩;go_simp;with_reducible rfl
            rotate_left
            ·simp only [Act.put,z_1,z_2,z_3,i64_w,i32_w];rfl
            refine pure_ (i:=8) (N:=some 67) (v:=?_) (a':=?_) (Mb 27 511) rfl rfl (any_of HT_.out (by kernel_rfl)) (fun _ _ _ h => h) (Or.inl ⟨by rfl,?_⟩) ?_ ?_;rotate_left
            ·intro w';go_simp;with_reducible rfl
            rotate_left
            ·simp only [Act.put,z_1,z_2,z_3,i64_w,i32_w];rfl
            refine pure_ (i:=9) (N:=some 68) (v:=?_) (a':=?_) (Mb 27 1023) rfl rfl (any_of HT_.out (by kernel_rfl)) (fun _ _ _ h => h) (Or.inl ⟨by rfl,?_⟩) ?_ ?_;rotate_left
            ·intro w';go_simp;with_reducible rfl
            rotate_left
            ·simp only [Act.put,z_1,z_2,z_3,i64_w,i32_w];rfl
            refine pure_ (i:=10) (N:=some 69) (v:=?_) (a':=?_) (Mb 27 2047) rfl rfl (any_of HT_.out (by kernel_rfl)) (fun _ _ _ h => h) (Or.inl ⟨by rfl,?_⟩) ?_ ?_;rotate_left
            ·intro w';go_simp;with_reducible rfl
            rotate_left
            ·simp only [Act.put,z_1,z_2,z_3,i64_w,i32_w];rfl
            refine pure_ (i:=11) (N:=some 70) (v:=undef) (a':=?_) (Mb 27 4095) rfl rfl (any_of HT_.out (by kernel_rfl)) (fun _ _ _ h => h) (Or.inr ⟨by rfl,rfl⟩) ?_ ?_;rotate_left
            ·simp only [Act.put,z_1,z_2,z_3,i64_w,i32_w];rfl
            refine pure_ (i:=12) (N:=some 71) (v:=undef) (a':=?_) (Mb 27 8191) rfl rfl (any_of HT_.out (by kernel_rfl)) (fun _ _ _ h => h) (Or.inr ⟨by rfl,rfl⟩) ?_ ?_;rotate_left
            ·simp only [Act.put,z_1,z_2,z_3,i64_w,i32_w];rfl
            refine pure_ (i:=13) (N:=some 72) (v:=undef) (a':=?_) (Mb 27 16383) rfl rfl (any_of HT_.out (by kernel_rfl)) (fun _ _ _ h => h) (Or.inr ⟨by rfl,rfl⟩) ?_ ?_;rotate_left
            ·simp only [Act.put,z_1,z_2,z_3,i64_w,i32_w];rfl
            refine pure_ (i:=14) (N:=some 73) (v:=undef) (a':=?_) (Mb 27 32767) rfl rfl (any_of HT_.out (by kernel_rfl)) (fun _ _ _ h => h) (Or.inr ⟨by rfl,rfl⟩) ?_ ?_;rotate_left
            ·simp only [Act.put,z_1,z_2,z_3,i64_w,i32_w];rfl
            refine pure_ (i:=15) (N:=some 74) (v:=undef) (a':=?_) (Mb 27 65535) rfl rfl (any_of HT_.out (by kernel_rfl)) (fun _ _ _ h => h) (Or.inr ⟨by rfl,rfl⟩) ?_ ?_;rotate_left
            ·simp only [Act.put,z_1,z_2,z_3,i64_w,i32_w];rfl
            refine pure_ (i:=16) (N:=some 75) (v:=undef) (a':=?_) (Mb 27 131071) rfl rfl (any_of HT_.out (by kernel_rfl)) (fun _ _ _ h => h) (Or.inr ⟨by rfl,rfl⟩) ?_ ?_;rotate_left
            ·simp only [Act.put,z_1,z_2,z_3,i64_w,i32_w];rfl
            refine pure_ (i:=17) (N:=some 76) (v:=undef) (a':=?_) (Mb 27 262143) rfl rfl (any_of HT_.out (by kernel_rfl)) (fun _ _ _ h => h) (Or.inr ⟨by rfl,rfl⟩) ?_ ?_;rotate_left
            ·simp only [Act.put,z_1,z_2,z_3,i64_w,i32_w];rfl
            refine pure_ (i:=18) (N:=some 77) (v:=undef) (a':=?_) (Mb 27 524287) rfl rfl (any_of HT_.out (by kernel_rfl)) (fun _ _ _ h => h) (Or.inr ⟨by rfl,rfl⟩) ?_ ?_;rotate_left
            ·simp only [Act.put,z_1,z_2,z_3,i64_w,i32_w];rfl
            refine pure_ (i:=19) (N:=some 78) (v:=undef) (a':=?_) (Mb 27 1048575) rfl rfl (any_of HT_.out (by kernel_rfl)) (fun _ _ _ h => h) (Or.inr ⟨by rfl,rfl⟩) ?_ ?_;rotate_left
            ·simp only [Act.put,z_1,z_2,z_3,i64_w,i32_w];rfl
            refine pure_ (i:=20) (N:=some 79) (v:=undef) (a':=?_) (Mb 27 2097151) rfl rfl (any_of HT_.out (by kernel_rfl)) (fun _ _ _ h => h) (Or.inr ⟨by rfl,rfl⟩) ?_ ?_;rotate_left
            ·simp only [Act.put,z_1,z_2,z_3,i64_w,i32_w];rfl
            refine pure_ (i:=21) (N:=some 80) (v:=undef) (a':=?_) (Mb 27 4194303) rfl rfl (any_of HT_.out (by kernel_rfl)) (fun _ _ _ h => h) (Or.inr ⟨by rfl,rfl⟩) ?_ ?_;rotate_left
            ·simp only [Act.put,z_1,z_2,z_3,i64_w,i32_w];rfl
            refine pure_ (i:=22) (N:=some 81) (v:=undef) (a':=?_) (Mb 27 8388607) rfl rfl (any_of HT_.out (by kernel_rfl)) (fun _ _ _ h => h) (Or.inr ⟨by rfl,rfl⟩) ?_ ?_;rotate_left
            ·simp only [Act.put,z_1,z_2,z_3,i64_w,i32_w];rfl
            refine pure_ (i:=23) (N:=some 82) (v:=undef) (a':=?_) (Mb 27 16777215) rfl rfl (any_of HT_.out (by kernel_rfl)) (fun _ _ _ h => h) (Or.inr ⟨by rfl,rfl⟩) ?_ ?_;rotate_left
            ·simp only [Act.put,z_1,z_2,z_3,i64_w,i32_w];rfl
            refine pure_ (i:=24) (N:=some 83) (v:=undef) (a':=?_) (Mb 27 33554431) rfl rfl (any_of HT_.out (by kernel_rfl)) (fun _ _ _ h => h) (Or.inr ⟨by rfl,rfl⟩) ?_ ?_;rotate_left
            ·simp only [Act.put,z_1,z_2,z_3,i64_w,i32_w];rfl
            refine pure_ (i:=25) (N:=some 84) (v:=undef) (a':=?_) (Mb 27 67108863) rfl rfl (any_of HT_.out (by kernel_rfl)) (fun _ _ _ h => h) (Or.inr ⟨by rfl,rfl⟩) ?_ ?_;rotate_left
            ·simp only [Act.put,z_1,z_2,z_3,i64_w,i32_w];rfl
            refine pure_ (i:=26) (N:=some 85) (v:=?_) (a':=?_) (Mb 27 134217727) rfl rfl (any_of HT_.out (by kernel_rfl)) (fun _ _ _ h => h) (Or.inl ⟨by rfl,?_⟩) ?_ ?_;rotate_left
            ·intro w';go_simp;with_reducible rfl
            rotate_left
            ·simp only [Act.put,z_1,z_2,z_3,i64_w,i32_w];rfl
            refine done_ (done_of HT_.out (by kernel_rfl)) ?_
            try go_wp2
            go_ret
            exact ⟨by first|rfl|(simp [errW_none,errW_some] <;> rfl)|(simp [*,errW_none,errW_some] <;> rfl),zB⟩
          ·rw [if_neg c41] at H;exact absurd H (by simp)
         ·rw [if_neg c40] at H;have c40b0 : (((rd_T41 t314 x6_2).f3) == 0) = false:=beq_eq_false_iff_ne.mpr c40;have c40b1 : (((rd_T41 t314 x6_2).f3) != 0) = true:=bne_iff_ne.mpr c40
          by_cases c57 : (((rd_T41 t314 x6_2).f3) = 0)
          ·have c57b0 : (((rd_T41 t314 x6_2).f3) == 0) = true:=beq_iff_eq.mpr c57;exact absurd (c40b0.symm.trans c57b0) (by decide)
          ·rw [if_neg c57] at H;have c57b0 : (((rd_T41 t314 x6_2).f3) == 0) = false:=beq_eq_false_iff_ne.mpr c57;have c57b1 : (((rd_T41 t314 x6_2).f3) != 0) = true:=bne_iff_ne.mpr c57
           by_cases c61 : x6_2 < (t320.length : Int)
           ·rw [if_pos c61] at H;have c61b0 : decide (x6_2 < (t320.length : Int)) = true:=z_e c61;clear c61
            by_cases c62 : (!(((rd_T41 t320 x6_2).f0) == ((rd_T41 t314 x6_2).f0)) || (!(((rd_T41 t320 x6_2).f1) == ((rd_T41 t314 x6_2).f1)) || (!(((rd_T41 t320 x6_2).f2) == ((rd_T41 t314 x6_2).f2)) || (!(((rd_T41 t320 x6_2).f3) == ((rd_T41 t314 x6_2).f3)) || (!(((rd_T41 t320 x6_2).f4) == ((rd_T41 t314 x6_2).f4))))))) = true
            ·rw [if_pos c62] at H;have c62b0 : (!(((rd_T41 t320 x6_2).f0) == ((rd_T41 t314 x6_2).f0)) || (!(((rd_T41 t320 x6_2).f1) == ((rd_T41 t314 x6_2).f1)) || (!(((rd_T41 t320 x6_2).f2) == ((rd_T41 t314 x6_2).f2)) || (!(((rd_T41 t320 x6_2).f3) == ((rd_T41 t314 x6_2).f3)) || (!(((rd_T41 t320 x6_2).f4) == ((rd_T41 t314 x6_2).f4))))))) = true:=c62;clear c62;obtain rfl := Option.some.inj H;have hnb63 := NB319_324.out;have hnc63 := NB324_319.out;have hcz64_0 : wr.cell? ⟨gb319,0,none⟩ = some (.slice Ao8 t314.length co8):=(z_b BK319.out 0).trans rfl;have hcz64_1 : wr.cell? ⟨gb319,1,none⟩ = some (.int .i64 t317):=(z_b BK319.out 1).trans rfl;have hfz64_0 := z_4 BK319.out 0;have hfz64_1 := z_4 BK319.out 1;have p336 : 0 ≤ (x6_2 : Int):=z_9 (by first|(with_reducible assumption)|assumption);have q336 : x6_2 < (t314.length : Int):=z_9 (by first|(with_reducible assumption)|assumption);obtain ⟨ad336,e336,hx336_0,hx336_1,hx336_2,hx336_3,hx336_4⟩:=at_T41 (Kd.Q_reads' HO_320000.out).2.2 x6_2 p336 q336;cases e336;replace p336 := eq_true p336;replace q336 := eq_true q336;have p337 : 0 ≤ (x6_2 : Int):=z_9 (by first|(with_reducible assumption)|assumption);have q337 : x6_2 < (t314.length : Int):=z_9 (by first|(with_reducible assumption)|assumption);obtain ⟨ad337,e337,hx337_0,hx337_1,hx337_2,hx337_3,hx337_4⟩:=at_T41 (Kd.Q_reads' HO_320000.out).2.2 x6_2 p337 q337;obtain rfl : ad336 = ad337 := (by injection e337);replace p337 := eq_true p337;replace q337 := eq_true q337
             try go_wp2
             have n0_ := z_a (Kd.Q_drew HO_320000.out);have n1_ := z_a (Kd.Q_drew HO_325000.out);have n2_ := z_a (y_c BK319.out);have n3_ := z_a (y_c BK324.out);have n4_ := z_a (y_j HB.out);clear HO_320000;clear HO_325000;clear BK319;clear BK324;clear HB;have HO_320000 := n0_;have HO_325000 := n1_;have BK319 := n2_;have BK324 := n3_;have HB := n4_;clear n0_ n1_ n2_ n3_ n4_;have p341 : 0 ≤ (x6_2 : Int):=z_9 (by first|(with_reducible assumption)|assumption);have q341 : x6_2 < (t320.length : Int):=z_9 (by first|(with_reducible assumption)|assumption);obtain ⟨ad341,e341,hx341_0,hx341_1,hx341_2,hx341_3,hx341_4⟩:=at_T41 (Kd.Q_reads' HO_325000.out).2.2 x6_2 p341 q341;cases e341;replace p341 := eq_true p341;replace q341 := eq_true q341;have p342 : 0 ≤ (x6_2 : Int):=z_9 (by first|(with_reducible assumption)|assumption);have q342 : x6_2 < (t314.length : Int):=z_9 (by first|(with_reducible assumption)|assumption);obtain ⟨ad342,e342,hx342_0,hx342_1,hx342_2,hx342_3,hx342_4⟩:=at_T41 (Kd.Q_reads' HO_320000.out).2.2 x6_2 p342 q342;obtain rfl : ad336 = ad342 := (by injection e342);replace p342 := eq_true p342;replace q342 := eq_true q342
             refine start_ (n:=27) (S:=fun w' => w'.cell? ⟨gb324,0,none⟩ = some (.slice (some ad341) t320.length co12) ∧ w'.cell? ⟨gb324,1,none⟩ = some (.int .i64 t323) ∧ w'.cell? ⟨gb319,0,none⟩ = some (.slice (some ad336) t314.length co8) ∧ w'.cell? ⟨gb319,1,none⟩ = some (.int .i64 t317) ∧ w'.cell? (ad341.add ((x6_2).toNat * 5)) = some (.int .i64 ((rd_T41 t320 x6_2).f0)) ∧ w'.cell? ⟨(ad341.add ((x6_2).toNat * 5)).block,(ad341.add ((x6_2).toNat * 5)).off + 1,none⟩ = some (.int .i64 ((rd_T41 t320 x6_2).f1)) ∧ w'.cell? ⟨(ad341.add ((x6_2).toNat * 5)).block,(ad341.add ((x6_2).toNat * 5)).off + 2,none⟩ = some (.int .i64 ((rd_T41 t320 x6_2).f2)) ∧ w'.cell? ⟨(ad341.add ((x6_2).toNat * 5)).block,(ad341.add ((x6_2).toNat * 5)).off + 3,none⟩ = some (.int .i64 ((rd_T41 t320 x6_2).f3)) ∧ w'.cell? ⟨(ad341.add ((x6_2).toNat * 5)).block,(ad341.add ((x6_2).toNat * 5)).off + 4,none⟩ = some (.bool ((rd_T41 t320 x6_2).f4)) ∧ w'.cell? (ad336.add ((x6_2).toNat * 5)) = some (.int .i64 ((rd_T41 t314 x6_2).f0)) ∧ w'.cell? ⟨(ad336.add ((x6_2).toNat * 5)).block,(ad336.add ((x6_2).toNat * 5)).off + 1,none⟩ = some (.int .i64 ((rd_T41 t314 x6_2).f1)) ∧ w'.cell? ⟨(ad336.add ((x6_2).toNat * 5)).block,(ad336.add ((x6_2).toNat * 5)).off + 2,none⟩ = some (.int .i64 ((rd_T41 t314 x6_2).f2)) ∧ w'.cell? ⟨(ad336.add ((x6_2).toNat * 5)).block,(ad336.add ((x6_2).toNat * 5)).off + 3,none⟩ = some (.int .i64 ((rd_T41 t314 x6_2).f3)) ∧ w'.cell? ⟨(ad336.add ((x6_2).toNat * 5)).block,(ad336.add ((x6_2).toNat * 5)).off + 4,none⟩ = some (.bool ((rd_T41 t314 x6_2).f4))) (ds:=[]) #[false,false,false,false,false,false,false,false,false,false,false,false,false,false,false,false,false,false,false,false,false,false,false,false,false,false,false] (by kernel_rfl) rfl rfl ⟨(z_b BK324.out 0).trans rfl,(z_b BK324.out 1).trans rfl,(z_b BK319.out 0).trans rfl,(z_b BK319.out 1).trans rfl,hx341_0,hx341_1,hx341_2,hx341_3,hx341_4,hx342_0,hx342_1,hx342_2,hx342_3,hx342_4⟩ (fun hHeld => ?_);refine with_tabW laws_FnPoolDrop.tab11 laws_FnPoolDrop.bits11 (fun HT_ HW_ => ?_)
             generalize wr.drew = w65 at HO_320000 HO_325000 BK319 BK324 HB hx341_0 hx341_1 hx341_2 hx341_3 hx341_4 hx342_0 hx342_1 hx342_2 hx342_3 hx342_4 hHeld ⊢;refine pure_ (i:=0) (N:=some 59) (v:=?_) (a':=?_) (Mb 27 1) rfl rfl (any_of HT_.out (by kernel_rfl)) (fun _ _ _ h => h) (Or.inl ⟨by rfl,?_⟩) ?_ ?_;rotate_left
             ·intro w';go_simp;with_reducible rfl
             rotate_left
             ·simp only [Act.put,z_1,z_2,z_3,i64_w,i32_w];rfl
             refine pure_ (i:=1) (N:=some 60) (v:=?_) (a':=?_) (Mb 27 3) rfl rfl (any_of HT_.out (by kernel_rfl)) (fun _ _ _ h => h) (Or.inl ⟨by rfl,?_⟩) ?_ ?_;rotate_left
             ·intro w';go_simp;with_reducible rfl
             rotate_left
             ·simp only [Act.put,z_1,z_2,z_3,i64_w,i32_w];rfl
             refine pure_ (i:=2) (N:=some 61) (v:=undef) (a':=?_) (Mb 27 7) rfl rfl (any_of HT_.out (by kernel_rfl)) (fun _ _ _ h => h) (Or.inr ⟨by rfl,rfl⟩) ?_ ?_;rotate_left
             ·simp only [Act.put,z_1,z_2,z_3,i64_w,i32_w];rfl
             refine pure_ (i:=3) (N:=some 62) (v:=undef) (a':=?_) (Mb 27 15) rfl rfl (any_of HT_.out (by kernel_rfl)) (fun _ _ _ h => h) (Or.inr ⟨by rfl,rfl⟩) ?_ ?_;rotate_left
             ·simp only [Act.put,z_1,z_2,z_3,i64_w,i32_w];rfl
             refine pure_ (i:=4) (N:=some 63) (v:=undef) (a':=?_) (Mb 27 31) rfl rfl (any_of HT_.out (by kernel_rfl)) (fun _ _ _ h => h) (Or.inr ⟨by rfl,rfl⟩) ?_ ?_;rotate_left
             ·simp only [Act.put,z_1,z_2,z_3,i64_w,i32_w];rfl
             refine pure_ (i:=5) (N:=some 64) (v:=undef) (a':=?_) (Mb 27 63) rfl rfl (any_of HT_.out (by kernel_rfl)) (fun _ _ _ h => h) (Or.inr ⟨by rfl,rfl⟩) ?_ ?_;rotate_left
             ·simp only [Act.put,z_1,z_2,z_3,i64_w,i32_w];rfl
             refine pure_ (i:=6) (N:=some 65) (v:=undef) (a':=?_) (Mb 27 127) rfl rfl (any_of HT_.out (by kernel_rfl)) (fun _ _ _ h => h) (Or.inr ⟨by rfl,rfl⟩) ?_ ?_;rotate_left
             ·simp only [Act.put,z_1,z_2,z_3,i64_w,i32_w];rfl
             refine pure_ (i:=7) (N:=some 66) (v:=undef) (a':=?_) (Mb 27 255) rfl rfl (any_of HT_.out (by kernel_rfl)) (fun _ _ _ h => h) (Or.inr ⟨by rfl,rfl⟩) ?_ ?_;rotate_left
             ·simp only [Act.put,z_1,z_2,z_3,i64_w,i32_w];rfl
             refine pure_ (i:=8) (N:=some 67) (v:=undef) (a':=?_) (Mb 27 511) rfl rfl (any_of HT_.out (by kernel_rfl)) (fun _ _ _ h => h) (Or.inr ⟨by rfl,rfl⟩) ?_ ?_;rotate_left
             ·simp only [Act.put,z_1,z_2,z_3,i64_w,i32_w];rfl
             refine pure_ (i:=9) (N:=some 68) (v:=?_) (a':=?_) (Mb 27 1023) rfl rfl (any_of HT_.out (by kernel_rfl)) (fun _ _ _ h => h) (Or.inl ⟨by rfl,?_⟩) ?_ ?_;rotate_left
             ·intro w';go_simp;with_reducible rfl
             rotate_left
             ·simp only [Act.put,z_1,z_2,z_3,i64_w,i32_w];rfl
             refine pure_ (i:=10) (N:=some 69) (v:=?_) (a':=?_) (Mb 27 2047) rfl rfl (any_of HT_.out (by kernel_rfl)) (fun _ _ _ h => h) (Or.inl ⟨by rfl,?_⟩) ?_ ?_;rotate_left
             ·intro w';go_simp;with_reducible rfl
             rotate_left
             ·simp only [Act.put,z_1,z_2,z_3,i64_w,i32_w];rfl
             refine pure_ (i:=11) (N:=some 70) (v:=?_) (a':=?_) (Mb 27 4095) rfl rfl (any_of HT_.out (by kernel_rfl)) (fun _ _ _ h => h) (Or.inl ⟨by rfl,?_⟩) ?_ ?_;rotate_left
             ·intro w';go_simp;with_reducible rfl
             rotate_left
             ·simp only [Act.put,z_1,z_2,z_3,i64_w,i32_w];rfl
             refine pure_ (i:=12) (N:=some 71) (v:=?_) (a':=?_) (Mb 27 8191) rfl rfl (any_of HT_.out (by kernel_rfl)) (fun _ _ _ h => h) (Or.inl ⟨by rfl,?_⟩) ?_ ?_;rotate_left
             ·intro w';go_simp;with_reducible rfl
             rotate_left
             ·simp only [Act.put,z_1,z_2,z_3,i64_w,i32_w];rfl
             refine pure_ (i:=13) (N:=some 72) (v:=?_) (a':=?_) (Mb 27 16383) rfl rfl (any_of HT_.out (by kernel_rfl)) (fun _ _ _ h => h) (Or.inl ⟨by rfl,?_⟩) ?_ ?_;rotate_left
             ·intro w';go_simp;with_reducible rfl
             rotate_left
             ·simp only [Act.put,z_1,z_2,z_3,i64_w,i32_w];rfl
             refine pure_ (i:=14) (N:=some 73) (v:=?_) (a':=?_) (Mb 27 32767) rfl rfl (any_of HT_.out (by kernel_rfl)) (fun _ _ _ h => h) (Or.inl ⟨by rfl,?_⟩) ?_ ?_;rotate_left
             ·intro w';go_simp;with_reducible rfl
             rotate_left
             ·simp only [Act.put,z_1,z_2,z_3,i64_w,i32_w];rfl
             refine pure_ (i:=16) (N:=some 75) (v:=?_) (a':=?_) (Mb 27 98303) rfl rfl (any_of HT_.out (by kernel_rfl)) (fun _ _ _ h => h) (Or.inl ⟨by rfl,?_⟩) ?_ ?_;rotate_left
             ·intro w';go_simp;with_reducible rfl
             rotate_left
             ·simp only [Act.put,z_1,z_2,z_3,i64_w,i32_w];rfl
             refine pure_ (i:=19) (N:=some 78) (v:=?_) (a':=?_) (Mb 27 622591) rfl rfl (any_of HT_.out (by kernel_rfl)) (fun _ _ _ h => h) (Or.inl ⟨by rfl,?_⟩) ?_ ?_;rotate_left
             ·intro w';go_simp;with_reducible rfl
             rotate_left
             ·simp only [Act.put,z_1,z_2,z_3,i64_w,i32_w];rfl
             refine pure_ (i:=21) (N:=some 80) (v:=?_) (a':=?_) (Mb 27 2719743) rfl rfl (any_of HT_.out (by kernel_rfl)) (fun _ _ _ h => h) (Or.inl ⟨by rfl,?_⟩) ?_ ?_;rotate_left
             ·intro w';go_simp;with_reducible rfl
             rotate_left
             ·simp only [Act.put,z_1,z_2,z_3,i64_w,i32_w];rfl
             refine take_ (i:=15) (N:=some 74) (v:=?_) (a':=?_) (Mb 27 2752511) rfl rfl (take_ofW HT_.out HW_.out (by kernel_rfl)) (fun _ _ _ h => h) (Or.inl ⟨by rfl,?_⟩) hHeld ?_ ?_;rotate_left
             ·rintro w' ⟨s0,s1,s2,s3,s4,s5,s6,s7,s8,s9,s10,s11,s12,s13⟩;go_simp;with_reducible rfl
             rotate_left
             ·simp only [Act.put,z_1,z_2,z_3,i64_w,i32_w];rfl
             refine pure_ (i:=17) (N:=some 76) (v:=?_) (a':=?_) (Mb 27 2883583) rfl rfl (any_of HT_.out (by kernel_rfl)) (fun _ _ _ h => h) (Or.inl ⟨by rfl,?_⟩) ?_ ?_;rotate_left
             ·intro w';go_simp;with_reducible rfl
             rotate_left
             ·simp only [Act.put,z_1,z_2,z_3,i64_w,i32_w];rfl
             refine take_ (i:=18) (N:=some 77) (v:=?_) (a':=?_) (Mb 27 3145727) rfl rfl (take_ofW HT_.out HW_.out (by kernel_rfl)) (fun _ _ _ h => h) (Or.inl ⟨by rfl,?_⟩) hHeld ?_ ?_;rotate_left
             ·rintro w' ⟨s0,s1,s2,s3,s4,s5,s6,s7,s8,s9,s10,s11,s12,s13⟩;go_simp;with_reducible rfl
             rotate_left
             ·simp only [Act.put,z_1,z_2,z_3,i64_w,i32_w];rfl
             refine take_ (i:=20) (N:=some 79) (v:=?_) (a':=?_) (Mb 27 4194303) rfl rfl (take_ofW HT_.out HW_.out (by kernel_rfl)) (fun _ _ _ h => h) (Or.inl ⟨by rfl,?_⟩) hHeld ?_ ?_;rotate_left
             ·rintro w' ⟨s0,s1,s2,s3,s4,s5,s6,s7,s8,s9,s10,s11,s12,s13⟩;go_simp;with_reducible rfl
             rotate_left
             ·simp only [Act.put,z_1,z_2,z_3,i64_w,i32_w];rfl
             refine pure_ (i:=22) (N:=some 81) (v:=?_) (a':=?_) (Mb 27 8388607) rfl rfl (any_of HT_.out (by kernel_rfl)) (fun _ _ _ h => h) (Or.inl ⟨by rfl,?_⟩) ?_ ?_;rotate_left
             ·intro w';go_simp;with_reducible rfl
             rotate_left
             ·simp only [Act.put,z_1,z_2,z_3,i64_w,i32_w];rfl
             refine take_ (i:=23) (N:=some 82) (v:=?_) (a':=?_) (Mb 27 16777215) rfl rfl (take_ofW HT_.out HW_.out (by kernel_rfl)) (fun _ _ _ h => h) (Or.inl ⟨by rfl,?_⟩) hHeld ?_ ?_;rotate_left
             ·rintro w' ⟨s0,s1,s2,s3,s4,s5,s6,s7,s8,s9,s10,s11,s12,s13⟩;go_simp;with_reducible rfl
             rotate_left
             ·simp only [Act.put,z_1,z_2,z_3,i64_w,i32_w];rfl
             refine pure_ (i:=24) (N:=some 83) (v:=?_) (a':=?_) (Mb 27 33554431) rfl rfl (any_of HT_.out (by kernel_rfl)) (fun _ _ _ h => h) (Or.inl ⟨by rfl,?_⟩) ?_ ?_;rotate_left
             ·intro w';go_simp;with_reducible rfl
             rotate_left
             ·simp only [Act.put,z_1,z_2,z_3,i64_w,i32_w];rfl
             refine pure_ (i:=25) (N:=some 84) (v:=?_) (a':=?_) (Mb 27 67108863) rfl rfl (any_of HT_.out (by kernel_rfl)) (fun _ _ _ h => h) (Or.inl ⟨by rfl,?_⟩) ?_ ?_;rotate_left
             ·intro w';go_simp;with_reducible rfl
             rotate_left
             ·simp only [Act.put,z_1,z_2,z_3,i64_w,i32_w];rfl
             refine pure_ (i:=26) (N:=some 85) (v:=?_) (a':=?_) (Mb 27 134217727) rfl rfl (any_of HT_.out (by kernel_rfl)) (fun _ _ _ h => h) (Or.inl ⟨by rfl,?_⟩) ?_ ?_;rotate_left
             ·intro w';go_simp;with_reducible rfl
             rotate_left
             ·simp only [Act.put,z_1,z_2,z_3,i64_w,i32_w];rfl
             refine done_ (done_of HT_.out (by kernel_rfl)) ?_
             try go_wp2
             go_ret
             exact ⟨by first|rfl|(simp [errW_none,errW_some] <;> rfl)|(simp [*,errW_none,errW_some] <;> rfl),zB⟩
            ·rw [if_neg c62] at H;have c62b0 : (!(((rd_T41 t320 x6_2).f0) == ((rd_T41 t314 x6_2).f0)) || (!(((rd_T41 t320 x6_2).f1) == ((rd_T41 t314 x6_2).f1)) || (!(((rd_T41 t320 x6_2).f2) == ((rd_T41 t314 x6_2).f2)) || (!(((rd_T41 t320 x6_2).f3) == ((rd_T41 t314 x6_2).f3)) || (!(((rd_T41 t320 x6_2).f4) == ((rd_T41 t314 x6_2).f4))))))) = false:=by simpa using c62
             clear c62;have H' := z_a H;clear H;have hnb66 := NB319_324.out;have hnc66 := NB324_319.out;have hcz67_0 : wr.cell? ⟨gb319,0,none⟩ = some (.slice Ao8 t314.length co8):=(z_b BK319.out 0).trans rfl;have hcz67_1 : wr.cell? ⟨gb319,1,none⟩ = some (.int .i64 t317):=(z_b BK319.out 1).trans rfl;have hfz67_0 := z_4 BK319.out 0;have hfz67_1 := z_4 BK319.out 1;have p336 : 0 ≤ (x6_2 : Int):=z_9 (by first|(with_reducible assumption)|assumption);have q336 : x6_2 < (t314.length : Int):=z_9 (by first|(with_reducible assumption)|assumption);obtain ⟨ad336,e336,hx336_0,hx336_1,hx336_2,hx336_3,hx336_4⟩:=at_T41 (Kd.Q_reads' HO_320000.out).2.2 x6_2 p336 q336;cases e336;replace p336 := eq_true p336;replace q336 := eq_true q336;have p337 : 0 ≤ (x6_2 : Int):=z_9 (by first|(with_reducible assumption)|assumption);have q337 : x6_2 < (t314.length : Int):=z_9 (by first|(with_reducible assumption)|assumption);obtain ⟨ad337,e337,hx337_0,hx337_1,hx337_2,hx337_3,hx337_4⟩:=at_T41 (Kd.Q_reads' HO_320000.out).2.2 x6_2 p337 q337;obtain rfl : ad336 = ad337 := (by injection e337);replace p337 := eq_true p337;replace q337 := eq_true q337
             try go_wp2
             have n0_ := z_a (Kd.Q_drew HO_320000.out);have n1_ := z_a (Kd.Q_drew HO_325000.out);have n2_ := z_a (y_c BK319.out);have n3_ := z_a (y_c BK324.out);have n4_ := z_a (y_j HB.out);clear HO_320000;clear HO_325000;clear BK319;clear BK324;clear HB;have HO_320000 := n0_;have HO_325000 := n1_;have BK319 := n2_;have BK324 := n3_;have HB := n4_;clear n0_ n1_ n2_ n3_ n4_;have p341 : 0 ≤ (x6_2 : Int):=z_9 (by first|(with_reducible assumption)|assumption);have q341 : x6_2 < (t320.length : Int):=z_9 (by first|(with_reducible assumption)|assumption);obtain ⟨ad341,e341,hx341_0,hx341_1,hx341_2,hx341_3,hx341_4⟩:=at_T41 (Kd.Q_reads' HO_325000.out).2.2 x6_2 p341 q341;cases e341;replace p341 := eq_true p341;replace q341 := eq_true q341;have p342 : 0 ≤ (x6_2 : Int):=z_9 (by first|(with_reducible assumption)|assumption);have q342 : x6_2 < (t314.length : Int):=z_9 (by first|(with_reducible assumption)|assumption);obtain ⟨ad342,e342,hx342_0,hx342_1,hx342_2,hx342_3,hx342_4⟩:=at_T41 (Kd.Q_reads' HO_320000.out).2.2 x6_2 p342 q342;obtain rfl : ad336 = ad342 := (by injection e342);replace p342 := eq_true p342;replace q342 := eq_true q342
             refine start_ (n:=27) (S:=fun w' => w'.cell? ⟨gb324,0,none⟩ = some (.slice (some ad341) t320.length co12) ∧ w'.cell? ⟨gb324,1,none⟩ = some (.int .i64 t323) ∧ w'.cell? ⟨gb319,0,none⟩ = some (.slice (some ad336) t314.length co8) ∧ w'.cell? ⟨gb319,1,none⟩ = some (.int .i64 t317) ∧ w'.cell? (ad341.add ((x6_2).toNat * 5)) = some (.int .i64 ((rd_T41 t320 x6_2).f0)) ∧ w'.cell? ⟨(ad341.add ((x6_2).toNat * 5)).block,(ad341.add ((x6_2).toNat * 5)).off + 1,none⟩ = some (.int .i64 ((rd_T41 t320 x6_2).f1)) ∧ w'.cell? ⟨(ad341.add ((x6_2).toNat * 5)).block,(ad341.add ((x6_2).toNat * 5)).off + 2,none⟩ = some (.int .i64 ((rd_T41 t320 x6_2).f2)) ∧ w'.cell? ⟨(ad341.add ((x6_2).toNat * 5)).block,(ad341.add ((x6_2).toNat * 5)).off + 3,none⟩ = some (.int .i64 ((rd_T41 t320 x6_2).f3)) ∧ w'.cell? ⟨(ad341.add ((x6_2).toNat * 5)).block,(ad341.add ((x6_2).toNat * 5)).off + 4,none⟩ = some (.bool ((rd_T41 t320 x6_2).f4)) ∧ w'.cell? (ad336.add ((x6_2).toNat * 5)) = some (.int .i64 ((rd_T41 t314 x6_2).f0)) ∧ w'.cell? ⟨(ad336.add ((x6_2).toNat * 5)).block,(ad336.add ((x6_2).toNat * 5)).off + 1,none⟩ = some (.int .i64 ((rd_T41 t314 x6_2).f1)) ∧ w'.cell? ⟨(ad336.add ((x6_2).toNat * 5)).block,(ad336.add ((x6_2).toNat * 5)).off + 2,none⟩ = some (.int .i64 ((rd_T41 t314 x6_2).f2)) ∧ w'.cell? ⟨(ad336.add ((x6_2).toNat * 5)).block,(ad336.add ((x6_2).toNat * 5)).off + 3,none⟩ = some (.int .i64 ((rd_T41 t314 x6_2).f3)) ∧ w'.cell? ⟨(ad336.add ((x6_2).toNat * 5)).block,(ad336.add ((x6_2).toNat * 5)).off + 4,none⟩ = some (.bool ((rd_T41 t314 x6_2).f4))) (ds:=[]) #[false,false,false,false,false,false,false,false,false,false,false,false,false,false,false,false,false,false,false,false,false,false,false,false,false,false,false] (by kernel_rfl) rfl rfl ⟨(z_b BK324.out 0).trans rfl,(z_b BK324.out 1).trans rfl,(z_b BK319.out 0).trans rfl,(z_b BK319.out 1).trans rfl,hx341_0,hx341_1,hx341_2,hx341_3,hx341_4,hx342_0,hx342_1,hx342_2,hx342_3,hx342_4⟩ (fun hHeld => ?_);refine with_tabW laws_FnPoolDrop.tab11 laws_FnPoolDrop.bits11 (fun HT_ HW_ => ?_)
             generalize wr.drew = w68 at HO_320000 HO_325000 BK319 BK324 HB hx341_0 hx341_1 hx341_2 hx341_3 hx341_4 hx342_0 hx342_1 hx342_2 hx342_3 hx342_4 hHeld ⊢;refine pure_ (i:=0) (N:=some 59) (v:=?_) (a':=?_) (Mb 27 1) rfl rfl (any_of HT_.out (by kernel_rfl)) (fun _ _ _ h => h) (Or.inl ⟨by rfl,?_⟩) ?_ ?_;rotate_left
             ·intro w';go_simp;with_reducible rfl
             rotate_left
             ·simp only [Act.put,z_1,z_2,z_3,i64_w,i32_w];rfl
             refine pure_ (i:=1) (N:=some 60) (v:=?_) (a':=?_) (Mb 27 3) rfl rfl (any_of HT_.out (by kernel_rfl)) (fun _ _ _ h => h) (Or.inl ⟨by rfl,?_⟩) ?_ ?_;rotate_left
             ·intro w';go_simp;with_reducible rfl
             rotate_left
             ·simp only [Act.put,z_1,z_2,z_3,i64_w,i32_w];rfl
             refine pure_ (i:=2) (N:=some 61) (v:=undef) (a':=?_) (Mb 27 7) rfl rfl (any_of HT_.out (by kernel_rfl)) (fun _ _ _ h => h) (Or.inr ⟨by rfl,rfl⟩) ?_ ?_;rotate_left
             ·simp only [Act.put,z_1,z_2,z_3,i64_w,i32_w];rfl
             refine pure_ (i:=3) (N:=some 62) (v:=undef) (a':=?_) (Mb 27 15) rfl rfl (any_of HT_.out (by kernel_rfl)) (fun _ _ _ h => h) (Or.inr ⟨by rfl,rfl⟩) ?_ ?_;rotate_left
             ·simp only [Act.put,z_1,z_2,z_3,i64_w,i32_w];rfl
             refine pure_ (i:=4) (N:=some 63) (v:=undef) (a':=?_) (Mb 27 31) rfl rfl (any_of HT_.out (by kernel_rfl)) (fun _ _ _ h => h) (Or.inr ⟨by rfl,rfl⟩) ?_ ?_;rotate_left
             ·simp only [Act.put,z_1,z_2,z_3,i64_w,i32_w];rfl
             refine pure_ (i:=5) (N:=some 64) (v:=undef) (a':=?_) (Mb 27 63) rfl rfl (any_of HT_.out (by kernel_rfl)) (fun _ _ _ h => h) (Or.inr ⟨by rfl,rfl⟩) ?_ ?_;rotate_left
             ·simp only [Act.put,z_1,z_2,z_3,i64_w,i32_w];rfl
             refine pure_ (i:=6) (N:=some 65) (v:=undef) (a':=?_) (Mb 27 127) rfl rfl (any_of HT_.out (by kernel_rfl)) (fun _ _ _ h => h) (Or.inr ⟨by rfl,rfl⟩) ?_ ?_;rotate_left
             ·simp only [Act.put,z_1,z_2,z_3,i64_w,i32_w];rfl
             refine pure_ (i:=7) (N:=some 66) (v:=undef) (a':=?_) (Mb 27 255) rfl rfl (any_of HT_.out (by kernel_rfl)) (fun _ _ _ h => h) (Or.inr ⟨by rfl,rfl⟩) ?_ ?_;rotate_left
             ·simp only [Act.put,z_1,z_2,z_3,i64_w,i32_w];rfl
             refine pure_ (i:=8) (N:=some 67) (v:=undef) (a':=?_) (Mb 27 511) rfl rfl (any_of HT_.out (by kernel_rfl)) (fun _ _ _ h => h) (Or.inr ⟨by rfl,rfl⟩) ?_ ?_;rotate_left
             ·simp only [Act.put,z_1,z_2,z_3,i64_w,i32_w];rfl
             refine pure_ (i:=9) (N:=some 68) (v:=?_) (a':=?_) (Mb 27 1023) rfl rfl (any_of HT_.out (by kernel_rfl)) (fun _ _ _ h => h) (Or.inl ⟨by rfl,?_⟩) ?_ ?_;rotate_left
             ·intro w';go_simp;with_reducible rfl
             rotate_left
             ·simp only [Act.put,z_1,z_2,z_3,i64_w,i32_w];rfl
             refine pure_ (i:=10) (N:=some 69) (v:=?_) (a':=?_) (Mb 27 2047) rfl rfl (any_of HT_.out (by kernel_rfl)) (fun _ _ _ h => h) (Or.inl ⟨by rfl,?_⟩) ?_ ?_;rotate_left
             ·intro w';go_simp;with_reducible rfl
             rotate_left
             ·simp only [Act.put,z_1,z_2,z_3,i64_w,i32_w];rfl
             refine pure_ (i:=11) (N:=some 70) (v:=?_) (a':=?_) (Mb 27 4095) rfl rfl (any_of HT_.out (by kernel_rfl)) (fun _ _ _ h => h) (Or.inl ⟨by rfl,?_⟩) ?_ ?_;rotate_left
             ·intro w';go_simp;with_reducible rfl
             rotate_left
             ·simp only [Act.put,z_1,z_2,z_3,i64_w,i32_w];rfl
             refine pure_ (i:=12) (N:=some 71) (v:=?_) (a':=?_) (Mb 27 8191) rfl rfl (any_of HT_.out (by kernel_rfl)) (fun _ _ _ h => h) (Or.inl ⟨by rfl,?_⟩) ?_ ?_;rotate_left
             ·intro w';go_simp;with_reducible rfl
             rotate_left
             ·simp only [Act.put,z_1,z_2,z_3,i64_w,i32_w];rfl
             refine pure_ (i:=13) (N:=some 72) (v:=?_) (a':=?_) (Mb 27 16383) rfl rfl (any_of HT_.out (by kernel_rfl)) (fun _ _ _ h => h) (Or.inl ⟨by rfl,?_⟩) ?_ ?_;rotate_left
             ·intro w';go_simp;with_reducible rfl
             rotate_left
             ·simp only [Act.put,z_1,z_2,z_3,i64_w,i32_w];rfl
             refine pure_ (i:=14) (N:=some 73) (v:=?_) (a':=?_) (Mb 27 32767) rfl rfl (any_of HT_.out (by kernel_rfl)) (fun _ _ _ h => h) (Or.inl ⟨by rfl,?_⟩) ?_ ?_;rotate_left
             ·intro w';go_simp;with_reducible rfl
             rotate_left
             ·simp only [Act.put,z_1,z_2,z_3,i64_w,i32_w];rfl
             refine pure_ (i:=16) (N:=some 75) (v:=?_) (a':=?_) (Mb 27 98303) rfl rfl (any_of HT_.out (by kernel_rfl)) (fun _ _ _ h => h) (Or.inl ⟨by rfl,?_⟩) ?_ ?_;rotate_left
             ·intro w';go_simp;with_reducible rfl
             rotate_left
             ·simp only [Act.put,z_1,z_2,z_3,i64_w,i32_w];rfl
             refine pure_ (i:=19) (N:=some 78) (v:=?_) (a':=?_) (Mb 27 622591) rfl rfl (any_of HT_.out (by kernel_rfl)) (fun _ _ _ h => h) (Or.inl ⟨by rfl,?_⟩) ?_ ?_;rotate_left
             ·intro w';go_simp;with_reducible rfl
             rotate_left
             ·simp only [Act.put,z_1,z_2,z_3,i64_w,i32_w];rfl
             refine pure_ (i:=21) (N:=some 80) (v:=?_) (a':=?_) (Mb 27 2719743) rfl rfl (any_of HT_.out (by kernel_rfl)) (fun _ _ _ h => h) (Or.inl ⟨by rfl,?_⟩) ?_ ?_;rotate_left
             ·intro w';go_simp;with_reducible rfl
             rotate_left
             ·simp only [Act.put,z_1,z_2,z_3,i64_w,i32_w];rfl
             refine take_ (i:=15) (N:=some 74) (v:=?_) (a':=?_) (Mb 27 2752511) rfl rfl (take_ofW HT_.out HW_.out (by kernel_rfl)) (fun _ _ _ h => h) (Or.inl ⟨by rfl,?_⟩) hHeld ?_ ?_;rotate_left
             ·rintro w' ⟨s0,s1,s2,s3,s4,s5,s6,s7,s8,s9,s10,s11,s12,s13⟩;go_simp;with_reducible rfl
             rotate_left
             ·simp only [Act.put,z_1,z_2,z_3,i64_w,i32_w];rfl
             refine pure_ (i:=17) (N:=some 76) (v:=?_) (a':=?_) (Mb 27 2883583) rfl rfl (any_of HT_.out (by kernel_rfl)) (fun _ _ _ h => h) (Or.inl ⟨by rfl,?_⟩) ?_ ?_;rotate_left
             ·intro w';go_simp;with_reducible rfl
             rotate_left
             ·simp only [Act.put,z_1,z_2,z_3,i64_w,i32_w];rfl
             refine take_ (i:=18) (N:=some 77) (v:=?_) (a':=?_) (Mb 27 3145727) rfl rfl (take_ofW HT_.out HW_.out (by kernel_rfl)) (fun _ _ _ h => h) (Or.inl ⟨by rfl,?_⟩) hHeld ?_ ?_;rotate_left
             ·rintro w' ⟨s0,s1,s2,s3,s4,s5,s6,s7,s8,s9,s10,s11,s12,s13⟩;go_simp;with_reducible rfl
             rotate_left
             ·simp only [Act.put,z_1,z_2,z_3,i64_w,i32_w];rfl
             refine take_ (i:=20) (N:=some 79) (v:=?_) (a':=?_) (Mb 27 4194303) rfl rfl (take_ofW HT_.out HW_.out (by kernel_rfl)) (fun _ _ _ h => h) (Or.inl ⟨by rfl,?_⟩) hHeld ?_ ?_;rotate_left
             ·rintro w' ⟨s0,s1,s2,s3,s4,s5,s6,s7,s8,s9,s10,s11,s12,s13⟩;go_simp;with_reducible rfl
             rotate_left
             ·simp only [Act.put,z_1,z_2,z_3,i64_w,i32_w];rfl
             refine pure_ (i:=22) (N:=some 81) (v:=?_) (a':=?_) (Mb 27 8388607) rfl rfl (any_of HT_.out (by kernel_rfl)) (fun _ _ _ h => h) (Or.inl ⟨by rfl,?_⟩) ?_ ?_;rotate_left
             ·intro w';go_simp;with_reducible rfl
             rotate_left
             ·simp only [Act.put,z_1,z_2,z_3,i64_w,i32_w];rfl
             refine take_ (i:=23) (N:=some 82) (v:=?_) (a':=?_) (Mb 27 16777215) rfl rfl (take_ofW HT_.out HW_.out (by kernel_rfl)) (fun _ _ _ h => h) (Or.inl ⟨by rfl,?_⟩) hHeld ?_ ?_;rotate_left
             ·rintro w' ⟨s0,s1,s2,s3,s4,s5,s6,s7,s8,s9,s10,s11,s12,s13⟩;go_simp;with_reducible rfl
             rotate_left
             ·simp only [Act.put,z_1,z_2,z_3,i64_w,i32_w];rfl
             refine pure_ (i:=24) (N:=some 83) (v:=?_) (a':=?_) (Mb 27 33554431) rfl rfl (any_of HT_.out (by kernel_rfl)) (fun _ _ _ h => h) (Or.inl ⟨by rfl,?_⟩) ?_ ?_;rotate_left
             ·intro w';go_simp;with_reducible rfl
             rotate_left
             ·simp only [Act.put,z_1,z_2,z_3,i64_w,i32_w];rfl
             refine pure_ (i:=25) (N:=some 84) (v:=?_) (a':=?_) (Mb 27 67108863) rfl rfl (any_of HT_.out (by kernel_rfl)) (fun _ _ _ h => h) (Or.inl ⟨by rfl,?_⟩) ?_ ?_;rotate_left
             ·intro w';go_simp;with_reducible rfl
             rotate_left
             ·simp only [Act.put,z_1,z_2,z_3,i64_w,i32_w];rfl
             refine pure_ (i:=26) (N:=some 85) (v:=?_) (a':=?_) (Mb 27 134217727) rfl rfl (any_of HT_.out (by kernel_rfl)) (fun _ _ _ h => h) (Or.inl ⟨by rfl,?_⟩) ?_ ?_;rotate_left
             ·intro w';go_simp;with_reducible rfl
             rotate_left
             ·simp only [Act.put,z_1,z_2,z_3,i64_w,i32_w];rfl
             refine done_ (done_of HT_.out (by kernel_rfl)) ?_
             try go_wp2
             go_roundg k2
             case measure => have := HJ4.out; have := HK2.out; omega
             case rel => exact ⟨(wrap64 (x6_2 + 1)),(by first|rfl|(simp;done)|(simp [*];done)),H',⟨by have:=HJ4.out;have:=HK2.out;omega⟩,⟨by (with_reducible repeat (first|apply Kd.Q_alloc|apply Kd.Q_drewN|apply Kd.Q_drew));exact HO_320000.out⟩,⟨by (with_reducible repeat (first|apply Kd.Q_alloc|apply Kd.Q_drewN|apply Kd.Q_drew));exact HO_325000.out⟩,⟨by (with_reducible repeat (first|refine y_b ?_ _|refine y_c ?_|refine y_d ?_ _));exact BK319.out⟩,⟨by (with_reducible repeat (first|refine y_b ?_ _|refine y_c ?_|refine y_d ?_ _));exact BK324.out⟩,⟨zB⟩⟩
           ·rw [if_neg c61] at H;exact absurd H (by simp)
        ·rw [if_neg c39] at H;have c39b0 : (((rd_T41 t314 x6_2).f1) == t318) = false:=beq_eq_false_iff_ne.mpr c39;have c39b1 : (((rd_T41 t314 x6_2).f1) != t318) = true:=bne_iff_ne.mpr c39
         by_cases c69 : x6_2 < (t320.length : Int)
         ·rw [if_pos c69] at H;have c69b0 : decide (x6_2 < (t320.length : Int)) = true:=z_e c69;clear c69
          by_cases c70 : (!(((rd_T41 t320 x6_2).f0) == ((rd_T41 t314 x6_2).f0)) || (!(((rd_T41 t320 x6_2).f1) == ((rd_T41 t314 x6_2).f1)) || (!(((rd_T41 t320 x6_2).f2) == ((rd_T41 t314 x6_2).f2)) || (!(((rd_T41 t320 x6_2).f3) == ((rd_T41 t314 x6_2).f3)) || (!(((rd_T41 t320 x6_2).f4) == ((rd_T41 t314 x6_2).f4))))))) = true
          ·rw [if_pos c70] at H;have c70b0 : (!(((rd_T41 t320 x6_2).f0) == ((rd_T41 t314 x6_2).f0)) || (!(((rd_T41 t320 x6_2).f1) == ((rd_T41 t314 x6_2).f1)) || (!(((rd_T41 t320 x6_2).f2) == ((rd_T41 t314 x6_2).f2)) || (!(((rd_T41 t320 x6_2).f3) == ((rd_T41 t314 x6_2).f3)) || (!(((rd_T41 t320 x6_2).f4) == ((rd_T41 t314 x6_2).f4))))))) = true:=c70;clear c70;obtain rfl := Option.some.inj H;have hnb71 := NB319_324.out;have hnc71 := NB324_319.out;have hcz72_0 : wr.cell? ⟨gb319,0,none⟩ = some (.slice Ao8 t314.length co8):=(z_b BK319.out 0).trans rfl;have hcz72_1 : wr.cell? ⟨gb319,1,none⟩ = some (.int .i64 t317):=(z_b BK319.out 1).trans rfl;have hfz72_0 := z_4 BK319.out 0;have hfz72_1 := z_4 BK319.out 1;have p336 : 0 ≤ (x6_2 : Int):=z_9 (by first|(with_reducible assumption)|assumption);have q336 : x6_2 < (t314.length : Int):=z_9 (by first|(with_reducible assumption)|assumption);obtain ⟨ad336,e336,hx336_0,hx336_1,hx336_2,hx336_3,hx336_4⟩:=at_T41 (Kd.Q_reads' HO_320000.out).2.2 x6_2 p336 q336;cases e336;replace p336 := eq_true p336;replace q336 := eq_true q336
           try go_wp2
           have n0_ := z_a (Kd.Q_drew HO_320000.out);have n1_ := z_a (Kd.Q_drew HO_325000.out);have n2_ := z_a (y_c BK319.out);have n3_ := z_a (y_c BK324.out);have n4_ := z_a (y_j HB.out);clear HO_320000;clear HO_325000;clear BK319;clear BK324;clear HB;have HO_320000 := n0_;have HO_325000 := n1_;have BK319 := n2_;have BK324 := n3_;have HB := n4_;clear n0_ n1_ n2_ n3_ n4_;have p343 : 0 ≤ (x6_2 : Int):=z_9 (by first|(with_reducible assumption)|assumption);have q343 : x6_2 < (t320.length : Int):=z_9 (by first|(with_reducible assumption)|assumption);obtain ⟨ad343,e343,hx343_0,hx343_1,hx343_2,hx343_3,hx343_4⟩:=at_T41 (Kd.Q_reads' HO_325000.out).2.2 x6_2 p343 q343;cases e343;replace p343 := eq_true p343;replace q343 := eq_true q343;have p344 : 0 ≤ (x6_2 : Int):=z_9 (by first|(with_reducible assumption)|assumption);have q344 : x6_2 < (t314.length : Int):=z_9 (by first|(with_reducible assumption)|assumption);obtain ⟨ad344,e344,hx344_0,hx344_1,hx344_2,hx344_3,hx344_4⟩:=at_T41 (Kd.Q_reads' HO_320000.out).2.2 x6_2 p344 q344;obtain rfl : ad336 = ad344 := (by injection e344);replace p344 := eq_true p344;replace q344 := eq_true q344
           refine start_ (n:=27) (S:=fun w' => w'.cell? ⟨gb324,0,none⟩ = some (.slice (some ad343) t320.length co12) ∧ w'.cell? ⟨gb324,1,none⟩ = some (.int .i64 t323) ∧ w'.cell? ⟨gb319,0,none⟩ = some (.slice (some ad336) t314.length co8) ∧ w'.cell? ⟨gb319,1,none⟩ = some (.int .i64 t317) ∧ w'.cell? (ad343.add ((x6_2).toNat * 5)) = some (.int .i64 ((rd_T41 t320 x6_2).f0)) ∧ w'.cell? ⟨(ad343.add ((x6_2).toNat * 5)).block,(ad343.add ((x6_2).toNat * 5)).off + 1,none⟩ = some (.int .i64 ((rd_T41 t320 x6_2).f1)) ∧ w'.cell? ⟨(ad343.add ((x6_2).toNat * 5)).block,(ad343.add ((x6_2).toNat * 5)).off + 2,none⟩ = some (.int .i64 ((rd_T41 t320 x6_2).f2)) ∧ w'.cell? ⟨(ad343.add ((x6_2).toNat * 5)).block,(ad343.add ((x6_2).toNat * 5)).off + 3,none⟩ = some (.int .i64 ((rd_T41 t320 x6_2).f3)) ∧ w'.cell? ⟨(ad343.add ((x6_2).toNat * 5)).block,(ad343.add ((x6_2).toNat * 5)).off + 4,none⟩ = some (.bool ((rd_T41 t320 x6_2).f4)) ∧ w'.cell? (ad336.add ((x6_2).toNat * 5)) = some (.int .i64 ((rd_T41 t314 x6_2).f0)) ∧ w'.cell? ⟨(ad336.add ((x6_2).toNat * 5)).block,(ad336.add ((x6_2).toNat * 5)).off + 1,none⟩ = some (.int .i64 ((rd_T41 t314 x6_2).f1)) ∧ w'.cell? ⟨(ad336.add ((x6_2).toNat * 5)).block,(ad336.add ((x6_2).toNat * 5)).off + 2,none⟩ = some (.int .i64 ((rd_T41 t314 x6_2).f2)) ∧ w'.cell? ⟨(ad336.add ((x6_2).toNat * 5)).block,(ad336.add ((x6_2).toNat * 5)).off + 3,none⟩ = some (.int .i64 ((rd_T41 t314 x6_2).f3)) ∧ w'.cell? ⟨(ad336.add ((x6_2).toNat * 5)).block,(ad336.add ((x6_2).toNat * 5)).off + 4,none⟩ = some (.bool ((rd_T41 t314 x6_2).f4))) (ds:=[]) #[false,false,false,false,false,false,false,false,false,false,false,false,false,false,false,false,false,false,false,false,false,false,false,false,false,false,false] (by kernel_rfl) rfl rfl ⟨(z_b BK324.out 0).trans rfl,(z_b BK324.out 1).trans rfl,(z_b BK319.out 0).trans rfl,(z_b BK319.out 1).trans rfl,hx343_0,hx343_1,hx343_2,hx343_3,hx343_4,hx344_0,hx344_1,hx344_2,hx344_3,hx344_4⟩ (fun hHeld => ?_);refine with_tabW laws_FnPoolDrop.tab11 laws_FnPoolDrop.bits11 (fun HT_ HW_ => ?_)
           generalize wr.drew = w73 at HO_320000 HO_325000 BK319 BK324 HB hx343_0 hx343_1 hx343_2 hx343_3 hx343_4 hx344_0 hx344_1 hx344_2 hx344_3 hx344_4 hHeld ⊢;refine pure_ (i:=0) (N:=some 59) (v:=?_) (a':=?_) (Mb 27 1) rfl rfl (any_of HT_.out (by kernel_rfl)) (fun _ _ _ h => h) (Or.inl ⟨by rfl,?_⟩) ?_ ?_;rotate_left
           ·intro w';go_simp;with_reducible rfl
           rotate_left
           ·simp only [Act.put,z_1,z_2,z_3,i64_w,i32_w];rfl
           refine pure_ (i:=1) (N:=some 60) (v:=?_) (a':=?_) (Mb 27 3) rfl rfl (any_of HT_.out (by kernel_rfl)) (fun _ _ _ h => h) (Or.inl ⟨by rfl,?_⟩) ?_ ?_;rotate_left
           ·intro w';go_simp;with_reducible rfl
           rotate_left
           ·simp only [Act.put,z_1,z_2,z_3,i64_w,i32_w];rfl
           refine pure_ (i:=2) (N:=some 61) (v:=undef) (a':=?_) (Mb 27 7) rfl rfl (any_of HT_.out (by kernel_rfl)) (fun _ _ _ h => h) (Or.inr ⟨by rfl,rfl⟩) ?_ ?_;rotate_left
           ·simp only [Act.put,z_1,z_2,z_3,i64_w,i32_w];rfl
           refine pure_ (i:=3) (N:=some 62) (v:=undef) (a':=?_) (Mb 27 15) rfl rfl (any_of HT_.out (by kernel_rfl)) (fun _ _ _ h => h) (Or.inr ⟨by rfl,rfl⟩) ?_ ?_;rotate_left
           ·simp only [Act.put,z_1,z_2,z_3,i64_w,i32_w];rfl
           refine pure_ (i:=4) (N:=some 63) (v:=undef) (a':=?_) (Mb 27 31) rfl rfl (any_of HT_.out (by kernel_rfl)) (fun _ _ _ h => h) (Or.inr ⟨by rfl,rfl⟩) ?_ ?_;rotate_left
           ·simp only [Act.put,z_1,z_2,z_3,i64_w,i32_w];rfl
           refine pure_ (i:=5) (N:=some 64) (v:=undef) (a':=?_) (Mb 27 63) rfl rfl (any_of HT_.out (by kernel_rfl)) (fun _ _ _ h => h) (Or.inr ⟨by rfl,rfl⟩) ?_ ?_;rotate_left
           ·simp only [Act.put,z_1,z_2,z_3,i64_w,i32_w];rfl
           refine pure_ (i:=6) (N:=some 65) (v:=undef) (a':=?_) (Mb 27 127) rfl rfl (any_of HT_.out (by kernel_rfl)) (fun _ _ _ h => h) (Or.inr ⟨by rfl,rfl⟩) ?_ ?_;rotate_left
           ·simp only [Act.put,z_1,z_2,z_3,i64_w,i32_w];rfl
           refine pure_ (i:=7) (N:=some 66) (v:=undef) (a':=?_) (Mb 27 255) rfl rfl (any_of HT_.out (by kernel_rfl)) (fun _ _ _ h => h) (Or.inr ⟨by rfl,rfl⟩) ?_ ?_;rotate_left
           ·simp only [Act.put,z_1,z_2,z_3,i64_w,i32_w];rfl
           refine pure_ (i:=8) (N:=some 67) (v:=undef) (a':=?_) (Mb 27 511) rfl rfl (any_of HT_.out (by kernel_rfl)) (fun _ _ _ h => h) (Or.inr ⟨by rfl,rfl⟩) ?_ ?_;rotate_left
           ·simp only [Act.put,z_1,z_2,z_3,i64_w,i32_w];rfl
           refine pure_ (i:=9) (N:=some 68) (v:=?_) (a':=?_) (Mb 27 1023) rfl rfl (any_of HT_.out (by kernel_rfl)) (fun _ _ _ h => h) (Or.inl ⟨by rfl,?_⟩) ?_ ?_;rotate_left
           ·intro w';go_simp;with_reducible rfl
           rotate_left
           ·simp only [Act.put,z_1,z_2,z_3,i64_w,i32_w];rfl
           refine pure_ (i:=10) (N:=some 69) (v:=?_) (a':=?_) (Mb 27 2047) rfl rfl (any_of HT_.out (by kernel_rfl)) (fun _ _ _ h => h) (Or.inl ⟨by rfl,?_⟩) ?_ ?_;rotate_left
           ·intro w';go_simp;with_reducible rfl
           rotate_left
           ·simp only [Act.put,z_1,z_2,z_3,i64_w,i32_w];rfl
           refine pure_ (i:=11) (N:=some 70) (v:=?_) (a':=?_) (Mb 27 4095) rfl rfl (any_of HT_.out (by kernel_rfl)) (fun _ _ _ h => h) (Or.inl ⟨by rfl,?_⟩) ?_ ?_;rotate_left
           ·intro w';go_simp;with_reducible rfl
           rotate_left
           ·simp only [Act.put,z_1,z_2,z_3,i64_w,i32_w];rfl
           refine pure_ (i:=12) (N:=some 71) (v:=?_) (a':=?_) (Mb 27 8191) rfl rfl (any_of HT_.out (by kernel_rfl)) (fun _ _ _ h => h) (Or.inl ⟨by rfl,?_⟩) ?_ ?_;rotate_left
           ·intro w';go_simp;with_reducible rfl
           rotate_left
           ·simp only [Act.put,z_1,z_2,z_3,i64_w,i32_w];rfl
           refine pure_ (i:=13) (N:=some 72) (v:=?_) (a':=?_) (Mb 27 16383) rfl rfl (any_of HT_.out (by kernel_rfl)) (fun _ _ _ h => h) (Or.inl ⟨by rfl,?_⟩) ?_ ?_;rotate_left
           ·intro w';go_simp;with_reducible rfl
           rotate_left
           ·simp only [Act.put,z_1,z_2,z_3,i64_w,i32_w];rfl
           refine pure_ (i:=14) (N:=some 73) (v:=?_) (a':=?_) (Mb 27 32767) rfl rfl (any_of HT_.out (by kernel_rfl)) (fun _ _ _ h => h) (Or.inl ⟨by rfl,?_⟩) ?_ ?_;rotate_left
           ·intro w';go_simp;with_reducible rfl
           rotate_left
           ·simp only [Act.put,z_1,z_2,z_3,i64_w,i32_w];rfl
           refine pure_ (i:=16) (N:=some 75) (v:=?_) (a':=?_) (Mb 27 98303) rfl rfl (any_of HT_.out (by kernel_rfl)) (fun _ _ _ h => h) (Or.inl ⟨by rfl,?_⟩) ?_ ?_;rotate_left
           ·intro w';go_simp;with_reducible rfl
           rotate_left
           ·simp only [Act.put,z_1,z_2,z_3,i64_w,i32_w];rfl
           refine pure_ (i:=19) (N:=some 78) (v:=?_) (a':=?_) (Mb 27 622591) rfl rfl (any_of HT_.out (by kernel_rfl)) (fun _ _ _ h => h) (Or.inl ⟨by rfl,?_⟩) ?_ ?_;rotate_left
           ·intro w';go_simp;with_reducible rfl
           rotate_left
           ·simp only [Act.put,z_1,z_2,z_3,i64_w,i32_w];rfl
           refine pure_ (i:=21) (N:=some 80) (v:=?_) (a':=?_) (Mb 27 2719743) rfl rfl (any_of HT_.out (by kernel_rfl)) (fun _ _ _ h => h) (Or.inl ⟨by rfl,?_⟩) ?_ ?_;rotate_left
           ·intro w';go_simp;with_reducible rfl
           rotate_left
           ·simp only [Act.put,z_1,z_2,z_3,i64_w,i32_w];rfl
           refine take_ (i:=15) (N:=some 74) (v:=?_) (a':=?_) (Mb 27 2752511) rfl rfl (take_ofW HT_.out HW_.out (by kernel_rfl)) (fun _ _ _ h => h) (Or.inl ⟨by rfl,?_⟩) hHeld ?_ ?_;rotate_left
           ·rintro w' ⟨s0,s1,s2,s3,s4,s5,s6,s7,s8,s9,s10,s11,s12,s13⟩;go_simp;with_reducible rfl
           rotate_left
           ·simp only [Act.put,z_1,z_2,z_3,i64_w,i32_w];rfl
           refine pure_ (i:=17) (N:=some 76) (v:=?_) (a':=?_) (Mb 27 2883583) rfl rfl (any_of HT_.out (by kernel_rfl)) (fun _ _ _ h => h) (Or.inl ⟨by rfl,?_⟩) ?_ ?_;rotate_left
           ·intro w';go_simp;with_reducible rfl
           rotate_left
           ·simp only [Act.put,z_1,z_2,z_3,i64_w,i32_w];rfl
           refine take_ (i:=18) (N:=some 77) (v:=?_) (a':=?_) (Mb 27 3145727) rfl rfl (take_ofW HT_.out HW_.out (by kernel_rfl)) (fun _ _ _ h => h) (Or.inl ⟨by rfl,?_⟩) hHeld ?_ ?_;rotate_left
           ·rintro w' ⟨s0,s1,s2,s3,s4,s5,s6,s7,s8,s9,s10,s11,s12,s13⟩;go_simp;with_reducible rfl
           rotate_left
           ·simp only [Act.put,z_1,z_2,z_3,i64_w,i32_w];rfl
           refine take_ (i:=20) (N:=some 79) (v:=?_) (a':=?_) (Mb 27 4194303) rfl rfl (take_ofW HT_.out HW_.out (by kernel_rfl)) (fun _ _ _ h => h) (Or.inl ⟨by rfl,?_⟩) hHeld ?_ ?_;rotate_left
           ·rintro w' ⟨s0,s1,s2,s3,s4,s5,s6,s7,s8,s9,s10,s11,s12,s13⟩;go_simp;with_reducible rfl
           rotate_left
           ·simp only [Act.put,z_1,z_2,z_3,i64_w,i32_w];rfl
           refine pure_ (i:=22) (N:=some 81) (v:=?_) (a':=?_) (Mb 27 8388607) rfl rfl (any_of HT_.out (by kernel_rfl)) (fun _ _ _ h => h) (Or.inl ⟨by rfl,?_⟩) ?_ ?_;rotate_left
           ·intro w';go_simp;with_reducible rfl
           rotate_left
           ·simp only [Act.put,z_1,z_2,z_3,i64_w,i32_w];rfl
           refine take_ (i:=23) (N:=some 82) (v:=?_) (a':=?_) (Mb 27 16777215) rfl rfl (take_ofW HT_.out HW_.out (by kernel_rfl)) (fun _ _ _ h => h) (Or.inl ⟨by rfl,?_⟩) hHeld ?_ ?_;rotate_left
           ·rintro w' ⟨s0,s1,s2,s3,s4,s5,s6,s7,s8,s9,s10,s11,s12,s13⟩;go_simp;with_reducible rfl
           rotate_left
           ·simp only [Act.put,z_1,z_2,z_3,i64_w,i32_w];rfl
           refine pure_ (i:=24) (N:=some 83) (v:=?_) (a':=?_) (Mb 27 33554431) rfl rfl (any_of HT_.out (by kernel_rfl)) (fun _ _ _ h => h) (Or.inl ⟨by rfl,?_⟩) ?_ ?_;rotate_left
           ·intro w';go_simp;with_reducible rfl
           rotate_left
           ·simp only [Act.put,z_1,z_2,z_3,i64_w,i32_w];rfl
           refine pure_ (i:=25) (N:=some 84) (v:=?_) (a':=?_) (Mb 27 67108863) rfl rfl (any_of HT_.out (by kernel_rfl)) (fun _ _ _ h => h) (Or.inl ⟨by rfl,?_⟩) ?_ ?_;rotate_left
           ·intro w';go_simp;with_reducible rfl
           rotate_left
           ·simp only [Act.put,z_1,z_2,z_3,i64_w,i32_w];rfl
           refine pure_ (i:=26) (N:=some 85) (v:=?_) (a':=?_) (Mb 27 134217727) rfl rfl (any_of HT_.out (by kernel_rfl)) (fun _ _ _ h => h) (Or.inl ⟨by rfl,?_⟩) ?_ ?_;rotate_left
           ·intro w';go_simp;with_reducible rfl
           rotate_left
           ·simp only [Act.put,z_1,z_2,z_3,i64_w,i32_w];rfl
           refine done_ (done_of HT_.out (by kernel_rfl)) ?_
           try go_wp2
           go_ret
           exact ⟨by first|rfl|(simp [errW_none,errW_some] <;> rfl)|(simp [*,errW_none,errW_some] <;> rfl),zB⟩
          ·rw [if_neg c70] at H;have c70b0 : (!(((rd_T41 t320 x6_2).f0) == ((rd_T41 t314 x6_2).f0)) || (!(((rd_T41 t320 x6_2).f1) == ((rd_T41 t314 x6_2).f1)) || (!(((rd_T41 t320 x6_2).f2) == ((rd_T41 t314 x6_2).f2)) || (!(((rd_T41 t320 x6_2).f3) == ((rd_T41 t314 x6_2).f3)) || (!(((rd_T41 t320 x6_2).f4) == ((rd_T41 t314 x6_2).f4))))))) = false:=by simpa using c70
           clear c70;have H' := z_a H;clear H;have hnb74 := NB319_324.out;have hnc74 := NB324_319.out;have hcz75_0 : wr.cell? ⟨gb319,0,none⟩ = some (.slice Ao8 t314.length co8):=(z_b BK319.out 0).trans rfl;have hcz75_1 : wr.cell? ⟨gb319,1,none⟩ = some (.int .i64 t317):=(z_b BK319.out 1).trans rfl;have hfz75_0 := z_4 BK319.out 0;have hfz75_1 := z_4 BK319.out 1;have p336 : 0 ≤ (x6_2 : Int):=z_9 (by first|(with_reducible assumption)|assumption);have q336 : x6_2 < (t314.length : Int):=z_9 (by first|(with_reducible assumption)|assumption);obtain ⟨ad336,e336,hx336_0,hx336_1,hx336_2,hx336_3,hx336_4⟩:=at_T41 (Kd.Q_reads' HO_320000.out).2.2 x6_2 p336 q336;cases e336;replace p336 := eq_true p336;replace q336 := eq_true q336
           try go_wp2
           have n0_ := z_a (Kd.Q_drew HO_320000.out);have n1_ := z_a (Kd.Q_drew HO_325000.out);have n2_ := z_a (y_c BK319.out);have n3_ := z_a (y_c BK324.out);have n4_ := z_a (y_j HB.out);clear HO_320000;clear HO_325000;clear BK319;clear BK324;clear HB;have HO_320000 := n0_;have HO_325000 := n1_;have BK319 := n2_;have BK324 := n3_;have HB := n4_;clear n0_ n1_ n2_ n3_ n4_;have p343 : 0 ≤ (x6_2 : Int):=z_9 (by first|(with_reducible assumption)|assumption);have q343 : x6_2 < (t320.length : Int):=z_9 (by first|(with_reducible assumption)|assumption);obtain ⟨ad343,e343,hx343_0,hx343_1,hx343_2,hx343_3,hx343_4⟩:=at_T41 (Kd.Q_reads' HO_325000.out).2.2 x6_2 p343 q343;cases e343;replace p343 := eq_true p343;replace q343 := eq_true q343;have p344 : 0 ≤ (x6_2 : Int):=z_9 (by first|(with_reducible assumption)|assumption);have q344 : x6_2 < (t314.length : Int):=z_9 (by first|(with_reducible assumption)|assumption);obtain ⟨ad344,e344,hx344_0,hx344_1,hx344_2,hx344_3,hx344_4⟩:=at_T41 (Kd.Q_reads' HO_320000.out).2.2 x6_2 p344 q344;obtain rfl : ad336 = ad344 := (by injection e344);replace p344 := eq_true p344;replace q344 := eq_true q344
           refine start_ (n:=27) (S:=fun w' => w'.cell? ⟨gb324,0,none⟩ = some (.slice (some ad343) t320.length co12) ∧ w'.cell? ⟨gb324,1,none⟩ = some (.int .i64 t323) ∧ w'.cell? ⟨gb319,0,none⟩ = some (.slice (some ad336) t314.length co8) ∧ w'.cell? ⟨gb319,1,none⟩ = some (.int .i64 t317) ∧ w'.cell? (ad343.add ((x6_2).toNat * 5)) = some (.int .i64 ((rd_T41 t320 x6_2).f0)) ∧ w'.cell? ⟨(ad343.add ((x6_2).toNat * 5)).block,(ad343.add ((x6_2).toNat * 5)).off + 1,none⟩ = some (.int .i64 ((rd_T41 t320 x6_2).f1)) ∧ w'.cell? ⟨(ad343.add ((x6_2).toNat * 5)).block,(ad343.add ((x6_2).toNat * 5)).off + 2,none⟩ = some (.int .i64 ((rd_T41 t320 x6_2).f2)) ∧ w'.cell? ⟨(ad343.add ((x6_2).toNat * 5)).block,(ad343.add ((x6_2).toNat * 5)).off + 3,none⟩ = some (.int .i64 ((rd_T41 t320 x6_2).f3)) ∧ w'.cell? ⟨(ad343.add ((x6_2).toNat * 5)).block,(ad343.add ((x6_2).toNat * 5)).off + 4,none⟩ = some (.bool ((rd_T41 t320 x6_2).f4)) ∧ w'.cell? (ad336.add ((x6_2).toNat * 5)) = some (.int .i64 ((rd_T41 t314 x6_2).f0)) ∧ w'.cell? ⟨(ad336.add ((x6_2).toNat * 5)).block,(ad336.add ((x6_2).toNat * 5)).off + 1,none⟩ = some (.int .i64 ((rd_T41 t314 x6_2).f1)) ∧ w'.cell? ⟨(ad336.add ((x6_2).toNat * 5)).block,(ad336.add ((x6_2).toNat * 5)).off + 2,none⟩ = some (.int .i64 ((rd_T41 t314 x6_2).f2)) ∧ w'.cell? ⟨(ad336.add ((x6_2).toNat * 5)).block,(ad336.add ((x6_2).toNat * 5)).off + 3,none⟩ = some (.int .i64 ((rd_T41 t314 x6_2).f3)) ∧ w'.cell? ⟨(ad336.add ((x6_2).toNat * 5)).block,(ad336.add ((x6_2).toNat * 5)).off + 4,none⟩ = some (.bool ((rd_T41 t314 x6_2).f4))) (ds:=[]) #[false,false,false,false,false,false,false,false,false,false,false,false,false,false,false,false,false,false,false,false,false,false,false,false,false,false,false] (by kernel_rfl) rfl rfl ⟨(z_b BK324.out 0).trans rfl,(z_b BK324.out 1).trans rfl,(z_b BK319.out 0).trans rfl,(z_b BK319.out 1).trans rfl,hx343_0,hx343_1,hx343_2,hx343_3,hx343_4,hx344_0,hx344_1,hx344_2,hx344_3,hx344_4⟩ (fun hHeld => ?_);refine with_tabW laws_FnPoolDrop.tab11 laws_FnPoolDrop.bits11 (fun HT_ HW_ => ?_)
           generalize wr.drew = w76 at HO_320000 HO_325000 BK319 BK324 HB hx343_0 hx343_1 hx343_2 hx343_3 hx343_4 hx344_0 hx344_1 hx344_2 hx344_3 hx344_4 hHeld ⊢;refine pure_ (i:=0) (N:=some 59) (v:=?_) (a':=?_) (Mb 27 1) rfl rfl (any_of HT_.out (by kernel_rfl)) (fun _ _ _ h => h) (Or.inl ⟨by rfl,?_⟩) ?_ ?_;rotate_left
           ·intro w';go_simp;with_reducible rfl
           rotate_left
           ·simp only [Act.put,z_1,z_2,z_3,i64_w,i32_w];rfl
           refine pure_ (i:=1) (N:=some 60) (v:=?_) (a':=?_) (Mb 27 3) rfl rfl (any_of HT_.out (by kernel_rfl)) (fun _ _ _ h => h) (Or.inl ⟨by rfl,?_⟩) ?_ ?_;rotate_left
           ·intro w';go_simp;with_reducible rfl
           rotate_left
           ·simp only [Act.put,z_1,z_2,z_3,i64_w,i32_w];rfl
           refine pure_ (i:=2) (N:=some 61) (v:=undef) (a':=?_) (Mb 27 7) rfl rfl (any_of HT_.out (by kernel_rfl)) (fun _ _ _ h => h) (Or.inr ⟨by rfl,rfl⟩) ?_ ?_;rotate_left
           ·simp only [Act.put,z_1,z_2,z_3,i64_w,i32_w];rfl
           refine pure_ (i:=3) (N:=some 62) (v:=undef) (a':=?_) (Mb 27 15) rfl rfl (any_of HT_.out (by kernel_rfl)) (fun _ _ _ h => h) (Or.inr ⟨by rfl,rfl⟩) ?_ ?_;rotate_left
           ·simp only [Act.put,z_1,z_2,z_3,i64_w,i32_w];rfl
           refine pure_ (i:=4) (N:=some 63) (v:=undef) (a':=?_) (Mb 27 31) rfl rfl (any_of HT_.out (by kernel_rfl)) (fun _ _ _ h => h) (Or.inr ⟨by rfl,rfl⟩) ?_ ?_;rotate_left
           ·simp only [Act.put,z_1,z_2,z_3,i64_w,i32_w];rfl
           refine pure_ (i:=5) (N:=some 64) (v:=undef) (a':=?_) (Mb 27 63) rfl rfl (any_of HT_.out (by kernel_rfl)) (fun _ _ _ h => h) (Or.inr ⟨by rfl,rfl⟩) ?_ ?_;rotate_left
           ·simp only [Act.put,z_1,z_2,z_3,i64_w,i32_w];rfl
           refine pure_ (i:=6) (N:=some 65) (v:=undef) (a':=?_) (Mb 27 127) rfl rfl (any_of HT_.out (by kernel_rfl)) (fun _ _ _ h => h) (Or.inr ⟨by rfl,rfl⟩) ?_ ?_;rotate_left
           ·simp only [Act.put,z_1,z_2,z_3,i64_w,i32_w];rfl
           refine pure_ (i:=7) (N:=some 66) (v:=undef) (a':=?_) (Mb 27 255) rfl rfl (any_of HT_.out (by kernel_rfl)) (fun _ _ _ h => h) (Or.inr ⟨by rfl,rfl⟩) ?_ ?_;rotate_left
           ·simp only [Act.put,z_1,z_2,z_3,i64_w,i32_w];rfl
           refine pure_ (i:=8) (N:=some 67) (v:=undef) (a':=?_) (Mb 27 511) rfl rfl (any_of HT_.out (by kernel_rfl)) (fun _ _ _ h => h) (Or.inr ⟨by rfl,rfl⟩) ?_ ?_;rotate_left
           ·simp only [Act.put,z_1,z_2,z_3,i64_w,i32_w];rfl
           refine pure_ (i:=9) (N:=some 68) (v:=?_) (a':=?_) (Mb 27 1023) rfl rfl (any_of HT_.out (by kernel_rfl)) (fun _ _ _ h => h) (Or.inl ⟨by rfl,?_⟩) ?_ ?_;rotate_left
           ·intro w';go_simp;with_reducible rfl
           rotate_left
           ·simp only [Act.put,z_1,z_2,z_3,i64_w,i32_w];rfl
           refine pure_ (i:=10) (N:=some 69) (v:=?_) (a':=?_) (Mb 27 2047) rfl rfl (any_of HT_.out (by kernel_rfl)) (fun _ _ _ h => h) (Or.inl ⟨by rfl,?_⟩) ?_ ?_;rotate_left
           ·intro w';go_simp;with_reducible rfl
           rotate_left
           ·simp only [Act.put,z_1,z_2,z_3,i64_w,i32_w];rfl
           refine pure_ (i:=11) (N:=some 70) (v:=?_) (a':=?_) (Mb 27 4095) rfl rfl (any_of HT_.out (by kernel_rfl)) (fun _ _ _ h => h) (Or.inl ⟨by rfl,?_⟩) ?_ ?_;rotate_left
           ·intro w';go_simp;with_reducible rfl
           rotate_left
           ·simp only [Act.put,z_1,z_2,z_3,i64_w,i32_w];rfl
           refine pure_ (i:=12) (N:=some 71) (v:=?_) (a':=?_) (Mb 27 8191) rfl rfl (any_of HT_.out (by kernel_rfl)) (fun _ _ _ h => h) (Or.inl ⟨by rfl,?_⟩) ?_ ?_;rotate_left
           ·intro w';go_simp;with_reducible rfl
           rotate_left
           ·simp only [Act.put,z_1,z_2,z_3,i64_w,i32_w];rfl
           refine pure_ (i:=13) (N:=some 72) (v:=?_) (a':=?_) (Mb 27 16383) rfl rfl (any_of HT_.out (by kernel_rfl)) (fun _ _ _ h => h) (Or.inl ⟨by rfl,?_⟩) ?_ ?_;rotate_left
           ·intro w';go_simp;with_reducible rfl
           rotate_left
           ·simp only [Act.put,z_1,z_2,z_3,i64_w,i32_w];rfl
           refine pure_ (i:=14) (N:=some 73) (v:=?_) (a':=?_) (Mb 27 32767) rfl rfl (any_of HT_.out (by kernel_rfl)) (fun _ _ _ h => h) (Or.inl ⟨by rfl,?_⟩) ?_ ?_;rotate_left
           ·intro w';go_simp;with_reducible rfl
           rotate_left
           ·simp only [Act.put,z_1,z_2,z_3,i64_w,i32_w];rfl
           refine pure_ (i:=16) (N:=some 75) (v:=?_) (a':=?_) (Mb 27 98303) rfl rfl (any_of HT_.out (by kernel_rfl)) (fun _ _ _ h => h) (Or.inl ⟨by rfl,?_⟩) ?_ ?_;rotate_left
           ·intro w';go_simp;with_reducible rfl
           rotate_left
           ·simp only [Act.put,z_1,z_2,z_3,i64_w,i32_w];rfl
           refine pure_ (i:=19) (N:=some 78) (v:=?_) (a':=?_) (Mb 27 622591) rfl rfl (any_of HT_.out (by kernel_rfl)) (fun _ _ _ h => h) (Or.inl ⟨by rfl,?_⟩) ?_ ?_;rotate_left
           ·intro w';go_simp;with_reducible rfl
           rotate_left
           ·simp only [Act.put,z_1,z_2,z_3,i64_w,i32_w];rfl
           refine pure_ (i:=21) (N:=some 80) (v:=?_) (a':=?_) (Mb 27 2719743) rfl rfl (any_of HT_.out (by kernel_rfl)) (fun _ _ _ h => h) (Or.inl ⟨by rfl,?_⟩) ?_ ?_;rotate_left
           ·intro w';go_simp;with_reducible rfl
           rotate_left
           ·simp only [Act.put,z_1,z_2,z_3,i64_w,i32_w];rfl
           refine take_ (i:=15) (N:=some 74) (v:=?_) (a':=?_) (Mb 27 2752511) rfl rfl (take_ofW HT_.out HW_.out (by kernel_rfl)) (fun _ _ _ h => h) (Or.inl ⟨by rfl,?_⟩) hHeld ?_ ?_;rotate_left
           ·rintro w' ⟨s0,s1,s2,s3,s4,s5,s6,s7,s8,s9,s10,s11,s12,s13⟩;go_simp;with_reducible rfl
           rotate_left
           ·simp only [Act.put,z_1,z_2,z_3,i64_w,i32_w];rfl
           refine pure_ (i:=17) (N:=some 76) (v:=?_) (a':=?_) (Mb 27 2883583) rfl rfl (any_of HT_.out (by kernel_rfl)) (fun _ _ _ h => h) (Or.inl ⟨by rfl,?_⟩) ?_ ?_;rotate_left
           ·intro w';go_simp;with_reducible rfl
           rotate_left
           ·simp only [Act.put,z_1,z_2,z_3,i64_w,i32_w];rfl
           refine take_ (i:=18) (N:=some 77) (v:=?_) (a':=?_) (Mb 27 3145727) rfl rfl (take_ofW HT_.out HW_.out (by kernel_rfl)) (fun _ _ _ h => h) (Or.inl ⟨by rfl,?_⟩) hHeld ?_ ?_;rotate_left
           ·rintro w' ⟨s0,s1,s2,s3,s4,s5,s6,s7,s8,s9,s10,s11,s12,s13⟩;go_simp;with_reducible rfl
           rotate_left
           ·simp only [Act.put,z_1,z_2,z_3,i64_w,i32_w];rfl
           refine take_ (i:=20) (N:=some 79) (v:=?_) (a':=?_) (Mb 27 4194303) rfl rfl (take_ofW HT_.out HW_.out (by kernel_rfl)) (fun _ _ _ h => h) (Or.inl ⟨by rfl,?_⟩) hHeld ?_ ?_;rotate_left
           ·rintro w' ⟨s0,s1,s2,s3,s4,s5,s6,s7,s8,s9,s10,s11,s12,s13⟩;go_simp;with_reducible rfl
           rotate_left
           ·simp only [Act.put,z_1,z_2,z_3,i64_w,i32_w];rfl
           refine pure_ (i:=22) (N:=some 81) (v:=?_) (a':=?_) (Mb 27 8388607) rfl rfl (any_of HT_.out (by kernel_rfl)) (fun _ _ _ h => h) (Or.inl ⟨by rfl,?_⟩) ?_ ?_;rotate_left
           ·intro w';go_simp;with_reducible rfl
           rotate_left
           ·simp only [Act.put,z_1,z_2,z_3,i64_w,i32_w];rfl
           refine take_ (i:=23) (N:=some 82) (v:=?_) (a':=?_) (Mb 27 16777215) rfl rfl (take_ofW HT_.out HW_.out (by kernel_rfl)) (fun _ _ _ h => h) (Or.inl ⟨by rfl,?_⟩) hHeld ?_ ?_;rotate_left
           ·rintro w' ⟨s0,s1,s2,s3,s4,s5,s6,s7,s8,s9,s10,s11,s12,s13⟩;go_simp;with_reducible rfl
           rotate_left
           ·simp only [Act.put,z_1,z_2,z_3,i64_w,i32_w];rfl
           refine pure_ (i:=24) (N:=some 83) (v:=?_) (a':=?_) (Mb 27 33554431) rfl rfl (any_of HT_.out (by kernel_rfl)) (fun _ _ _ h => h) (Or.inl ⟨by rfl,?_⟩) ?_ ?_;rotate_left
           ·intro w';go_simp;with_reducible rfl
           rotate_left
           ·simp only [Act.put,z_1,z_2,z_3,i64_w,i32_w];rfl
           refine pure_ (i:=25) (N:=some 84) (v:=?_) (a':=?_) (Mb 27 67108863) rfl rfl (any_of HT_.out (by kernel_rfl)) (fun _ _ _ h => h) (Or.inl ⟨by rfl,?_⟩) ?_ ?_;rotate_left
           ·intro w';go_simp;with_reducible rfl
           rotate_left
           ·simp only [Act.put,z_1,z_2,z_3,i64_w,i32_w];rfl
           refine pure_ (i:=26) (N:=some 85) (v:=?_) (a':=?_) (Mb 27 134217727) rfl rfl (any_of HT_.out (by kernel_rfl)) (fun _ _ _ h => h) (Or.inl ⟨by rfl,?_⟩) ?_ ?_;rotate_left
           ·intro w';go_simp;with_reducible rfl
           rotate_left
           ·simp only [Act.put,z_1,z_2,z_3,i64_w,i32_w];rfl
           refine done_ (done_of HT_.out (by kernel_rfl)) ?_
           try go_wp2
           go_roundg k2
           case measure => have := HJ4.out; have := HK2.out; omega
           case rel => exact ⟨(wrap64 (x6_2 + 1)),(by first|rfl|(simp;done)|(simp [*];done)),H',⟨by have:=HJ4.out;have:=HK2.out;omega⟩,⟨by (with_reducible repeat (first|apply Kd.Q_alloc|apply Kd.Q_drewN|apply Kd.Q_drew));exact HO_320000.out⟩,⟨by (with_reducible repeat (first|apply Kd.Q_alloc|apply Kd.Q_drewN|apply Kd.Q_drew));exact HO_325000.out⟩,⟨by (with_reducible repeat (first|refine y_b ?_ _|refine y_c ?_|refine y_d ?_ _));exact BK319.out⟩,⟨by (with_reducible repeat (first|refine y_b ?_ _|refine y_c ?_|refine y_d ?_ _));exact BK324.out⟩,⟨zB⟩⟩
         ·rw [if_neg c69] at H;exact absurd H (by simp)
       ·rw [if_neg c38] at H;exact absurd H (by simp)
      ·rw [if_neg c37] at H;have c37b0 : decide (x6_2 < (t314.length : Int)) = false:=decide_eq_false c37;clear c37;replace H := z_8 H;obtain ⟨t345, A770, H⟩ := H;replace H : (if t345 = true then ((impl_PoolDrop.f k2 t320 t323 t318).bind fun bt346 => ((laws_whPool.f k2 bt346.1 bt346.2 t320 t323).bind fun t350 => (some t350))) else (some false)) = some r:=H;have A77 := z_a A770;clear A770
       by_cases c78 : t345 = true
       ·subst c78;have H1 : ((impl_PoolDrop.f k2 t320 t323 t318).bind fun bt346 => ((laws_whPool.f k2 bt346.1 bt346.2 t320 t323).bind fun t350 => (some t350))) = some r:=by rw [if_pos rfl] at H;exact H
        clear H;have H := H1;clear H1;replace H := z_8 H;obtain ⟨⟨t346, t349⟩, A790, H⟩ := H;replace H : ((laws_whPool.f k2 t346 t349 t320 t323).bind fun t350 => (some t350)) = some r:=H;have A79 := z_a A790;clear A790;replace H := z_8 H;obtain ⟨t350, A800, H⟩ := H;replace H : (some t350) = some r := H;have A80 := z_a A800;clear A800;obtain rfl := Option.some.inj H;have hnb81 := NB319_324.out;have hnc81 := NB324_319.out;have hcz82_0 : wr.cell? ⟨gb319,0,none⟩ = some (.slice Ao8 t314.length co8):=(z_b BK319.out 0).trans rfl;have hcz82_1 : wr.cell? ⟨gb319,1,none⟩ = some (.int .i64 t317):=(z_b BK319.out 1).trans rfl;have hfz82_0 := z_4 BK319.out 0;have hfz82_1 := z_4 BK319.out 1
        try go_wp2
        have n0_ := z_a (Kd.Q_drew HO_320000.out);have n1_ := z_a (Kd.Q_drew HO_325000.out);have n2_ := z_a (y_c BK319.out);have n3_ := z_a (y_c BK324.out);have n4_ := z_a (y_j HB.out);clear HO_320000;clear HO_325000;clear BK319;clear BK324;clear HB;have HO_320000 := n0_;have HO_325000 := n1_;have BK319 := n2_;have BK324 := n3_;have HB := n4_;clear n0_ n1_ n2_ n3_ n4_;refine start_ (n:=10) (S:=fun w' => w'.cell? ⟨gb324,0,none⟩ = some (.slice Ao12 t320.length co12) ∧ w'.cell? ⟨gb324,1,none⟩ = some (.int .i64 t323)) (ds:=[]) #[false,false,false,false,false,false,false,false,false,false] (by kernel_rfl) rfl rfl ⟨(z_b BK324.out 0).trans rfl,(z_b BK324.out 1).trans rfl⟩ (fun hHeld => ?_);refine with_tabW laws_FnPoolDrop.tab13 laws_FnPoolDrop.bits13 (fun HT_ HW_ => ?_);generalize wr.drew = w83 at HO_320000 HO_325000 BK319 BK324 HB hHeld ⊢;refine take_ (i:=0) (N:=some 86) (v:=?_) (a':=?_) (Mb 10 1) rfl rfl (take_ofW HT_.out HW_.out (by kernel_rfl)) (fun _ _ _ h => h) (Or.inl ⟨by rfl,?_⟩) hHeld ?_ ?_;rotate_left
        ·rintro w' ⟨s0, s1⟩;go_simp;with_reducible rfl
        rotate_left
        ·simp only [Act.put,z_1,z_2,z_3,i64_w,i32_w];rfl
        refine one_ (i:=1) (N:=some 87) (Mb 10 3) rfl rfl (one_of HT_.out (by kernel_rfl)) (by decide) (fun K hK => ?_);refine goes_ Try.func18 (by kernel_rfl) rfl #[.agg #[.slice Ao12 t320.length co12,.int .i64 t323]] (by rfl) rfl rfl (by (try simp only [z_7,List.map_cons,List.map_nil]);first|done|rfl|(simp only [z_6,z_5];rfl)) ?_;with_reducible refine (impl_PoolOk.calls k2 _ _ t320 t323 true _ ?side1 ?side2 A77.out).mono ?_
        (case side1 => repeat (first|exact (Kd.Q_reads' HO_325000.out).2.2|(with_reducible refine y_o ?_ _)|(with_reducible refine y_p ?_ _)|(with_reducible refine y_q ?_)))
        (case side2 => exact (Kd.Q_reads' HO_325000.out).2.1)
        rintro e w84 ⟨rfl, hb⟩;refine ⟨_, rfl, ?_⟩;have n0_:=z_a (Kd.Q_below (by (with_reducible repeat (first|apply Kd.Q_alloc|apply Kd.Q_drewN|apply Kd.Q_drew));exact HO_320000.out) hb);have n1_:=z_a (Kd.Q_below (by (with_reducible repeat (first|apply Kd.Q_alloc|apply Kd.Q_drewN|apply Kd.Q_drew));exact HO_325000.out) hb);have n2_:=z_a (z_d (g:=gb319) zK hb);have n3_:=z_a (z_d (g:=gb324) zK hb);have n4_:=z_a (z_f zB hb);clear HO_320000;clear HO_325000;clear BK319;clear BK324;clear HB;have HO_320000 := n0_;have HO_325000 := n1_;have BK319 := n2_;have BK324 := n3_;have HB := n4_;clear n0_ n1_ n2_ n3_ n4_;(try clear hb);(try clear hb2);(try clear hk);(try clear hi);refine hK.out _ _ ⟨(z_b BK324.out 0).trans rfl,(z_b BK324.out 1).trans rfl⟩ (fun hHeld => ?_);clear hK K;refine norm_ (a' := ?_) ?_ ?_;rotate_left
        ·show Act.put _ (some 87) _ = _;simp only [Act.put,z_1,z_2,z_3,i64_w,i32_w];rfl
        refine pure_ (i:=2) (N:=some 88) (v:=?_) (a':=?_) (Mb 10 7) rfl rfl (any_of HT_.out (by kernel_rfl)) (fun _ _ _ h => h) (Or.inl ⟨by rfl,?_⟩) ?_ ?_;rotate_left
        ·intro w';go_simp;with_reducible rfl
        rotate_left
        ·simp only [Act.put,z_1,z_2,z_3,i64_w,i32_w];rfl
        refine pure_ (i:=4) (N:=some 90) (v:=?_) (a':=?_) (Mb 10 23) rfl rfl (any_of HT_.out (by kernel_rfl)) (fun _ _ _ h => h) (Or.inl ⟨by rfl,?_⟩) ?_ ?_;rotate_left
        ·intro w';go_simp;with_reducible rfl
        rotate_left
        ·simp only [Act.put,z_1,z_2,z_3,i64_w,i32_w];rfl
        refine take_ (i:=3) (N:=some 89) (v:=?_) (a':=?_) (Mb 10 31) rfl rfl (take_ofW HT_.out HW_.out (by kernel_rfl)) (fun _ _ _ h => h) (Or.inl ⟨by rfl,?_⟩) hHeld ?_ ?_;rotate_left
        ·rintro w' ⟨s0, s1⟩;go_simp;with_reducible rfl
        rotate_left
        ·simp only [Act.put,z_1,z_2,z_3,i64_w,i32_w];rfl
        refine take_ (i:=6) (N:=some 92) (v:=?_) (a':=?_) (Mb 10 95) rfl rfl (take_ofW HT_.out HW_.out (by kernel_rfl)) (fun _ _ _ h => h) (Or.inl ⟨by rfl,?_⟩) hHeld ?_ ?_;rotate_left
        ·rintro w' ⟨s0, s1⟩;go_simp;with_reducible rfl
        rotate_left
        ·simp only [Act.put,z_1,z_2,z_3,i64_w,i32_w];rfl
        refine one_ (i:=5) (N:=some 91) (Mb 10 127) rfl rfl (one_of HT_.out (by kernel_rfl)) (by decide) (fun K hK => ?_);refine goes_ Try.func29 (by kernel_rfl) rfl #[.agg #[.slice Ao12 t320.length co12,.int .i64 t323],.int .i64 t318] (by rfl) rfl rfl (by (try simp only [z_7,List.map_cons,List.map_nil]);first|done|rfl|(simp only [z_6,z_5];rfl)) ?_;with_reducible refine (impl_PoolDrop.calls k2 _ _ t320 t323 t318 t346 t349 _ ?side1 ?side2 A79.out).mono ?_
        (case side1 => repeat (first|exact (Kd.Q_reads' HO_325000.out).2.2|(with_reducible refine y_o ?_ _)|(with_reducible refine y_p ?_ _)|(with_reducible refine y_q ?_)))
        (case side2 => exact (Kd.Q_reads' HO_325000.out).2.1)
        rintro e w85 ⟨v347, rfl, ho0, hb⟩;refine ⟨_, rfl, ?_⟩;have n0_:=z_a (Kd.Q_elder' (by (with_reducible repeat (first|apply Kd.Q_alloc|apply Kd.Q_drewN|apply Kd.Q_drew));exact HO_320000.out) (Kd.R_base ho0) hb);have n1_:=z_a (Kd.Q_elder' (by (with_reducible repeat (first|apply Kd.Q_alloc|apply Kd.Q_drewN|apply Kd.Q_drew));exact HO_325000.out) (Kd.R_base ho0) hb);have n2_:=z_a (Kd.R_lower (Kd.R_new' (Kd.R_new' ho0 (Kd.Q_lt (by (with_reducible repeat (first|apply Kd.Q_alloc|apply Kd.Q_drewN|apply Kd.Q_drew));exact HO_320000.out))) (Kd.Q_lt (by (with_reducible repeat (first|apply Kd.Q_alloc|apply Kd.Q_drewN|apply Kd.Q_drew));exact HO_325000.out))) (z_g zB));have n3_:=z_a (z_d (g:=gb319) zK hb);have n4_:=z_a (z_d (g:=gb324) zK hb);have n5_:=z_a (z_f zB hb);clear HO_320000;clear HO_325000;clear BK319;clear BK324;clear HB;have HO_320000 := n0_;have HO_325000 := n1_
        have HO348 := n2_;have BK319 := n3_;have BK324 := n4_;have HB := n5_;clear n0_ n1_ n2_ n3_ n4_ n5_;(try clear hb);(try clear hb2);(try clear hk);(try clear hi);(try clear ho0);obtain ⟨Ao86, co86, eo86⟩ := Kd.R_slice HO348.out
        (first|subst eo86|(injection eo86 with f1_ f2_ f3_;have f4_:=f1_.symm;have f5_:=f3_.symm;clear f1_ f2_ f3_;subst f4_;subst f5_))
        refine hK.out _ _ ⟨(z_b BK324.out 0).trans rfl,(z_b BK324.out 1).trans rfl⟩ (fun hHeld => ?_);clear hK K;refine norm_ (a' := ?_) ?_ ?_;rotate_left
        ·show Act.put _ (some 91) _ = _;simp only [Act.put,z_1,z_2,z_3,i64_w,i32_w];rfl
        refine one_ (i:=7) (N:=some 93) (Mb 10 255) rfl rfl (one_of HT_.out (by kernel_rfl)) (by decide) (fun K hK => ?_);refine goes_ Try.func25 (by kernel_rfl) rfl #[.agg #[.slice Ao86 t346.length co86,.int .i64 t349],.agg #[.slice Ao12 t320.length co12,.int .i64 t323]] (by rfl) rfl rfl (by (try simp only [z_7,List.map_cons,List.map_nil]);first|done|rfl|(simp only [z_6,z_5];rfl)) ?_;with_reducible refine (laws_whPool.calls k2 _ _ t346 t349 _ _ t320 t323 t350 _ ?side1 ?side2 ?side3 ?side4 A80.out).mono ?_
        (case side1 => repeat (first|exact (Kd.R_reads' HO348.out).2.2|(with_reducible refine y_o ?_ _)|(with_reducible refine y_p ?_ _)|(with_reducible refine y_q ?_)))
        (case side2 => exact (Kd.R_reads' HO348.out).2.1)
        (case side3 => repeat (first|exact (Kd.Q_reads' HO_325000.out).2.2|(with_reducible refine y_o ?_ _)|(with_reducible refine y_p ?_ _)|(with_reducible refine y_q ?_)))
        (case side4 => exact (Kd.Q_reads' HO_325000.out).2.1)
        rintro e w87 ⟨rfl, hb⟩;refine ⟨_, rfl, ?_⟩;have n0_:=z_a (Kd.Q_below (by (with_reducible repeat (first|apply Kd.Q_alloc|apply Kd.Q_drewN|apply Kd.Q_drew));exact HO_320000.out) hb);have n1_:=z_a (Kd.Q_below (by (with_reducible repeat (first|apply Kd.Q_alloc|apply Kd.Q_drewN|apply Kd.Q_drew));exact HO_325000.out) hb);have n2_:=z_a (Kd.R_below (by (with_reducible repeat (first|apply y_e|apply y_f|apply y_g));exact HO348.out) hb);have n3_:=z_a (z_d (g:=gb319) zK hb);have n4_:=z_a (z_d (g:=gb324) zK hb);have n5_:=z_a (z_f zB hb);clear HO_320000;clear HO_325000;clear HO348;clear BK319;clear BK324;clear HB;have HO_320000 := n0_;have HO_325000 := n1_;have HO348 := n2_;have BK319 := n3_;have BK324 := n4_;have HB := n5_;clear n0_ n1_ n2_ n3_ n4_ n5_;(try clear hb);(try clear hb2);(try clear hk);(try clear hi);refine hK.out _ _ ⟨(z_b BK324.out 0).trans rfl,(z_b BK324.out 1).trans rfl⟩ (fun hHeld => ?_);clear hK K;refine norm_ (a' := ?_) ?_ ?_;rotate_left
        ·show Act.put _ (some 93) _ = _;simp only [Act.put,z_1,z_2,z_3,i64_w,i32_w];rfl
        refine pure_ (i:=8) (N:=some 94) (v:=?_) (a':=?_) (Mb 10 511) rfl rfl (any_of HT_.out (by kernel_rfl)) (fun _ _ _ h => h) (Or.inl ⟨by rfl,?_⟩) ?_ ?_;rotate_left
        ·intro w';go_simp;with_reducible rfl
        rotate_left
        ·simp only [Act.put,z_1,z_2,z_3,i64_w,i32_w];rfl
        refine pure_ (i:=9) (N:=some 2) (v:=?_) (a':=?_) (Mb 10 1023) rfl rfl (any_of HT_.out (by kernel_rfl)) (fun _ _ _ h => h) (Or.inl ⟨by rfl,?_⟩) ?_ ?_;rotate_left
        ·intro w';go_simp;with_reducible rfl
        rotate_left
        ·simp only [Act.put,z_1,z_2,z_3,i64_w,i32_w];rfl
        refine done_ (done_of HT_.out (by kernel_rfl)) ?_
        try go_wp2
        go_ret
        exact ⟨by first|rfl|(simp [errW_none,errW_some] <;> rfl)|(simp [*,errW_none,errW_some] <;> rfl),zB⟩
       ·replace c78 := Bool.eq_false_iff.mpr c78;subst c78;have H1 : (some false) = some r:=by rw [if_neg (show ¬ (false = true) by decide)] at H;exact H
        clear H;have H := H1;clear H1;obtain rfl := Option.some.inj H;have hnb88 := NB319_324.out;have hnc88 := NB324_319.out;have hcz89_0 : wr.cell? ⟨gb319,0,none⟩ = some (.slice Ao8 t314.length co8):=(z_b BK319.out 0).trans rfl;have hcz89_1 : wr.cell? ⟨gb319,1,none⟩ = some (.int .i64 t317):=(z_b BK319.out 1).trans rfl;have hfz89_0 := z_4 BK319.out 0;have hfz89_1 := z_4 BK319.out 1
        try go_wp2
        have n0_ := z_a (Kd.Q_drew HO_320000.out);have n1_ := z_a (Kd.Q_drew HO_325000.out);have n2_ := z_a (y_c BK319.out);have n3_ := z_a (y_c BK324.out);have n4_ := z_a (y_j HB.out);clear HO_320000;clear HO_325000;clear BK319;clear BK324;clear HB;have HO_320000 := n0_;have HO_325000 := n1_;have BK319 := n2_;have BK324 := n3_;have HB := n4_;clear n0_ n1_ n2_ n3_ n4_;refine start_ (n:=10) (S:=fun w' => w'.cell? ⟨gb324,0,none⟩ = some (.slice Ao12 t320.length co12) ∧ w'.cell? ⟨gb324,1,none⟩ = some (.int .i64 t323)) (ds:=[]) #[false,false,false,false,false,false,false,false,false,false] (by kernel_rfl) rfl rfl ⟨(z_b BK324.out 0).trans rfl,(z_b BK324.out 1).trans rfl⟩ (fun hHeld => ?_);refine with_tabW laws_FnPoolDrop.tab13 laws_FnPoolDrop.bits13 (fun HT_ HW_ => ?_);generalize wr.drew = w90 at HO_320000 HO_325000 BK319 BK324 HB hHeld ⊢;refine take_ (i:=0) (N:=some 86) (v:=?_) (a':=?_) (Mb 10 1) rfl rfl (take_ofW HT_.out HW_.out (by kernel_rfl)) (fun _ _ _ h => h) (Or.inl ⟨by rfl,?_⟩) hHeld ?_ ?_;rotate_left
        ·rintro w' ⟨s0, s1⟩;go_simp;with_reducible rfl
        rotate_left
        ·simp only [Act.put,z_1,z_2,z_3,i64_w,i32_w];rfl
        refine one_ (i:=1) (N:=some 87) (Mb 10 3) rfl rfl (one_of HT_.out (by kernel_rfl)) (by decide) (fun K hK => ?_);refine goes_ Try.func18 (by kernel_rfl) rfl #[.agg #[.slice Ao12 t320.length co12,.int .i64 t323]] (by rfl) rfl rfl (by (try simp only [z_7,List.map_cons,List.map_nil]);first|done|rfl|(simp only [z_6,z_5];rfl)) ?_;with_reducible refine (impl_PoolOk.calls k2 _ _ t320 t323 false _ ?side1 ?side2 A77.out).mono ?_
        (case side1 => repeat (first|exact (Kd.Q_reads' HO_325000.out).2.2|(with_reducible refine y_o ?_ _)|(with_reducible refine y_p ?_ _)|(with_reducible refine y_q ?_)))
        (case side2 => exact (Kd.Q_reads' HO_325000.out).2.1)
        rintro e w91 ⟨rfl, hb⟩;refine ⟨_, rfl, ?_⟩;have n0_:=z_a (Kd.Q_below (by (with_reducible repeat (first|apply Kd.Q_alloc|apply Kd.Q_drewN|apply Kd.Q_drew));exact HO_320000.out) hb);have n1_:=z_a (Kd.Q_below (by (with_reducible repeat (first|apply Kd.Q_alloc|apply Kd.Q_drewN|apply Kd.Q_drew));exact HO_325000.out) hb);have n2_:=z_a (z_d (g:=gb319) zK hb);have n3_:=z_a (z_d (g:=gb324) zK hb);have n4_:=z_a (z_f zB hb);clear HO_320000;clear HO_325000;clear BK319;clear BK324;clear HB;have HO_320000 := n0_;have HO_325000 := n1_;have BK319 := n2_;have BK324 := n3_;have HB := n4_;clear n0_ n1_ n2_ n3_ n4_;(try clear hb);(try clear hb2);(try clear hk);(try clear hi);refine hK.out _ _ ⟨(z_b BK324.out 0).trans rfl,(z_b BK324.out 1).trans rfl⟩ (fun hHeld => ?_);clear hK K;refine norm_ (a' := ?_) ?_ ?_;rotate_left
        ·show Act.put _ (some 87) _ = _;simp only [Act.put,z_1,z_2,z_3,i64_w,i32_w];rfl
        refine pure_ (i:=2) (N:=some 88) (v:=?_) (a':=?_) (Mb 10 7) rfl rfl (any_of HT_.out (by kernel_rfl)) (fun _ _ _ h => h) (Or.inl ⟨by rfl,?_⟩) ?_ ?_;rotate_left
        ·intro w';go_simp;with_reducible rfl
        rotate_left
        ·simp only [Act.put,z_1,z_2,z_3,i64_w,i32_w];rfl
        refine pure_ (i:=3) (N:=some 89) (v:=undef) (a':=?_) (Mb 10 15) rfl rfl (any_of HT_.out (by kernel_rfl)) (fun _ _ _ h => h) (Or.inr ⟨by rfl,rfl⟩) ?_ ?_;rotate_left
        ·simp only [Act.put,z_1,z_2,z_3,i64_w,i32_w];rfl
        refine pure_ (i:=4) (N:=some 90) (v:=undef) (a':=?_) (Mb 10 31) rfl rfl (any_of HT_.out (by kernel_rfl)) (fun _ _ _ h => h) (Or.inr ⟨by rfl,rfl⟩) ?_ ?_;rotate_left
        ·simp only [Act.put,z_1,z_2,z_3,i64_w,i32_w];rfl
        refine pure_ (i:=5) (N:=some 91) (v:=undef) (a':=?_) (Mb 10 63) rfl rfl (any_of HT_.out (by kernel_rfl)) (fun _ _ _ h => h) (Or.inr ⟨by rfl,rfl⟩) ?_ ?_;rotate_left
        ·simp only [Act.put,z_1,z_2,z_3,i64_w,i32_w];rfl
        refine pure_ (i:=6) (N:=some 92) (v:=undef) (a':=?_) (Mb 10 127) rfl rfl (any_of HT_.out (by kernel_rfl)) (fun _ _ _ h => h) (Or.inr ⟨by rfl,rfl⟩) ?_ ?_;rotate_left
        ·simp only [Act.put,z_1,z_2,z_3,i64_w,i32_w];rfl
        refine pure_ (i:=7) (N:=some 93) (v:=undef) (a':=?_) (Mb 10 255) rfl rfl (any_of HT_.out (by kernel_rfl)) (fun _ _ _ h => h) (Or.inr ⟨by rfl,rfl⟩) ?_ ?_;rotate_left
        ·simp only [Act.put,z_1,z_2,z_3,i64_w,i32_w];rfl
        refine pure_ (i:=8) (N:=some 94) (v:=?_) (a':=?_) (Mb 10 511) rfl rfl (any_of HT_.out (by kernel_rfl)) (fun _ _ _ h => h) (Or.inl ⟨by rfl,?_⟩) ?_ ?_;rotate_left
        ·intro w';go_simp;with_reducible rfl
        rotate_left
        ·simp only [Act.put,z_1,z_2,z_3,i64_w,i32_w];rfl
        refine pure_ (i:=9) (N:=some 2) (v:=?_) (a':=?_) (Mb 10 1023) rfl rfl (any_of HT_.out (by kernel_rfl)) (fun _ _ _ h => h) (Or.inl ⟨by rfl,?_⟩) ?_ ?_;rotate_left
        ·intro w';go_simp;with_reducible rfl
        rotate_left
        ·simp only [Act.put,z_1,z_2,z_3,i64_w,i32_w];rfl
        refine done_ (done_of HT_.out (by kernel_rfl)) ?_
        try go_wp2
        go_ret
        exact ⟨by first|rfl|(simp [errW_none,errW_some] <;> rfl)|(simp [*,errW_none,errW_some] <;> rfl),zB⟩

/-- THE ONE PURE STATEMENT of laws_FnPoolDrop: yours. -/
def laws_FnPoolDrop.Pure : Prop := ∀ (l0 : List Int), l0.length ≤ maxLen → l0.length * 1 ≤ 140737488351232 → (∀ x ∈ l0, (Lit.int .u8 x).wf = true) → ∃ k, laws_FnPoolDrop.f k l0 = some true
theorem laws_FnPoolDrop.walk (P : laws_FnPoolDrop.Pure) (a0 : Option Addr) (len0 cap0 : Nat) (z0 : List Int) (w : World) (w0 : (a0 = none ∧ len0 = 0 ∧ cap0 = 0 ∧ z0 = []) ∨ ∃ x, a0 = some x ∧ len0 ≤ cap0 ∧ cap0 ≤ maxLen ∧ z0.length = cap0 ∧ (∀ i, i < z0.length → w.cell? (x.add i) = some (.int .u8 (z0.getD i 0))) ∧ ∀ n ∈ z0, (Lit.int .u8 n).wf = true) (y0 : len0 * 1 ≤ 140737488351232) :
  Calls Try.prog 8 #[.slice a0 len0 cap0] w fun e w' => e = .returned (.bool true) ∧ Below w.heap.size w w' := by
 obtain ⟨l0, rfl, hr0, hm0, hw0, hc0⟩ := ReadsInt.ofRowC w0;obtain ⟨k, h⟩ := P l0 hm0 y0 hw0;refine (laws_FnPoolDrop.calls k _ _ l0 true w (Kd.C_of_reads (d:=(0 : Int)) (h1:=fun _ => rfl) hr0) hc0 h).mono ?_;rintro e w' ⟨rfl, hd⟩;exact ⟨rfl, hd⟩

end Go.Proofs.Ytlfnjkcgefcidaa.PFnPoolDrop
