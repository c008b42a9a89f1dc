-- Written by a program of this session over the print's form. Lean checks it.
import Derived.Test.YtbpmfdpbgcpjeaaPFnCatBytesx0
import Derived.Test.YtbpmfdpbgcpjeaaPFnCatBytesx3
import Derived.Test.YtbpmfdpbgcpjeaaPFnCatBytesx8
import Derived.Test.YtbpmfdpbgcpjeaaPFnCatBytesx9
import Derived.Test.YtbpmfdpbgcpjeaaPFnCatBytesx20
namespace Go.Proofs.Ytbpmfdpbgcpjeaa.PFnCatBytes
open Go.RowKit Go.Proofs.YtbpmfdpbgcpjeaaW.PrintWords Go.Proofs.YtbpmfdpbgcpjeaaW.PrintLast Go.Proofs.YtbpmfdpbgcpjeaaW.PrintMore
attribute [local go_sem] max2_int min2_int max_two min_two max_three min_three max_four min_four   -- for this text's walks alone
set_option linter.unusedVariables false
set_option linter.unusedSimpArgs false

/-! ### laws_FnCatBytes: function 7 -/
mutual
def laws_FnCatBytes.j0 : Nat → Int → Int → Bool → Int → List (S36) → Option (Bool)
 | 0, _, _, _, _, _ => none
 | k + 1, x4, x5, x28, x382000, x382001 => if x28 = true then ((spec_CatBytes.f k x382000 x382001 x4).bind fun t385 => (if x5 = t385 then ((impl_CatOk.f k x382000 x382001).bind fun t386 => ((spec_CatOk.f k x382000 x382001).bind fun t387 => (some (t386 == t387)))) else (some false))) else (laws_FnCatBytes.l0 k x4 x5 0 0 x382000 x382001)
def laws_FnCatBytes.l0 : Nat → Int → Int → Int → Int → Int → List (S36) → Option (Bool)
 | 0, _, _, _, _, _, _ => none
 | k + 1, x4, x5, x6, x7, x382000, x382001 => if x7 < (x382001.length : Int) then (if 0 ≤ x7 then (if ((rd_T36 x382001 x7).f0) = x4 then (laws_FnCatBytes.l0 k x4 x5 (wrap64 (x6 + (((rd_T36 x382001 x7).f3).size : Int))) (wrap64 (x7 + 1)) x382000 x382001) else (laws_FnCatBytes.l0 k x4 x5 x6 (wrap64 (x7 + 1)) x382000 x382001)) else (none)) else (if x5 = x6 then (some (decide (x5 ≤ 500))) else (some false))
end
def laws_FnCatBytes.f (k : Nat) (l0 : List Int) : Option (Bool) := if (l0.length : Int) > 1048576 then (some true) else ((spec_DrawCatBytes.f k l0).bind fun bt376 => ((impl_CatBytes.f k bt376.1 bt376.2.1 bt376.2.2).bind fun t382 => ((spec_CatBytes.f k bt376.1 bt376.2.1 bt376.2.2).bind fun t383 => (if t382 = t383 then ((spec_CatOk.f k bt376.1 bt376.2.1).bind fun t384 => (laws_FnCatBytes.j0 k bt376.2.2 t382 (!t384) bt376.1 bt376.2.1)) else (laws_FnCatBytes.j0 k bt376.2.2 t382 true bt376.1 bt376.2.1)))))
theorem laws_FnCatBytes.mono_l : ∀ k, (∀ y0 y1 y2 y3 y4, LeO (laws_FnCatBytes.j0 k y0 y1 y2 y3 y4) (laws_FnCatBytes.j0 (k + 1) y0 y1 y2 y3 y4)) ∧ (∀ y0 y1 y2 y3 y4 y5, LeO (laws_FnCatBytes.l0 k y0 y1 y2 y3 y4 y5) (laws_FnCatBytes.l0 (k + 1) y0 y1 y2 y3 y4 y5))
 | 0 => ⟨fun _ _ _ _ _ r h => by simp [laws_FnCatBytes.j0] at h, fun _ _ _ _ _ _ r h => by simp [laws_FnCatBytes.l0] at h⟩
 | k + 1 => by
  obtain ⟨ih0, ih1⟩ := laws_FnCatBytes.mono_l k
  refine ⟨?_, ?_⟩
  ·intro y0 y1 y2 y3 y4
   unfold laws_FnCatBytes.j0
   repeat' first
   | (with_reducible exact ih0 _ _ _ _ _)
   | (with_reducible exact ih1 _ _ _ _ _ _)
   | (with_reducible exact impl_CatBytes.mono _ _ _ _)
   | (with_reducible exact impl_CatOk.mono _ _ _)
   | (with_reducible exact spec_CatBytes.mono _ _ _ _)
   | (with_reducible exact spec_CatOk.mono _ _ _)
   | (with_reducible exact spec_DrawCatBytes.mono _ _)
   | (with_reducible exact LeO.refl _)
   | (with_reducible exact LeO.none _)
   | (with_reducible refine LeO.ite ?_ ?_)
   | (with_reducible refine LeO.bind ?_ (fun _ => ?_))
   | exact ih0 _ _ _ _ _
   | exact ih1 _ _ _ _ _ _
   | exact impl_CatBytes.mono _ _ _ _
   | exact impl_CatOk.mono _ _ _
   | exact spec_CatBytes.mono _ _ _ _
   | exact spec_CatOk.mono _ _ _
   | exact spec_DrawCatBytes.mono _ _
   | exact LeO.none _
   | refine LeO.ite ?_ ?_
   | refine LeO.bind ?_ (fun _ => ?_)
  ·intro y0 y1 y2 y3 y4 y5
   unfold laws_FnCatBytes.l0
   repeat' first
   | (with_reducible exact ih0 _ _ _ _ _)
   | (with_reducible exact ih1 _ _ _ _ _ _)
   | (with_reducible exact impl_CatBytes.mono _ _ _ _)
   | (with_reducible exact impl_CatOk.mono _ _ _)
   | (with_reducible exact spec_CatBytes.mono _ _ _ _)
   | (with_reducible exact spec_CatOk.mono _ _ _)
   | (with_reducible exact spec_DrawCatBytes.mono _ _)
   | (with_reducible exact LeO.refl _)
   | (with_reducible exact LeO.none _)
   | (with_reducible refine LeO.ite ?_ ?_)
   | (with_reducible refine LeO.bind ?_ (fun _ => ?_))
   | exact ih0 _ _ _ _ _
   | exact ih1 _ _ _ _ _ _
   | exact impl_CatBytes.mono _ _ _ _
   | exact impl_CatOk.mono _ _ _
   | exact spec_CatBytes.mono _ _ _ _
   | exact spec_CatOk.mono _ _ _
   | exact spec_DrawCatBytes.mono _ _
   | exact LeO.none _
   | refine LeO.ite ?_ ?_
   | refine LeO.bind ?_ (fun _ => ?_)
theorem laws_FnCatBytes.mono : ∀ a0 k, LeO (laws_FnCatBytes.f k a0) (laws_FnCatBytes.f (k + 1) a0) := by
 intro a0 k;obtain ⟨ih0, ih1⟩ := laws_FnCatBytes.mono_l k;unfold laws_FnCatBytes.f
 repeat' first
   | (with_reducible exact ih0 _ _ _ _ _)
   | (with_reducible exact ih1 _ _ _ _ _ _)
   | (with_reducible exact impl_CatBytes.mono _ _ _ _)
   | (with_reducible exact impl_CatOk.mono _ _ _)
   | (with_reducible exact spec_CatBytes.mono _ _ _ _)
   | (with_reducible exact spec_CatOk.mono _ _ _)
   | (with_reducible exact spec_DrawCatBytes.mono _ _)
   | (with_reducible exact LeO.refl _)
   | (with_reducible exact LeO.none _)
   | (with_reducible refine LeO.ite ?_ ?_)
   | (with_reducible refine LeO.bind ?_ (fun _ => ?_))
   | exact ih0 _ _ _ _ _
   | exact ih1 _ _ _ _ _ _
   | exact impl_CatBytes.mono _ _ _ _
   | exact impl_CatOk.mono _ _ _
   | exact spec_CatBytes.mono _ _ _ _
   | exact spec_CatOk.mono _ _ _
   | exact spec_DrawCatBytes.mono _ _
   | exact LeO.none _
   | refine LeO.ite ?_ ?_
   | refine LeO.bind ?_ (fun _ => ?_)
def laws_FnCatBytes.T6 : Bool × List (List Nat × List Nat) := (true, [([], []), ([], []), ([], []), ([1, 2], [1, 2]), ([0, 3], [0, 3]), ([4, 3], [4]), ([5], [5]), ([6, 5, 5], [5, 6]), ([5], [5]), ([8, 7, 5], [5, 8]), ([7, 9, 5], [5, 7, 9]), ([5, 10], [5, 10]), ([11, 9, 0, 1, 2, 3, 4, 5, 6, 7, 8, 9, 10, 11], [11])])
def laws_FnCatBytes.B6 : List Nat := [0, 0, 0, 6, 15, 31, 63, 127, 63, 511, 1023, 2047, 4095]
theorem laws_FnCatBytes.tab6 : rtab .any (opsOf Try.f7 6) = laws_FnCatBytes.T6 := by kernel_rfl
theorem laws_FnCatBytes.bits6 : waitsOk laws_FnCatBytes.T6.2 laws_FnCatBytes.B6 = true := by kernel_rfl
set_option maxHeartbeats 8000000 in
set_option maxRecDepth 100000 in
theorem laws_FnCatBytes.calls (k : Nat) (A0 : Option Addr) (c0 : Nat) (l0 : List Int) (r : Bool) (w : World) (hr0 : Kd.C (Kd.int .u8) w A0 l0.length l0) (hc0 : l0.length ≤ c0) (h : laws_FnCatBytes.f k l0 = some r) :
  Calls Try.prog 7 #[.slice A0 l0.length c0] w fun e w' => e = .returned (.bool r) ∧ Below w.heap.size w w' := by
 have hu29 := Try.underlying29;have HR0 := z_a hr0;have HC0 := z_a hc0;clear hr0 hc0;have HB := z_a (Below.refl w.heap.size w);have H : (if (l0.length : Int) > 1048576 then (some true) else ((spec_DrawCatBytes.f k l0).bind fun bt376 => ((impl_CatBytes.f k bt376.1 bt376.2.1 bt376.2.2).bind fun t382 => ((spec_CatBytes.f k bt376.1 bt376.2.1 bt376.2.2).bind fun t383 => (if t382 = t383 then ((spec_CatOk.f k bt376.1 bt376.2.1).bind fun t384 => (laws_FnCatBytes.j0 k bt376.2.2 t382 (!t384) bt376.1 bt376.2.1)) else (laws_FnCatBytes.j0 k bt376.2.2 t382 true bt376.1 bt376.2.1)))))) = some r:=h;clear h
 by_cases c2 : (l0.length : Int) > 1048576
 ·rw [if_pos c2] at H;have c2b0 : decide (1048576 < (l0.length : Int)) = true:=z_e c2;have c2b1 : decide (1048576 < l0.length) = true:=z_e (by omega);clear c2;obtain rfl := Option.some.inj H
  go_enter Try.func7, Try.ntmps7
  go_wp2
  go_ret
  exact ⟨by first|rfl|(simp [errW_none,errW_some] <;> rfl)|(simp [*,errW_none,errW_some] <;> rfl),by repeat (first|(with_reducible first|exact HB.out|apply y_h|apply y_i|apply y_j)|exact HB.out)⟩
 rw [if_neg c2] at H;have c2b0 : decide (1048576 < (l0.length : Int)) = false:=decide_eq_false c2;have c2b1 : decide (1048576 < l0.length) = false:=decide_eq_false (by omega);clear c2;replace H := z_8 H;obtain ⟨⟨t376, t377, t380⟩, A30, H⟩ := H;replace H : ((impl_CatBytes.f k t376 t377 t380).bind fun t382 => ((spec_CatBytes.f k t376 t377 t380).bind fun t383 => (if t382 = t383 then ((spec_CatOk.f k t376 t377).bind fun t384 => (laws_FnCatBytes.j0 k t380 t382 (!t384) t376 t377)) else (laws_FnCatBytes.j0 k t380 t382 true t376 t377)))) = some r:=H;have A3 := z_a A30;clear A30;replace H := z_8 H;obtain ⟨t382, A40, H⟩ := H;replace H : ((spec_CatBytes.f k t376 t377 t380).bind fun t383 => (if t382 = t383 then ((spec_CatOk.f k t376 t377).bind fun t384 => (laws_FnCatBytes.j0 k t380 t382 (!t384) t376 t377)) else (laws_FnCatBytes.j0 k t380 t382 true t376 t377))) = some r:=H;have A4 := z_a A40;clear A40;have HC5 := z_a H;clear H
 go_enter Try.func7, Try.ntmps7
 go_upto_region 5 with (first|((with_reducible refine gate_callee (f:=25) rfl ?_);refine goesL_ (some 13) rfl rfl Try.func25 (by kernel_rfl) rfl #[.slice A0 l0.length c0] rfl (by (try simp only [z_7,List.map_cons,List.map_nil]);first|done|rfl|(simp only [z_6,z_5];rfl)) ?_;(with_reducible refine (spec_DrawCatBytes.calls k _ _ l0 t376 t377 t380 _ ?side1 ?side2 A3.out).mono ?_);(case side1 => repeat (first|exact HR0.out|(with_reducible refine y_o ?_ _)|(with_reducible refine y_p ?_ _)|(with_reducible refine y_q ?_)));(case side2 => exact HC0.out);rintro e w6 ⟨v378,rfl,ho0,hb⟩;refine ⟨_,rfl,?_⟩;have n0_:=z_a (Kd.R_lower ho0 (z_g (by repeat (first|(with_reducible first|exact HB.out|apply y_h|apply y_i|apply y_j)|exact HB.out))));have n1_:=z_a (z_f (by repeat (first|(with_reducible first|exact HB.out|apply y_h|apply y_i|apply y_j)|exact HB.out)) hb);clear HB;have HO379:=n0_;have HB:=n1_;clear n0_ n1_;(try clear hb);(try clear hb2);(try clear hk);(try clear hi);(try clear ho0))|((with_reducible refine gate_dst (N:=3) rfl ?_);refine box_event ?hg (N:=3) ?hd (cs:=#[.int .i64 0,.slice none 0 0]) (t:=29) ?hr ?_;(case hd => rfl);(case hg => rfl);(case hr => first|(go_simp;done)|(go_simp;rfl));intro gb381 hg w7 hbox hb;have n0_:=z_a (Kd.R_below (by (with_reducible repeat (first|apply y_e|apply y_f|apply y_g));exact HO379.out) hb);have n1_:=z_a (z_f (by repeat (first|(with_reducible first|exact HB.out|apply y_h|apply y_i|apply y_j)|exact HB.out)) hb);have n2_:=z_a (hbox);have n3_:=z_a ((by rw [hg];exact (z_g (by repeat (first|(with_reducible first|exact HB.out|apply y_h|apply y_i|apply y_j)|exact HB.out))) : w.heap.size ≤ gb381));have n4_:=z_a ((by rw [hg];exact (z_g (by repeat (first|(with_reducible first|exact HB.out|apply y_h|apply y_i|apply y_j)|exact HB.out))) : w.heap.size ≤ gb381));clear HO379 HB;have HO379:=n0_;have HB:=n1_;have BK381:=n2_;have GW381:=n3_;have GE381:=n4_;clear n0_ n1_ n2_ n3_ n4_;clear hb hbox hg;have hcz8_0 : w7.cell? ⟨gb381,0,none⟩ = some (.int .i64 0):=(z_b BK381.out 0).trans rfl;have hcz8_1 : w7.cell? ⟨gb381,1,none⟩ = some (.slice none 0 0):=(z_b BK381.out 1).trans rfl;have hfz8_0:=z_4 BK381.out 0;have hfz8_1:=z_4 BK381.out 1;obtain ⟨Ao9,co9,eo9⟩:=Kd.R_slice HO379.out;subst eo9)|((with_reducible refine gate_callee (f:=19) rfl ?_);refine goesL_ (some 18) rfl rfl Try.func19 (by kernel_rfl) rfl #[.agg #[.int .i64 t376,.slice Ao9 t377.length co9],.int .i64 t380] rfl (by (try simp only [z_7,List.map_cons,List.map_nil]);first|done|rfl|(simp only [z_6,z_5];rfl)) ?_;(with_reducible refine (impl_CatBytes.calls k t376 _ _ t377 t380 t382 _ ?side1 ?side2 A4.out).mono ?_);(case side1 => refine (Kd.R_reads' (e:=36) (base:=w.heap.size) (ok:=fun k_ => True) (n:=t377.length) (c:=co9) ?_).2.2;exact (by (with_reducible repeat (first|apply y_e|apply y_f|apply y_g));exact (y_t (Kd.R_far (p:=⟨gb381,1,none⟩) (Kd.R_far (p:=⟨gb381,0,none⟩) (Kd.R_types HO379.out BK381.out (by decide)) (fun _ hk => hk.2) (.int .i64 t376)) (fun _ hk => hk.2) (.slice Ao9 t377.length co9)) (fun _ h_ => h_.1))));(case side2 => exact (Kd.R_reads' HO379.out).2.1);rintro e w10 ⟨rfl,hb⟩;refine ⟨_,rfl,?_⟩;have n0_:=z_a (Kd.R_below (by (with_reducible repeat (first|apply y_e|apply y_f|apply y_g));exact (y_t (Kd.R_far (p:=⟨gb381,1,none⟩) (Kd.R_far (p:=⟨gb381,0,none⟩) (Kd.R_types HO379.out BK381.out (by decide)) (fun _ hk => hk.2) (.int .i64 t376)) (fun _ hk => hk.2) (.slice Ao9 t377.length co9)) (fun _ h_ => h_.1))) hb);have n1_:=z_a (z_d (g:=gb381) (o:=.cells #[.int .i64 t376,.slice Ao9 t377.length co9] 29 (0,0)) (by (with_reducible repeat (first|refine y_b ?_ _|refine y_c ?_|refine y_d ?_ _));refine blk_put (cs:=#[.int .i64 t376,.slice none 0 0]) ?_ 1 _ rfl;(with_reducible repeat (first|refine y_b ?_ _|refine y_c ?_|refine y_d ?_ _));refine blk_put (cs:=#[.int .i64 0,.slice none 0 0]) ?_ 0 _ rfl;(with_reducible repeat (first|refine y_b ?_ _|refine y_c ?_|refine y_d ?_ _));exact BK381.out) hb);have n2_:=z_a (z_f (by repeat (first|(with_reducible first|exact HB.out|apply y_h|apply y_i|apply y_j|refine y_s ?_ GE381.out)|exact HB.out)) hb);clear HO379 BK381 HB;have HO379:=n0_;have BK381:=n1_;have HB:=n2_;clear n0_ n1_ n2_;(try clear hb);(try clear hb2);(try clear hk);(try clear hi)))
 (try simp only [Act.put,z_1,z_2,z_3])
 go_cut [28] (fun v28 wc => ∃ (kq : Nat) (x28_4 : Bool),v28 = .bool x28_4 ∧ Aside0 (laws_FnCatBytes.j0 kq t380 t382 x28_4 t376 t377 = some r) ∧ Aside0 (kq ≤ k) ∧ Aside0 (Kd.R k36 36 wc w.heap.size (fun _ => True) (.slice Ao9 t377.length co9) t377) ∧ Aside0 (wc.heap[gb381]? = some (.cells #[.int .i64 t376,(.slice Ao9 t377.length co9)] 29 (0,0))) ∧ Aside0 (Below w.heap.size w wc))
 case first =>
  have H := HC5.out;clear HC5;replace H := z_8 H;obtain ⟨t383, A110, H⟩ := H;replace H : (if t382 = t383 then ((spec_CatOk.f k t376 t377).bind fun t384 => (laws_FnCatBytes.j0 k t380 t382 (!t384) t376 t377)) else (laws_FnCatBytes.j0 k t380 t382 true t376 t377)) = some r:=H;have A11 := z_a A110;clear A110
  by_cases c12 : t382 = t383
  ·rw [if_pos c12] at H;have c12b0 : (t382 == t383) = true := beq_iff_eq.mpr c12;have c12b1 : (t382 != t383) = false:=bne_eq_false_iff_eq.mpr c12;clear c12
   (first|rw [c12b0]|(simp only [i64_w,i32_w];rw [c12b0])|skip)
   replace H := z_8 H;obtain ⟨t384, A130, H⟩ := H;replace H : (laws_FnCatBytes.j0 k t380 t382 (!t384) t376 t377) = some r:=H;have A13 := z_a A130;clear A130;have H' := z_a H;clear H;have hcz14_0 : w10.cell? ⟨gb381,0,none⟩ = some (.int .i64 t376):=(z_b BK381.out 0).trans rfl;have hcz14_1 : w10.cell? ⟨gb381,1,none⟩ = some (.slice Ao9 t377.length co9):=(z_b BK381.out 1).trans rfl;have hfz14_0 := z_4 BK381.out 0;have hfz14_1 := z_4 BK381.out 1
   go_wp2_with (first|((with_reducible refine gate_callee (f:=18) rfl ?_);refine goesL_ (some 22) rfl rfl Try.func18 (by kernel_rfl) rfl #[.agg #[.int .i64 t376,.slice Ao9 t377.length co9],.int .i64 t380] rfl (by (try simp only [z_7,List.map_cons,List.map_nil]);first|done|rfl|(simp only [z_6,z_5];rfl)) ?_;(with_reducible refine (spec_CatBytes.calls k t376 _ _ t377 t380 t383 _ ?side1 ?side2 A11.out).mono ?_);(case side1 => repeat (first|exact (Kd.R_reads' HO379.out).2.2|(with_reducible refine y_o ?_ _)|(with_reducible refine y_p ?_ _)|(with_reducible refine y_q ?_)));(case side2 => exact (Kd.R_reads' HO379.out).2.1);rintro e w15 ⟨rfl,hb⟩;refine ⟨_,rfl,?_⟩;have n0_:=z_a (Kd.R_below (by (with_reducible repeat (first|apply y_e|apply y_f|apply y_g));exact HO379.out) hb);have n1_:=z_a (z_d (g:=gb381) (o:=.cells #[.int .i64 t376,.slice Ao9 t377.length co9] 29 (0,0)) (by (with_reducible repeat (first|refine y_b ?_ _|refine y_c ?_|refine y_d ?_ _));exact BK381.out) hb);have n2_:=z_a (z_f (by repeat (first|(with_reducible first|exact HB.out|apply y_h|apply y_i|apply y_j|refine y_s ?_ GE381.out)|exact HB.out)) hb);clear HO379 BK381 HB;have HO379:=n0_;have BK381:=n1_;have HB:=n2_;clear n0_ n1_ n2_;(try clear hb);(try clear hb2);(try clear hk);(try clear hi);have hcz16_0 : w15.cell? ⟨gb381,0,none⟩ = some (.int .i64 t376):=(z_b BK381.out 0).trans rfl;have hcz16_1 : w15.cell? ⟨gb381,1,none⟩ = some (.slice Ao9 t377.length co9):=(z_b BK381.out 1).trans rfl;have hfz16_0:=z_4 BK381.out 0;have hfz16_1:=z_4 BK381.out 1)|(go_at_call 14;(with_reducible refine (spec_CatOk.calls k t376 _ _ t377 t384 _ ?side1 ?side2 A13.out).mono ?_);(case side1 => repeat (first|exact (Kd.R_reads' HO379.out).2.2|(with_reducible refine y_o ?_ _)|(with_reducible refine y_p ?_ _)|(with_reducible refine y_q ?_)));(case side2 => exact (Kd.R_reads' HO379.out).2.1);rintro e w17 ⟨rfl,hb⟩;have n0_:=z_a (Kd.R_below (by (with_reducible repeat (first|apply y_e|apply y_f|apply y_g));exact HO379.out) hb);have n1_:=z_a (z_d (g:=gb381) (o:=.cells #[.int .i64 t376,.slice Ao9 t377.length co9] 29 (0,0)) (by (with_reducible repeat (first|refine y_b ?_ _|refine y_c ?_|refine y_d ?_ _));exact BK381.out) hb);have n2_:=z_a (z_f (by repeat (first|(with_reducible first|exact HB.out|apply y_h|apply y_i|apply y_j|refine y_s ?_ GE381.out)|exact HB.out)) hb);clear HO379 BK381 HB;have HO379:=n0_;have BK381:=n1_;have HB:=n2_;clear n0_ n1_ n2_;(try clear hb);(try clear hb2);(try clear hk);(try clear hi)))
   go_meet
   case rel => exact ⟨_,(!t384),(by first|rfl|(simp;done)|(simp [*];done)),H',⟨by first|omega|exact Nat.le_refl _⟩,⟨by (with_reducible repeat (first|apply y_e|apply y_f|apply y_g));exact HO379.out⟩,⟨by (with_reducible repeat (first|refine y_b ?_ _|refine y_c ?_|refine y_d ?_ _));exact BK381.out⟩,⟨by repeat (first|(with_reducible first|exact HB.out|apply y_h|apply y_i|apply y_j|refine y_s ?_ GE381.out)|exact HB.out)⟩⟩
  rw [if_neg c12] at H;have c12b0 : (t382 == t383) = false:=beq_eq_false_iff_ne.mpr c12;have c12b1 : (t382 != t383) = true := bne_iff_ne.mpr c12
  (first|rw [c12b0]|(simp only [i64_w,i32_w];rw [c12b0])|skip)
  have H' := z_a H;clear H;have hcz18_0 : w10.cell? ⟨gb381,0,none⟩ = some (.int .i64 t376):=(z_b BK381.out 0).trans rfl;have hcz18_1 : w10.cell? ⟨gb381,1,none⟩ = some (.slice Ao9 t377.length co9):=(z_b BK381.out 1).trans rfl;have hfz18_0 := z_4 BK381.out 0;have hfz18_1 := z_4 BK381.out 1
  go_wp2_with (first|((with_reducible refine gate_callee (f:=18) rfl ?_);refine goesL_ (some 22) rfl rfl Try.func18 (by kernel_rfl) rfl #[.agg #[.int .i64 t376,.slice Ao9 t377.length co9],.int .i64 t380] rfl (by (try simp only [z_7,List.map_cons,List.map_nil]);first|done|rfl|(simp only [z_6,z_5];rfl)) ?_;(with_reducible refine (spec_CatBytes.calls k t376 _ _ t377 t380 t383 _ ?side1 ?side2 A11.out).mono ?_);(case side1 => repeat (first|exact (Kd.R_reads' HO379.out).2.2|(with_reducible refine y_o ?_ _)|(with_reducible refine y_p ?_ _)|(with_reducible refine y_q ?_)));(case side2 => exact (Kd.R_reads' HO379.out).2.1);rintro e w19 ⟨rfl,hb⟩;refine ⟨_,rfl,?_⟩;have n0_:=z_a (Kd.R_below (by (with_reducible repeat (first|apply y_e|apply y_f|apply y_g));exact HO379.out) hb);have n1_:=z_a (z_d (g:=gb381) (o:=.cells #[.int .i64 t376,.slice Ao9 t377.length co9] 29 (0,0)) (by (with_reducible repeat (first|refine y_b ?_ _|refine y_c ?_|refine y_d ?_ _));exact BK381.out) hb);have n2_:=z_a (z_f (by repeat (first|(with_reducible first|exact HB.out|apply y_h|apply y_i|apply y_j|refine y_s ?_ GE381.out)|exact HB.out)) hb);clear HO379 BK381 HB;have HO379:=n0_;have BK381:=n1_;have HB:=n2_;clear n0_ n1_ n2_;(try clear hb);(try clear hb2);(try clear hk);(try clear hi)))
  go_meet
  case rel => exact ⟨_,(true),(by first|rfl|(simp;done)|(simp [*];done)),H',⟨by first|omega|exact Nat.le_refl _⟩,⟨by (with_reducible repeat (first|apply y_e|apply y_f|apply y_g));exact HO379.out⟩,⟨by (with_reducible repeat (first|refine y_b ?_ _|refine y_c ?_|refine y_d ?_ _));exact BK381.out⟩,⟨by repeat (first|(with_reducible first|exact HB.out|apply y_h|apply y_i|apply y_j|refine y_s ?_ GE381.out)|exact HB.out)⟩⟩
 case rest =>
  clear HC5
  try clear c1
  try clear c2
  try clear c2b0
  try clear c2b1
  try clear p2
  try clear c7
  try clear c12
  try clear c12b0
  try clear c12b1
  try clear c18
  try clear c19
  try clear hcz14_0
  try clear hcz14_1
  try clear hcz16_0
  try clear hcz16_1
  try clear hcz18_0
  try clear hcz18_1
  try clear hcz8_0
  try clear hcz8_1
  try clear hfz14_0
  try clear hfz14_1
  try clear hfz16_0
  try clear hfz16_1
  try clear hfz18_0
  try clear hfz18_1
  try clear hfz8_0
  try clear hfz8_1
  obtain ⟨kq,x28_4,rfl,HA,HJ4,HO_382001,BK381,HB⟩:=hcut;cases kq with
  | zero => exact absurd HA.out (by simp [laws_FnCatBytes.j0])
  | succ kj4 =>
   have H := HA.out;clear HA;simp only [laws_FnCatBytes.j0] at H
   by_cases c20 : x28_4 = true
   ·subst c20;have H1 : ((spec_CatBytes.f kj4 t376 t377 t380).bind fun t385 => (if t382 = t385 then ((impl_CatOk.f kj4 t376 t377).bind fun t386 => ((spec_CatOk.f kj4 t376 t377).bind fun t387 => (some (t386 == t387)))) else (some false))) = some r:=by rw [if_pos rfl] at H;exact H
    clear H;have H := H1;clear H1;replace H := z_8 H;obtain ⟨t385, A210, H⟩ := H;replace H : (if t382 = t385 then ((impl_CatOk.f kj4 t376 t377).bind fun t386 => ((spec_CatOk.f kj4 t376 t377).bind fun t387 => (some (t386 == t387)))) else (some false)) = some r:=H;have A21 := z_a A210;clear A210
    by_cases c22 : t382 = t385
    ·rw [if_pos c22] at H;have c22b0 : (t382 == t385) = true := beq_iff_eq.mpr c22;have c22b1 : (t382 != t385) = false:=bne_eq_false_iff_eq.mpr c22;clear c22;replace H := z_8 H;obtain ⟨t386, A230, H⟩ := H;replace H : ((spec_CatOk.f kj4 t376 t377).bind fun t387 => (some (t386 == t387))) = some r:=H;have A23 := z_a A230;clear A230;replace H := z_8 H;obtain ⟨t387, A240, H⟩ := H;replace H : (some (t386 == t387)) = some r := H;have A24 := z_a A240;clear A240;obtain rfl := Option.some.inj H
     try go_wp2
     have n0_ := z_a (y_g HO_382001.out);have n1_ := z_a (y_c BK381.out);have n2_ := z_a (y_j HB.out);clear HO_382001;clear BK381;clear HB;have HO_382001 := n0_;have BK381 := n1_;have HB := n2_;clear n0_ n1_ n2_;refine start_ (n:=13) (S:=fun w' => w'.cell? ⟨gb381,0,none⟩ = some (.int .i64 t376) ∧ w'.cell? ⟨gb381,1,none⟩ = some (.slice Ao9 t377.length co9)) (ds:=[]) #[false,false,false,false,false,false,false,false,false,false,false,false,false] (by kernel_rfl) rfl rfl ⟨(z_b BK381.out 0).trans rfl,(z_b BK381.out 1).trans rfl⟩ (fun hHeld => ?_);refine with_tabW laws_FnCatBytes.tab6 laws_FnCatBytes.bits6 (fun HT_ HW_ => ?_);generalize wc.drew = w25 at HO_382001 BK381 HB hHeld ⊢;refine pure_ (i:=0) (N:=some 29) (v:=?_) (a':=?_) (Mb 13 1) rfl rfl (any_of HT_.out (by kernel_rfl)) (fun _ _ _ h => h) (Or.inl ⟨by rfl,?_⟩) ?_ ?_;rotate_left
     ·intro w';go_simp;with_reducible rfl
     rotate_left
     ·simp only [Act.put,z_1,z_2,z_3,i64_w,i32_w];rfl
     refine pure_ (i:=2) (N:=some 31) (v:=?_) (a':=?_) (Mb 13 5) rfl rfl (any_of HT_.out (by kernel_rfl)) (fun _ _ _ h => h) (Or.inl ⟨by rfl,?_⟩) ?_ ?_;rotate_left
     ·intro w';go_simp;with_reducible rfl
     rotate_left
     ·simp only [Act.put,z_1,z_2,z_3,i64_w,i32_w];rfl
     refine take_ (i:=1) (N:=some 30) (v:=?_) (a':=?_) (Mb 13 7) rfl rfl (take_ofW HT_.out HW_.out (by kernel_rfl)) (fun _ _ _ h => h) (Or.inl ⟨by rfl,?_⟩) hHeld ?_ ?_;rotate_left
     ·rintro w' ⟨s0, s1⟩;go_simp;with_reducible rfl
     rotate_left
     ·simp only [Act.put,z_1,z_2,z_3,i64_w,i32_w];rfl
     refine one_ (i:=3) (N:=some 32) (Mb 13 15) rfl rfl (one_of HT_.out (by kernel_rfl)) (by decide) (fun K hK => ?_);refine goes_ Try.func18 (by kernel_rfl) rfl #[.agg #[.int .i64 t376,.slice Ao9 t377.length co9],.int .i64 t380] (by rfl) rfl rfl (by (try simp only [z_7,List.map_cons,List.map_nil]);first|done|rfl|(simp only [z_6,z_5];rfl)) ?_;with_reducible refine (spec_CatBytes.calls kj4 t376 _ _ t377 t380 t385 _ ?side1 ?side2 A21.out).mono ?_
     (case side1 => repeat (first|exact (Kd.R_reads' HO_382001.out).2.2|(with_reducible refine y_o ?_ _)|(with_reducible refine y_p ?_ _)|(with_reducible refine y_q ?_)))
     (case side2 => exact (Kd.R_reads' HO_382001.out).2.1)
     rintro e w26 ⟨rfl, hb⟩;refine ⟨_, rfl, ?_⟩;have n0_:=z_a (Kd.R_below (by (with_reducible repeat (first|apply y_e|apply y_f|apply y_g));exact HO_382001.out) hb);have n1_:=z_a (z_d (g:=gb381) (o:=.cells #[.int .i64 t376,.slice Ao9 t377.length co9] 29 (0,0)) (by (with_reducible repeat (first|refine y_b ?_ _|refine y_c ?_|refine y_d ?_ _));exact BK381.out) hb);have n2_:=z_a (z_f (by repeat (first|(with_reducible first|exact HB.out|apply y_h|apply y_i|apply y_j|refine y_s ?_ GE381.out)|exact HB.out)) hb);clear HO_382001;clear BK381;clear HB;have HO_382001 := n0_;have BK381 := n1_;have HB := n2_;clear n0_ n1_ n2_;(try clear hb);(try clear hb2);(try clear hk);(try clear hi);refine hK.out _ _ ⟨(z_b BK381.out 0).trans rfl,(z_b BK381.out 1).trans rfl⟩ (fun hHeld => ?_);clear hK K;refine norm_ (a' := ?_) ?_ ?_;rotate_left
     ·show Act.put _ (some 32) _ = _;simp only [Act.put,z_1,z_2,z_3,i64_w,i32_w];rfl
     refine pure_ (i:=4) (N:=some 33) (v:=?_) (a':=?_) (Mb 13 31) rfl rfl (any_of HT_.out (by kernel_rfl)) (fun _ _ _ h => h) (Or.inl ⟨by rfl,?_⟩) ?_ ?_;rotate_left
     ·intro w';go_simp;with_reducible rfl
     rotate_left
     ·simp only [Act.put,z_1,z_2,z_3,i64_w,i32_w];rfl
     refine pure_ (i:=5) (N:=some 34) (v:=?_) (a':=?_) (Mb 13 63) rfl rfl (any_of HT_.out (by kernel_rfl)) (fun _ _ _ h => h) (Or.inl ⟨by rfl,?_⟩) ?_ ?_;rotate_left
     ·intro w';go_simp;with_reducible rfl
     rotate_left
     ·simp only [Act.put,z_1,z_2,z_3,i64_w,i32_w];rfl
     refine take_ (i:=6) (N:=some 35) (v:=?_) (a':=?_) (Mb 13 127) rfl rfl (take_ofW HT_.out HW_.out (by kernel_rfl)) (fun _ _ _ h => h) (Or.inl ⟨by rfl,?_⟩) hHeld ?_ ?_;rotate_left
     ·rintro w' ⟨s0, s1⟩;go_simp;with_reducible rfl
     rotate_left
     ·simp only [Act.put,z_1,z_2,z_3,i64_w,i32_w];rfl
     refine take_ (i:=8) (N:=some 37) (v:=?_) (a':=?_) (Mb 13 383) rfl rfl (take_ofW HT_.out HW_.out (by kernel_rfl)) (fun _ _ _ h => h) (Or.inl ⟨by rfl,?_⟩) hHeld ?_ ?_;rotate_left
     ·rintro w' ⟨s0, s1⟩;go_simp;with_reducible rfl
     rotate_left
     ·simp only [Act.put,z_1,z_2,z_3,i64_w,i32_w];rfl
     refine one_ (i:=7) (N:=some 36) (Mb 13 511) rfl rfl (one_of HT_.out (by kernel_rfl)) (by decide) (fun K hK => ?_);refine goes_ Try.func16 (by kernel_rfl) rfl #[.agg #[.int .i64 t376,.slice Ao9 t377.length co9]] (by rfl) rfl rfl (by (try simp only [z_7,List.map_cons,List.map_nil]);first|done|rfl|(simp only [z_6,z_5];rfl)) ?_;with_reducible refine (impl_CatOk.calls kj4 t376 _ _ t377 t386 _ ?side1 ?side2 A23.out).mono ?_
     (case side1 => repeat (first|exact (Kd.R_reads' HO_382001.out).2.2|(with_reducible refine y_o ?_ _)|(with_reducible refine y_p ?_ _)|(with_reducible refine y_q ?_)))
     (case side2 => exact (Kd.R_reads' HO_382001.out).2.1)
     rintro e w27 ⟨rfl, hb⟩;refine ⟨_, rfl, ?_⟩;have n0_:=z_a (Kd.R_below (by (with_reducible repeat (first|apply y_e|apply y_f|apply y_g));exact HO_382001.out) hb);have n1_:=z_a (z_d (g:=gb381) (o:=.cells #[.int .i64 t376,.slice Ao9 t377.length co9] 29 (0,0)) (by (with_reducible repeat (first|refine y_b ?_ _|refine y_c ?_|refine y_d ?_ _));exact BK381.out) hb);have n2_:=z_a (z_f (by repeat (first|(with_reducible first|exact HB.out|apply y_h|apply y_i|apply y_j|refine y_s ?_ GE381.out)|exact HB.out)) hb);clear HO_382001;clear BK381;clear HB;have HO_382001 := n0_;have BK381 := n1_;have HB := n2_;clear n0_ n1_ n2_;(try clear hb);(try clear hb2);(try clear hk);(try clear hi);refine hK.out _ _ ⟨(z_b BK381.out 0).trans rfl,(z_b BK381.out 1).trans rfl⟩ (fun hHeld => ?_);clear hK K;refine norm_ (a' := ?_) ?_ ?_;rotate_left
     ·show Act.put _ (some 36) _ = _;simp only [Act.put,z_1,z_2,z_3,i64_w,i32_w];rfl
     refine one_ (i:=9) (N:=some 38) (Mb 13 1023) rfl rfl (one_of HT_.out (by kernel_rfl)) (by decide) (fun K hK => ?_);refine goes_ Try.func14 (by kernel_rfl) rfl #[.agg #[.int .i64 t376,.slice Ao9 t377.length co9]] (by rfl) rfl rfl (by (try simp only [z_7,List.map_cons,List.map_nil]);first|done|rfl|(simp only [z_6,z_5];rfl)) ?_;with_reducible refine (spec_CatOk.calls kj4 t376 _ _ t377 t387 _ ?side1 ?side2 A24.out).mono ?_
     (case side1 => repeat (first|exact (Kd.R_reads' HO_382001.out).2.2|(with_reducible refine y_o ?_ _)|(with_reducible refine y_p ?_ _)|(with_reducible refine y_q ?_)))
     (case side2 => exact (Kd.R_reads' HO_382001.out).2.1)
     rintro e w28 ⟨rfl, hb⟩;refine ⟨_, rfl, ?_⟩;have n0_:=z_a (Kd.R_below (by (with_reducible repeat (first|apply y_e|apply y_f|apply y_g));exact HO_382001.out) hb);have n1_:=z_a (z_d (g:=gb381) (o:=.cells #[.int .i64 t376,.slice Ao9 t377.length co9] 29 (0,0)) (by (with_reducible repeat (first|refine y_b ?_ _|refine y_c ?_|refine y_d ?_ _));exact BK381.out) hb);have n2_:=z_a (z_f (by repeat (first|(with_reducible first|exact HB.out|apply y_h|apply y_i|apply y_j|refine y_s ?_ GE381.out)|exact HB.out)) hb);clear HO_382001;clear BK381;clear HB;have HO_382001 := n0_;have BK381 := n1_;have HB := n2_;clear n0_ n1_ n2_;(try clear hb);(try clear hb2);(try clear hk);(try clear hi);refine hK.out _ _ ⟨(z_b BK381.out 0).trans rfl,(z_b BK381.out 1).trans rfl⟩ (fun hHeld => ?_);clear hK K;refine norm_ (a' := ?_) ?_ ?_;rotate_left
     ·show Act.put _ (some 38) _ = _;simp only [Act.put,z_1,z_2,z_3,i64_w,i32_w];rfl
     refine pure_ (i:=10) (N:=some 39) (v:=?_) (a':=?_) (Mb 13 2047) rfl rfl (any_of HT_.out (by kernel_rfl)) (fun _ _ _ h => h) (Or.inl ⟨by rfl,?_⟩) ?_ ?_;rotate_left
     ·intro w';go_simp;with_reducible rfl
     rotate_left
     ·simp only [Act.put,z_1,z_2,z_3,i64_w,i32_w];rfl
     refine pure_ (i:=11) (N:=some 40) (v:=?_) (a':=?_) (Mb 13 4095) rfl rfl (any_of HT_.out (by kernel_rfl)) (fun _ _ _ h => h) (Or.inl ⟨by rfl,?_⟩) ?_ ?_;rotate_left
     ·intro w';go_simp;with_reducible rfl
     rotate_left
     ·simp only [Act.put,z_1,z_2,z_3,i64_w,i32_w];rfl
     refine pure_ (i:=12) (N:=some 2) (v:=?_) (a':=?_) (Mb 13 8191) rfl rfl (any_of HT_.out (by kernel_rfl)) (fun _ _ _ h => h) (Or.inl ⟨by rfl,?_⟩) ?_ ?_;rotate_left
     ·intro w';go_simp;with_reducible rfl
     rotate_left
     ·simp only [Act.put,z_1,z_2,z_3,i64_w,i32_w];rfl
     refine done_ (done_of HT_.out (by kernel_rfl)) ?_
     try go_wp2
     go_ret
     exact ⟨by first|rfl|(simp [errW_none,errW_some] <;> rfl)|(simp [*,errW_none,errW_some] <;> rfl),by repeat (first|(with_reducible first|exact HB.out|apply y_h|apply y_i|apply y_j|refine y_s ?_ GE381.out)|exact HB.out)⟩
    ·rw [if_neg c22] at H;have c22b0 : (t382 == t385) = false:=beq_eq_false_iff_ne.mpr c22;have c22b1 : (t382 != t385) = true := bne_iff_ne.mpr c22;obtain rfl := Option.some.inj H
     try go_wp2
     have n0_ := z_a (y_g HO_382001.out);have n1_ := z_a (y_c BK381.out);have n2_ := z_a (y_j HB.out);clear HO_382001;clear BK381;clear HB;have HO_382001 := n0_;have BK381 := n1_;have HB := n2_;clear n0_ n1_ n2_;refine start_ (n:=13) (S:=fun w' => w'.cell? ⟨gb381,0,none⟩ = some (.int .i64 t376) ∧ w'.cell? ⟨gb381,1,none⟩ = some (.slice Ao9 t377.length co9)) (ds:=[]) #[false,false,false,false,false,false,false,false,false,false,false,false,false] (by kernel_rfl) rfl rfl ⟨(z_b BK381.out 0).trans rfl,(z_b BK381.out 1).trans rfl⟩ (fun hHeld => ?_);refine with_tabW laws_FnCatBytes.tab6 laws_FnCatBytes.bits6 (fun HT_ HW_ => ?_);generalize wc.drew = w29 at HO_382001 BK381 HB hHeld ⊢;refine pure_ (i:=0) (N:=some 29) (v:=?_) (a':=?_) (Mb 13 1) rfl rfl (any_of HT_.out (by kernel_rfl)) (fun _ _ _ h => h) (Or.inl ⟨by rfl,?_⟩) ?_ ?_;rotate_left
     ·intro w';go_simp;with_reducible rfl
     rotate_left
     ·simp only [Act.put,z_1,z_2,z_3,i64_w,i32_w];rfl
     refine pure_ (i:=2) (N:=some 31) (v:=?_) (a':=?_) (Mb 13 5) rfl rfl (any_of HT_.out (by kernel_rfl)) (fun _ _ _ h => h) (Or.inl ⟨by rfl,?_⟩) ?_ ?_;rotate_left
     ·intro w';go_simp;with_reducible rfl
     rotate_left
     ·simp only [Act.put,z_1,z_2,z_3,i64_w,i32_w];rfl
     refine take_ (i:=1) (N:=some 30) (v:=?_) (a':=?_) (Mb 13 7) rfl rfl (take_ofW HT_.out HW_.out (by kernel_rfl)) (fun _ _ _ h => h) (Or.inl ⟨by rfl,?_⟩) hHeld ?_ ?_;rotate_left
     ·rintro w' ⟨s0, s1⟩;go_simp;with_reducible rfl
     rotate_left
     ·simp only [Act.put,z_1,z_2,z_3,i64_w,i32_w];rfl
     refine one_ (i:=3) (N:=some 32) (Mb 13 15) rfl rfl (one_of HT_.out (by kernel_rfl)) (by decide) (fun K hK => ?_);refine goes_ Try.func18 (by kernel_rfl) rfl #[.agg #[.int .i64 t376,.slice Ao9 t377.length co9],.int .i64 t380] (by rfl) rfl rfl (by (try simp only [z_7,List.map_cons,List.map_nil]);first|done|rfl|(simp only [z_6,z_5];rfl)) ?_;with_reducible refine (spec_CatBytes.calls kj4 t376 _ _ t377 t380 t385 _ ?side1 ?side2 A21.out).mono ?_
     (case side1 => repeat (first|exact (Kd.R_reads' HO_382001.out).2.2|(with_reducible refine y_o ?_ _)|(with_reducible refine y_p ?_ _)|(with_reducible refine y_q ?_)))
     (case side2 => exact (Kd.R_reads' HO_382001.out).2.1)
     rintro e w30 ⟨rfl, hb⟩;refine ⟨_, rfl, ?_⟩;have n0_:=z_a (Kd.R_below (by (with_reducible repeat (first|apply y_e|apply y_f|apply y_g));exact HO_382001.out) hb);have n1_:=z_a (z_d (g:=gb381) (o:=.cells #[.int .i64 t376,.slice Ao9 t377.length co9] 29 (0,0)) (by (with_reducible repeat (first|refine y_b ?_ _|refine y_c ?_|refine y_d ?_ _));exact BK381.out) hb);have n2_:=z_a (z_f (by repeat (first|(with_reducible first|exact HB.out|apply y_h|apply y_i|apply y_j|refine y_s ?_ GE381.out)|exact HB.out)) hb);clear HO_382001;clear BK381;clear HB;have HO_382001 := n0_;have BK381 := n1_;have HB := n2_;clear n0_ n1_ n2_;(try clear hb);(try clear hb2);(try clear hk);(try clear hi);refine hK.out _ _ ⟨(z_b BK381.out 0).trans rfl,(z_b BK381.out 1).trans rfl⟩ (fun hHeld => ?_);clear hK K;refine norm_ (a' := ?_) ?_ ?_;rotate_left
     ·show Act.put _ (some 32) _ = _;simp only [Act.put,z_1,z_2,z_3,i64_w,i32_w];rfl
     refine pure_ (i:=4) (N:=some 33) (v:=?_) (a':=?_) (Mb 13 31) rfl rfl (any_of HT_.out (by kernel_rfl)) (fun _ _ _ h => h) (Or.inl ⟨by rfl,?_⟩) ?_ ?_;rotate_left
     ·intro w';go_simp;with_reducible rfl
     rotate_left
     ·simp only [Act.put,z_1,z_2,z_3,i64_w,i32_w];rfl
     refine pure_ (i:=5) (N:=some 34) (v:=?_) (a':=?_) (Mb 13 63) rfl rfl (any_of HT_.out (by kernel_rfl)) (fun _ _ _ h => h) (Or.inl ⟨by rfl,?_⟩) ?_ ?_;rotate_left
     ·intro w';go_simp;with_reducible rfl
     rotate_left
     ·simp only [Act.put,z_1,z_2,z_3,i64_w,i32_w];rfl
     refine pure_ (i:=6) (N:=some 35) (v:=undef) (a':=?_) (Mb 13 127) rfl rfl (any_of HT_.out (by kernel_rfl)) (fun _ _ _ h => h) (Or.inr ⟨by rfl,rfl⟩) ?_ ?_;rotate_left
     ·simp only [Act.put,z_1,z_2,z_3,i64_w,i32_w];rfl
     refine pure_ (i:=7) (N:=some 36) (v:=undef) (a':=?_) (Mb 13 255) rfl rfl (any_of HT_.out (by kernel_rfl)) (fun _ _ _ h => h) (Or.inr ⟨by rfl,rfl⟩) ?_ ?_;rotate_left
     ·simp only [Act.put,z_1,z_2,z_3,i64_w,i32_w];rfl
     refine pure_ (i:=8) (N:=some 37) (v:=undef) (a':=?_) (Mb 13 511) rfl rfl (any_of HT_.out (by kernel_rfl)) (fun _ _ _ h => h) (Or.inr ⟨by rfl,rfl⟩) ?_ ?_;rotate_left
     ·simp only [Act.put,z_1,z_2,z_3,i64_w,i32_w];rfl
     refine pure_ (i:=9) (N:=some 38) (v:=undef) (a':=?_) (Mb 13 1023) rfl rfl (any_of HT_.out (by kernel_rfl)) (fun _ _ _ h => h) (Or.inr ⟨by rfl,rfl⟩) ?_ ?_;rotate_left
     ·simp only [Act.put,z_1,z_2,z_3,i64_w,i32_w];rfl
     refine pure_ (i:=10) (N:=some 39) (v:=undef) (a':=?_) (Mb 13 2047) rfl rfl (any_of HT_.out (by kernel_rfl)) (fun _ _ _ h => h) (Or.inr ⟨by rfl,rfl⟩) ?_ ?_;rotate_left
     ·simp only [Act.put,z_1,z_2,z_3,i64_w,i32_w];rfl
     refine pure_ (i:=11) (N:=some 40) (v:=?_) (a':=?_) (Mb 13 4095) rfl rfl (any_of HT_.out (by kernel_rfl)) (fun _ _ _ h => h) (Or.inl ⟨by rfl,?_⟩) ?_ ?_;rotate_left
     ·intro w';go_simp;with_reducible rfl
     rotate_left
     ·simp only [Act.put,z_1,z_2,z_3,i64_w,i32_w];rfl
     refine pure_ (i:=12) (N:=some 2) (v:=?_) (a':=?_) (Mb 13 8191) rfl rfl (any_of HT_.out (by kernel_rfl)) (fun _ _ _ h => h) (Or.inl ⟨by rfl,?_⟩) ?_ ?_;rotate_left
     ·intro w';go_simp;with_reducible rfl
     rotate_left
     ·simp only [Act.put,z_1,z_2,z_3,i64_w,i32_w];rfl
     refine done_ (done_of HT_.out (by kernel_rfl)) ?_
     try go_wp2
     go_ret
     exact ⟨by first|rfl|(simp [errW_none,errW_some] <;> rfl)|(simp [*,errW_none,errW_some] <;> rfl),by repeat (first|(with_reducible first|exact HB.out|apply y_h|apply y_i|apply y_j|refine y_s ?_ GE381.out)|exact HB.out)⟩
   ·replace c20 := Bool.eq_false_iff.mpr c20;subst c20;have H1 : (laws_FnCatBytes.l0 kj4 t380 t382 0 0 t376 t377) = some r:=by rw [if_neg (show ¬ (false = true) by decide)] at H;exact H
    clear H;have H := H1;clear H1;have H' := z_a H;clear H
    go_wp2
    go_loopg [6,7] kj4 (fun kq v6 v7 w' => ∃ (x6_2 : Int) (x7_2 : Int),v6 = .int .i64 x6_2 ∧ v7 = .int .i64 x7_2 ∧ Aside0 (laws_FnCatBytes.l0 kq t380 t382 x6_2 x7_2 t376 t377 = some r) ∧ Aside0 (kq ≤ kj4) ∧ Aside0 (Kd.R k36 36 w' w.heap.size (fun _ => True) (.slice Ao9 t377.length co9) t377) ∧ Aside0 (w'.heap[gb381]? = some (.cells #[.int .i64 t376,(.slice Ao9 t377.length co9)] 29 (0,0))) ∧ Aside0 (Below w.heap.size w w'))
    case atStart => exact ⟨(0),(0),(by first|rfl|(simp;done)|(simp [*];done)),(by first|rfl|(simp;done)|(simp [*];done)),H',⟨Nat.le_refl _⟩,⟨by (with_reducible repeat (first|apply y_e|apply y_f|apply y_g));exact HO_382001.out⟩,⟨by (with_reducible repeat (first|refine y_b ?_ _|refine y_c ?_|refine y_d ?_ _));exact BK381.out⟩,⟨by repeat (first|(with_reducible first|exact HB.out|apply y_h|apply y_i|apply y_j|refine y_s ?_ GE381.out)|exact HB.out)⟩⟩
    case round =>
     clear H'
     try clear c1
     try clear c2
     try clear c2b0
     try clear c2b1
     try clear p2
     try clear c7
     try clear c12
     try clear c12b0
     try clear c12b1
     try clear c14
     try clear c16
     try clear c18
     try clear c19
     try clear c20
     try clear c22
     try clear c22b0
     try clear c22b1
     try clear c25
     try clear hcz14_0
     try clear hcz14_1
     try clear hcz16_0
     try clear hcz16_1
     try clear hcz18_0
     try clear hcz18_1
     try clear hcz8_0
     try clear hcz8_1
     try clear hfz14_0
     try clear hfz14_1
     try clear hfz16_0
     try clear hfz16_1
     try clear hfz18_0
     try clear hfz18_1
     try clear hfz8_0
     try clear hfz8_1
     try clear p2
     obtain ⟨x6_2,x7_2,rfl,rfl,HA,HK2,HO_382001,BK381,HB⟩:=hrel;cases gk with
     | zero => exact absurd HA.out (by simp [laws_FnCatBytes.l0])
     | succ k2 =>
      have H := HA.out;clear HA;simp only [laws_FnCatBytes.l0] at H
      by_cases c31 : x7_2 < (t377.length : Int)
      ·rw [if_pos c31] at H;have c31b0 : decide (x7_2 < (t377.length : Int)) = true:=z_e c31;clear c31
       by_cases c32 : 0 ≤ x7_2
       ·rw [if_pos c32] at H;have c32b0 : decide (0 ≤ x7_2) = true := z_e c32;clear c32
        by_cases c33 : ((rd_T36 t377 x7_2).f0) = t380
        ·rw [if_pos c33] at H;have c33b0 : (((rd_T36 t377 x7_2).f0) == t380) = true:=beq_iff_eq.mpr c33;have c33b1 : (((rd_T36 t377 x7_2).f0) != t380) = false:=bne_eq_false_iff_eq.mpr c33;clear c33;have H' := z_a H;clear H;have hcz34_0 : wr.cell? ⟨gb381,0,none⟩ = some (.int .i64 t376):=(z_b BK381.out 0).trans rfl;have hcz34_1 : wr.cell? ⟨gb381,1,none⟩ = some (.slice Ao9 t377.length co9):=(z_b BK381.out 1).trans rfl;have hfz34_0 := z_4 BK381.out 0;have hfz34_1 := z_4 BK381.out 1;have p388 : 0 ≤ (x7_2 : Int):=z_9 (by first|(with_reducible assumption)|assumption);have q388 : x7_2 < (t377.length : Int):=z_9 (by first|(with_reducible assumption)|assumption);obtain ⟨ad388,e388,hx388_0,hx388_1,hx388_2,hx388_3⟩:=at_T36 (Kd.R_reads' HO_382001.out).2.2 x7_2 p388 q388;cases e388;replace p388 := eq_true p388;replace q388 := eq_true q388;have p389 : 0 ≤ (x7_2 : Int):=z_9 (by first|(with_reducible assumption)|assumption);have q389 : x7_2 < (t377.length : Int):=z_9 (by first|(with_reducible assumption)|assumption);obtain ⟨ad389,e389,hx389_0,hx389_1,hx389_2,hx389_3⟩:=at_T36 (Kd.R_reads' HO_382001.out).2.2 x7_2 p389 q389;obtain rfl : ad388 = ad389 := (by injection e389);replace p389 := eq_true p389;replace q389 := eq_true q389
         go_wp2
         go_roundg k2
         case measure => have := HJ4.out; have := HK2.out; omega
         case rel => exact ⟨(wrap64 (x6_2 + (((rd_T36 t377 x7_2).f3).size : Int))),(wrap64 (x7_2 + 1)),(by first|rfl|(simp;done)|(simp [*];done)),(by first|rfl|(simp;done)|(simp [*];done)),H',⟨by have:=HJ4.out;have:=HK2.out;omega⟩,⟨by (with_reducible repeat (first|apply y_e|apply y_f|apply y_g));exact HO_382001.out⟩,⟨by (with_reducible repeat (first|refine y_b ?_ _|refine y_c ?_|refine y_d ?_ _));exact BK381.out⟩,⟨by repeat (first|(with_reducible first|exact HB.out|apply y_h|apply y_i|apply y_j|refine y_s ?_ GE381.out)|exact HB.out)⟩⟩
        ·rw [if_neg c33] at H;have c33b0 : (((rd_T36 t377 x7_2).f0) == t380) = false:=beq_eq_false_iff_ne.mpr c33;have c33b1 : (((rd_T36 t377 x7_2).f0) != t380) = true:=bne_iff_ne.mpr c33;have H' := z_a H;clear H;have hcz35_0 : wr.cell? ⟨gb381,0,none⟩ = some (.int .i64 t376):=(z_b BK381.out 0).trans rfl;have hcz35_1 : wr.cell? ⟨gb381,1,none⟩ = some (.slice Ao9 t377.length co9):=(z_b BK381.out 1).trans rfl;have hfz35_0 := z_4 BK381.out 0;have hfz35_1 := z_4 BK381.out 1;have p388 : 0 ≤ (x7_2 : Int):=z_9 (by first|(with_reducible assumption)|assumption);have q388 : x7_2 < (t377.length : Int):=z_9 (by first|(with_reducible assumption)|assumption);obtain ⟨ad388,e388,hx388_0,hx388_1,hx388_2,hx388_3⟩:=at_T36 (Kd.R_reads' HO_382001.out).2.2 x7_2 p388 q388;cases e388;replace p388 := eq_true p388;replace q388 := eq_true q388
         go_wp2
         go_roundg k2
         case measure => have := HJ4.out; have := HK2.out; omega
         case rel => exact ⟨(x6_2),(wrap64 (x7_2 + 1)),(by first|rfl|(simp;done)|(simp [*];done)),(by first|rfl|(simp;done)|(simp [*];done)),H',⟨by have:=HJ4.out;have:=HK2.out;omega⟩,⟨by (with_reducible repeat (first|apply y_e|apply y_f|apply y_g));exact HO_382001.out⟩,⟨by (with_reducible repeat (first|refine y_b ?_ _|refine y_c ?_|refine y_d ?_ _));exact BK381.out⟩,⟨by repeat (first|(with_reducible first|exact HB.out|apply y_h|apply y_i|apply y_j|refine y_s ?_ GE381.out)|exact HB.out)⟩⟩
       ·rw [if_neg c32] at H;exact absurd H (by simp)
      ·rw [if_neg c31] at H;have c31b0 : decide (x7_2 < (t377.length : Int)) = false:=decide_eq_false c31;clear c31
       by_cases c36 : t382 = x6_2
       ·rw [if_pos c36] at H;have c36b0 : (t382 == x6_2) = true := beq_iff_eq.mpr c36;have c36b1 : (t382 != x6_2) = false:=bne_eq_false_iff_eq.mpr c36;clear c36;obtain rfl := Option.some.inj H;have hcz37_0 : wr.cell? ⟨gb381,0,none⟩ = some (.int .i64 t376):=(z_b BK381.out 0).trans rfl;have hcz37_1 : wr.cell? ⟨gb381,1,none⟩ = some (.slice Ao9 t377.length co9):=(z_b BK381.out 1).trans rfl;have hfz37_0 := z_4 BK381.out 0;have hfz37_1 := z_4 BK381.out 1
        go_wp2
        go_ret
        exact ⟨by first|rfl|(simp [errW_none,errW_some] <;> rfl)|(simp [*,errW_none,errW_some] <;> rfl),by repeat (first|(with_reducible first|exact HB.out|apply y_h|apply y_i|apply y_j|refine y_s ?_ GE381.out)|exact HB.out)⟩
       ·rw [if_neg c36] at H;have c36b0 : (t382 == x6_2) = false:=beq_eq_false_iff_ne.mpr c36;have c36b1 : (t382 != x6_2) = true := bne_iff_ne.mpr c36;obtain rfl := Option.some.inj H;have hcz38_0 : wr.cell? ⟨gb381,0,none⟩ = some (.int .i64 t376):=(z_b BK381.out 0).trans rfl;have hcz38_1 : wr.cell? ⟨gb381,1,none⟩ = some (.slice Ao9 t377.length co9):=(z_b BK381.out 1).trans rfl;have hfz38_0 := z_4 BK381.out 0;have hfz38_1 := z_4 BK381.out 1
        go_wp2
        go_ret
        exact ⟨by first|rfl|(simp [errW_none,errW_some] <;> rfl)|(simp [*,errW_none,errW_some] <;> rfl),by repeat (first|(with_reducible first|exact HB.out|apply y_h|apply y_i|apply y_j|refine y_s ?_ GE381.out)|exact HB.out)⟩

/-- THE ONE PURE STATEMENT of laws_FnCatBytes: yours. -/
def laws_FnCatBytes.Pure : Prop := ∀ (l0 : List Int), l0.length ≤ maxLen → l0.length * 1 ≤ 140737488351232 → (∀ x ∈ l0, (Lit.int .u8 x).wf = true) → ∃ k, laws_FnCatBytes.f k l0 = some true
theorem laws_FnCatBytes.walk (P : laws_FnCatBytes.Pure) (a0 : Option Addr) (len0 cap0 : Nat) (z0 : List Int) (w : World) (w0 : (a0 = none ∧ len0 = 0 ∧ cap0 = 0 ∧ z0 = []) ∨ ∃ x, a0 = some x ∧ len0 ≤ cap0 ∧ cap0 ≤ maxLen ∧ z0.length = cap0 ∧ (∀ i, i < z0.length → w.cell? (x.add i) = some (.int .u8 (z0.getD i 0))) ∧ ∀ n ∈ z0, (Lit.int .u8 n).wf = true) (y0 : len0 * 1 ≤ 140737488351232) :
  Calls Try.prog 7 #[.slice a0 len0 cap0] w fun e w' => e = .returned (.bool true) ∧ Below w.heap.size w w' := by
 obtain ⟨l0, rfl, hr0, hm0, hw0, hc0⟩ := ReadsInt.ofRowC w0;obtain ⟨k, h⟩ := P l0 hm0 y0 hw0;refine (laws_FnCatBytes.calls k _ _ l0 true w (Kd.C_of_reads (d:=(0 : Int)) (h1:=fun _ => rfl) hr0) hc0 h).mono ?_;rintro e w' ⟨rfl, hd⟩;exact ⟨rfl, hd⟩

end Go.Proofs.Ytbpmfdpbgcpjeaa.PFnCatBytes
