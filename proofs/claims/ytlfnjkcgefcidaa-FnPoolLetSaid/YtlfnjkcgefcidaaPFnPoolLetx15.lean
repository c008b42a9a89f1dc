-- Written by a program of this session over the print's form. Lean checks it.
import Derived.Test.YtlfnjkcgefcidaaPFnPoolLetx0
import Derived.Test.YtlfnjkcgefcidaaPFnPoolLetx8
import Derived.Test.YtlfnjkcgefcidaaPFnPoolLetx9
import Derived.Test.YtlfnjkcgefcidaaPFnPoolLetx10
import Derived.Test.YtlfnjkcgefcidaaPFnPoolLetx13
import Derived.Test.YtlfnjkcgefcidaaPFnPoolLetx14
namespace Go.Proofs.Ytlfnjkcgefcidaa.PFnPoolLet
open Go.RowKit Go.Proofs.YtlfnjkcgefcidaaW.PrintWords Go.Proofs.YtlfnjkcgefcidaaW.PrintLast Go.Proofs.YtlfnjkcgefcidaaW.PrintMore
attribute [local go_sem] max2_int min2_int max_two min_two max_three min_three max_four min_four   -- for this text's walks alone
set_option linter.unusedVariables false
set_option linter.unusedSimpArgs false

/-! ### spec_l15Pool: function 75 -/
mutual
def spec_l15Pool.l0 : Nat → Int → List Int → Int → List (S41) → Int → Option ((List (S41)) × Int × Int)
 | 0, _, _, _, _, _ => none
 | k + 1, x4, x1000, x1001, x213000, x213001 => if x4 > 0 then ((spec_l1Rd_pick.f k x1000 x1001 2).bind fun bt215 => ((spec_l1Rd_pick.f k x1000 bt215.2 2).bind fun bt217 => ((spec_l1Rd_pick.f k x1000 bt217.2 6).bind fun bt219 => ((spec_l10Take.f k x213000 x213001 bt215.1 (wrap64 ((wrap64 (1 + (wrap64 (2 * bt217.1)))) + bt215.1)) bt219.1).bind fun bt221 => (if bt221.2.2.2 = 0 then (spec_l15Pool.j1 k x4 bt221.2.2.1 true x1000 bt219.2 x213000 x213001 bt221.1 bt221.2.1) else (spec_l15Pool.j1 k x4 bt221.2.2.1 (bt221.2.2.2 == 1) x1000 bt219.2 x213000 x213001 bt221.1 bt221.2.1)))))) else (some (x213000, x213001, x1001))
def spec_l15Pool.j1 : Nat → Int → Int → Bool → List Int → Int → List (S41) → Int → List (S41) → Int → Option ((List (S41)) × Int × Int)
 | 0, _, _, _, _, _, _, _, _, _ => none
 | k + 1, x4, x7, x38, x1000, x1001, x213000, x213001, x228000, x228001 => if x38 = true then ((spec_l1Rd_pick.f k x1000 x1001 5).bind fun bt228 => (if bt228.1 > 0 then ((spec_PoolLet.f k x228000 x228001 x7).bind fun bt230 => (spec_l15Pool.l0 k (wrap64 (x4 - 1)) x1000 bt228.2 bt230.1 bt230.2.1)) else (spec_l15Pool.l0 k (wrap64 (x4 - 1)) x1000 bt228.2 x228000 x228001))) else (spec_l15Pool.l0 k (wrap64 (x4 - 1)) x1000 x1001 x213000 x213001)
end
def spec_l15Pool.f (k : Nat) (s0_0 : List Int) (s0_1 : Int) : Option ((List (S41)) × Int × Int) := (spec_l10New.f).bind fun bt208 => ((spec_l1Rd_pick.f k s0_0 s0_1 20).bind fun bt213 => (spec_l15Pool.l0 k bt213.1 s0_0 bt213.2 bt208.1 bt208.2))
theorem spec_l15Pool.mono_l : ∀ k, (∀ y0 y1 y2 y3 y4, LeO (spec_l15Pool.l0 k y0 y1 y2 y3 y4) (spec_l15Pool.l0 (k + 1) y0 y1 y2 y3 y4)) ∧ (∀ y0 y1 y2 y3 y4 y5 y6 y7 y8, LeO (spec_l15Pool.j1 k y0 y1 y2 y3 y4 y5 y6 y7 y8) (spec_l15Pool.j1 (k + 1) y0 y1 y2 y3 y4 y5 y6 y7 y8))
 | 0 => ⟨fun _ _ _ _ _ r h => by simp [spec_l15Pool.l0] at h, fun _ _ _ _ _ _ _ _ _ r h => by simp [spec_l15Pool.j1] at h⟩
 | k + 1 => by
  obtain ⟨ih0, ih1⟩ := spec_l15Pool.mono_l k
  refine ⟨?_, ?_⟩
  ·intro y0 y1 y2 y3 y4
   unfold spec_l15Pool.l0
   repeat' first
   | (with_reducible exact ih0 _ _ _ _ _)
   | (with_reducible exact ih1 _ _ _ _ _ _ _ _ _)
   | (with_reducible exact spec_PoolLet.mono _ _ _ _)
   | (with_reducible exact spec_l10Take.mono _ _ _ _ _ _)
   | (with_reducible exact spec_l1Rd_pick.mono _ _ _ _)
   | (with_reducible exact LeO.refl _)
   | (with_reducible exact LeO.none _)
   | (with_reducible refine LeO.ite ?_ ?_)
   | (with_reducible refine LeO.bind ?_ (fun _ => ?_))
   | exact ih0 _ _ _ _ _
   | exact ih1 _ _ _ _ _ _ _ _ _
   | exact spec_PoolLet.mono _ _ _ _
   | exact spec_l10Take.mono _ _ _ _ _ _
   | exact spec_l1Rd_pick.mono _ _ _ _
   | exact LeO.none _
   | refine LeO.ite ?_ ?_
   | refine LeO.bind ?_ (fun _ => ?_)
  ·intro y0 y1 y2 y3 y4 y5 y6 y7 y8
   unfold spec_l15Pool.j1
   repeat' first
   | (with_reducible exact ih0 _ _ _ _ _)
   | (with_reducible exact ih1 _ _ _ _ _ _ _ _ _)
   | (with_reducible exact spec_PoolLet.mono _ _ _ _)
   | (with_reducible exact spec_l10Take.mono _ _ _ _ _ _)
   | (with_reducible exact spec_l1Rd_pick.mono _ _ _ _)
   | (with_reducible exact LeO.refl _)
   | (with_reducible exact LeO.none _)
   | (with_reducible refine LeO.ite ?_ ?_)
   | (with_reducible refine LeO.bind ?_ (fun _ => ?_))
   | exact ih0 _ _ _ _ _
   | exact ih1 _ _ _ _ _ _ _ _ _
   | exact spec_PoolLet.mono _ _ _ _
   | exact spec_l10Take.mono _ _ _ _ _ _
   | exact spec_l1Rd_pick.mono _ _ _ _
   | exact LeO.none _
   | refine LeO.ite ?_ ?_
   | refine LeO.bind ?_ (fun _ => ?_)
theorem spec_l15Pool.mono : ∀ a0 a1 k, LeO (spec_l15Pool.f k a0 a1) (spec_l15Pool.f (k + 1) a0 a1) := by
 intro a0 a1 k
 obtain ⟨ih0, ih1⟩ := spec_l15Pool.mono_l k
 unfold spec_l15Pool.f
 repeat' first
   | (with_reducible exact ih0 _ _ _ _ _)
   | (with_reducible exact ih1 _ _ _ _ _ _ _ _ _)
   | (with_reducible exact spec_PoolLet.mono _ _ _ _)
   | (with_reducible exact spec_l10Take.mono _ _ _ _ _ _)
   | (with_reducible exact spec_l1Rd_pick.mono _ _ _ _)
   | (with_reducible exact LeO.refl _)
   | (with_reducible exact LeO.none _)
   | (with_reducible refine LeO.ite ?_ ?_)
   | (with_reducible refine LeO.bind ?_ (fun _ => ?_))
   | exact ih0 _ _ _ _ _
   | exact ih1 _ _ _ _ _ _ _ _ _
   | exact spec_PoolLet.mono _ _ _ _
   | exact spec_l10Take.mono _ _ _ _ _ _
   | exact spec_l1Rd_pick.mono _ _ _ _
   | exact LeO.none _
   | refine LeO.ite ?_ ?_
   | refine LeO.bind ?_ (fun _ => ?_)
def spec_l15Pool.T6 : Bool × List (List Nat × List Nat) := (true, [([], []), ([], []), ([], []), ([2], [2]), ([3], [3]), ([4], [4]), ([], []), ([5, 6], [5, 6]), ([], []), ([8, 3], [8]), ([0, 1, 7, 9, 9], [0, 1, 7, 9]), ([10], [10]), ([11], [11]), ([11], [11]), ([11], [11]), ([], []), ([15, 12, 10, 0, 1, 2, 3, 4, 5, 6, 7, 8, 9, 10, 11, 12, 15], [12, 15]), ([13, 16, 0, 1, 2, 3, 4, 5, 6, 7, 8, 9, 10, 11, 12, 13, 15, 16], [13]), ([14, 17, 0, 1, 2, 3, 4, 5, 6, 7, 8, 9, 10, 11, 12, 13, 14, 15, 16, 17], [14])])
def spec_l15Pool.B6 : List Nat := [0, 0, 0, 4, 12, 28, 0, 124, 0, 268, 1023, 2047, 4095, 4095, 4095, 0, 40959, 114687, 262143]
theorem spec_l15Pool.tab6 : rtab .any (opsOf Try.f75 6) = spec_l15Pool.T6 := by kernel_rfl
theorem spec_l15Pool.bits6 : waitsOk spec_l15Pool.T6.2 spec_l15Pool.B6 = true := by kernel_rfl
set_option maxHeartbeats 8000000 in
set_option maxRecDepth 100000 in
theorem spec_l15Pool.calls (k : Nat) (g : Nat) (s0_0 : List Int) (s0_1 : Int) (r1 : List (S41)) (r2 : Int) (r3 : Int) (w0 w : World) (hI : IsS89 w0 w g s0_0 s0_1) (hB : Below w0.heap.size w0 w) (h : spec_l15Pool.f k s0_0 s0_1 = some (r1, r2, r3)) :
  Calls Try.prog 75 #[.pointer (some ⟨g, 0, none⟩)] w fun e w' => ∃ v0_ : Value, e = .returned (.agg #[v0_, .int .i64 r2]) ∧ Kd.R k41 41 w' w.heap.size (fun _ => True) v0_ r1 ∧ IsS89 w0 w' g s0_0 r3 ∧ Below w0.heap.size w0 w' ∧ KeepBut w w' g none := by
 have hu29 := Try.underlying29
 have HI0 := Aside0.mk hI
 have HK := Aside0.mk (KeepBut.refl w g none)
 have HL := Aside0.mk hB.size
 clear hI
 have HW0 := Aside0.mk hB.size
 have HB := Aside0.mk hB
 clear hB
 have H : ((spec_l10New.f).bind fun bt208 => ((spec_l1Rd_pick.f k s0_0 s0_1 20).bind fun bt213 => (spec_l15Pool.l0 k bt213.1 s0_0 bt213.2 bt208.1 bt208.2))) = some (r1,r2,r3):=h
 clear h
 replace H := Option.bind_eq_some_iff.mp H
 obtain ⟨⟨t208, t211⟩, A20, H⟩ := H
 replace H : ((spec_l1Rd_pick.f k s0_0 s0_1 20).bind fun bt213 => (spec_l15Pool.l0 k bt213.1 s0_0 bt213.2 t208 t211)) = some (r1,r2,r3):=H
 have A2 := Aside0.mk A20
 clear A20
 replace H := Option.bind_eq_some_iff.mp H
 obtain ⟨⟨t213, t214⟩, A30, H⟩ := H
 replace H : (spec_l15Pool.l0 k t213 s0_0 t214 t208 t211) = some (r1,r2,r3):=H
 have A3 := Aside0.mk A30
 clear A30
 have H' := Aside0.mk H
 clear H
 go_enter Try.func75, Try.ntmps75
 go_wp2_with (first|((with_reducible refine gate_dst (N:=2) rfl ?_);refine box_event ?hg (N:=2) ?hd (cs:=#[.slice none 0 0,.int .i64 0]) (t:=29) ?hr ?_;(case hd => rfl);(case hg => rfl);(case hr => first|(go_simp;done)|(go_simp;rfl));intro gb207 hg w4 hbox hb;have n0_:=Aside0.mk (IsS89.below (by repeat (first|(with_reducible first|exact HI0.out|apply IsS89.alloc|apply IsS89.drewN|apply IsS89.drew|apply IsS89.set_1)|exact HI0.out)) hb);have n1_:=Aside0.mk (KeepBut.trans (by repeat (first|(with_reducible first|exact HK.out|apply y_n|apply y_k|apply y_l|apply y_m)|exact HK.out)) (KeepBut.of_below hb g none) (.inl rfl));have n2_:=Aside0.mk (below_step (by repeat (first|(with_reducible first|exact HB.out|apply y_h|apply y_i|apply y_j|refine y_s ?_ (IsS89.ge HI0.out))|exact HB.out)) hb);have n3_:=Aside0.mk (hbox);have n4_:=Aside0.mk ((by rw [hg];exact (keep_size (w:=w) (g:=g) (row:=none) (by repeat (first|(with_reducible first|exact HK.out|apply y_n|apply y_k|apply y_l|apply y_m)|exact HK.out))) : w.heap.size ≤ gb207));have n5_:=Aside0.mk ((Nat.le_trans HW0.out (by rw [hg];exact (keep_size (w:=w) (g:=g) (row:=none) (by repeat (first|(with_reducible first|exact HK.out|apply y_n|apply y_k|apply y_l|apply y_m)|exact HK.out))) : w.heap.size ≤ gb207) : w0.heap.size ≤ gb207));have n6_:=Aside0.mk ((by rw [hg];exact Nat.ne_of_lt (IsS89.lt (show IsS89 w0 _ g s0_0 s0_1 from by repeat (first|(with_reducible first|exact HI0.out|apply IsS89.alloc|apply IsS89.drewN|apply IsS89.drew|apply IsS89.set_1)|exact HI0.out))) : g ≠ gb207));have n7_:=Aside0.mk ((by rw [hg];exact Nat.ne_of_gt (IsS89.lt (show IsS89 w0 _ g s0_0 s0_1 from by repeat (first|(with_reducible first|exact HI0.out|apply IsS89.alloc|apply IsS89.drewN|apply IsS89.drew|apply IsS89.set_1)|exact HI0.out))) : gb207 ≠ g));clear HI0 HK HB;have HI0:=n0_;have HK:=n1_;have HB:=n2_;have BK207:=n3_;have GW207:=n4_;have GE207:=n5_;have NB0_207:=n6_;have NB207_0:=n7_;clear n0_ n1_ n2_ n3_ n4_ n5_ n6_ n7_;clear hb hbox hg)|((with_reducible refine gate_callee (f:=61) rfl ?_);refine goesL_ (some 9) rfl rfl Try.func61 (by kernel_rfl) rfl #[] rfl (by (try simp only [List.map_toArray,List.map_cons,List.map_nil]);first|done|rfl|(simp only [List.length_drop,List.length_take];rfl)) ?_;(with_reducible refine (spec_l10New.calls  t208 t211 _ A2.out).mono ?_);rintro e w5 ⟨v209,rfl,ho0,hb⟩;refine ⟨_,rfl,?_⟩;have n0_:=Aside0.mk (Kd.R_lower ho0 (keep_size (w:=w) (g:=g) (row:=none) (by repeat (first|(with_reducible first|exact HK.out|apply y_n|apply y_k|apply y_l|apply y_m|refine y_r ?_ GW207.out _)|exact HK.out))));have n1_:=Aside0.mk (IsS89.below (by repeat (first|(with_reducible first|exact HI0.out|apply IsS89.alloc|apply IsS89.drewN|apply IsS89.drew|apply IsS89.set_1|refine IsS89.far ?_ NB0_207.out _)|exact HI0.out)) hb);have n2_:=Aside0.mk (blk_below (g:=gb207) (o:=.cells #[.slice none 0 0,.int .i64 0] 29 (0,0)) (by (with_reducible repeat (first|refine y_b ?_ _|refine y_c ?_|refine y_d ?_ _));exact BK207.out) hb);have n3_:=Aside0.mk (KeepBut.trans (by repeat (first|(with_reducible first|exact HK.out|apply y_n|apply y_k|apply y_l|apply y_m|refine y_r ?_ GW207.out _)|exact HK.out)) (KeepBut.of_below hb g none) (.inl rfl));have n4_:=Aside0.mk (below_step (by repeat (first|(with_reducible first|exact HB.out|apply y_h|apply y_i|apply y_j|refine y_s ?_ (IsS89.ge HI0.out)|refine y_s ?_ GE207.out)|exact HB.out)) hb);clear HI0 BK207 HK HB;have HO210:=n0_;have HI0:=n1_;have BK207:=n2_;have HK:=n3_;have HB:=n4_;clear n0_ n1_ n2_ n3_ n4_;(try clear hb);(try clear hb2);(try clear hk);(try clear hi);(try clear ho0))|((with_reducible refine gate_dst (N:=3) rfl ?_);refine box_event ?hg (N:=3) ?hd (cs:=#[.slice none 0 0,.int .i64 0]) (t:=29) ?hr ?_;(case hd => rfl);(case hg => rfl);(case hr => first|(go_simp;done)|(go_simp;rfl));intro gb212 hg w6 hbox hb;have n0_:=Aside0.mk (Kd.R_below (by (with_reducible repeat (first|apply y_e|apply y_f|apply y_g));exact HO210.out) hb);have n1_:=Aside0.mk (IsS89.below (by repeat (first|(with_reducible first|exact HI0.out|apply IsS89.alloc|apply IsS89.drewN|apply IsS89.drew|apply IsS89.set_1|refine IsS89.far ?_ NB0_207.out _)|exact HI0.out)) hb);have n2_:=Aside0.mk (blk_below (g:=gb207) (o:=.cells #[.slice none 0 0,.int .i64 0] 29 (0,0)) (by (with_reducible repeat (first|refine y_b ?_ _|refine y_c ?_|refine y_d ?_ _));exact BK207.out) hb);have n3_:=Aside0.mk (KeepBut.trans (by repeat (first|(with_reducible first|exact HK.out|apply y_n|apply y_k|apply y_l|apply y_m|refine y_r ?_ GW207.out _)|exact HK.out)) (KeepBut.of_below hb g none) (.inl rfl));have n4_:=Aside0.mk (below_step (by repeat (first|(with_reducible first|exact HB.out|apply y_h|apply y_i|apply y_j|refine y_s ?_ (IsS89.ge HI0.out)|refine y_s ?_ GE207.out)|exact HB.out)) hb);have n5_:=Aside0.mk (hbox);have n6_:=Aside0.mk ((by rw [hg];exact (keep_size (w:=w) (g:=g) (row:=none) (by repeat (first|(with_reducible first|exact HK.out|apply y_n|apply y_k|apply y_l|apply y_m|refine y_r ?_ GW207.out _)|exact HK.out))) : w.heap.size ≤ gb212));have n7_:=Aside0.mk ((Nat.le_trans HW0.out (by rw [hg];exact (keep_size (w:=w) (g:=g) (row:=none) (by repeat (first|(with_reducible first|exact HK.out|apply y_n|apply y_k|apply y_l|apply y_m|refine y_r ?_ GW207.out _)|exact HK.out))) : w.heap.size ≤ gb212) : w0.heap.size ≤ gb212));have n8_:=Aside0.mk ((by rw [hg];exact Nat.ne_of_lt (blk_lt (g:=gb207) (o:=.cells #[.slice none 0 0,.int .i64 0] 29 (0,0)) (by (with_reducible repeat (first|refine y_b ?_ _|refine y_c ?_|refine y_d ?_ _));exact BK207.out)) : gb207 ≠ gb212));have n9_:=Aside0.mk ((by rw [hg];exact Nat.ne_of_gt (blk_lt (g:=gb207) (o:=.cells #[.slice none 0 0,.int .i64 0] 29 (0,0)) (by (with_reducible repeat (first|refine y_b ?_ _|refine y_c ?_|refine y_d ?_ _));exact BK207.out)) : gb212 ≠ gb207));have n10_:=Aside0.mk ((by rw [hg];exact Nat.ne_of_lt (IsS89.lt (show IsS89 w0 _ g s0_0 s0_1 from by repeat (first|(with_reducible first|exact HI0.out|apply IsS89.alloc|apply IsS89.drewN|apply IsS89.drew|apply IsS89.set_1|refine IsS89.far ?_ NB0_207.out _)|exact HI0.out))) : g ≠ gb212));have n11_:=Aside0.mk ((by rw [hg];exact Nat.ne_of_gt (IsS89.lt (show IsS89 w0 _ g s0_0 s0_1 from by repeat (first|(with_reducible first|exact HI0.out|apply IsS89.alloc|apply IsS89.drewN|apply IsS89.drew|apply IsS89.set_1|refine IsS89.far ?_ NB0_207.out _)|exact HI0.out))) : gb212 ≠ g));clear HO210 HI0 BK207 HK HB;have HO210:=n0_;have HI0:=n1_;have BK207:=n2_;have HK:=n3_;have HB:=n4_;have BK212:=n5_;have GW212:=n6_;have GE212:=n7_;have NB207_212:=n8_;have NB212_207:=n9_;have NB0_212:=n10_;have NB212_0:=n11_;clear n0_ n1_ n2_ n3_ n4_ n5_ n6_ n7_ n8_ n9_ n10_ n11_;clear hb hbox hg;obtain ⟨Ao7,co7,eo7⟩:=Kd.R_slice HO210.out;subst eo7;have hnb8:=NB212_207.out;have hnc8:=NB207_212.out;have hnb9:=NB212_0.out;have hnc9:=NB0_212.out;have hcz10_0 : w6.cell? ⟨gb212,0,none⟩ = some (.slice none 0 0):=(blk_cell BK212.out 0).trans rfl;have hcz10_1 : w6.cell? ⟨gb212,1,none⟩ = some (.int .i64 0):=(blk_cell BK212.out 1).trans rfl;have hfz10_0:=blk_frozen BK212.out 0;have hfz10_1:=blk_frozen BK212.out 1)|((with_reducible refine gate_callee (f:=52) rfl ?_);refine goesL_ (some 11) rfl rfl Try.func52 (by kernel_rfl) rfl #[.pointer (some ⟨g,0,none⟩),.int .i64 20] rfl (by (try simp only [List.map_toArray,List.map_cons,List.map_nil]);first|done|rfl|(simp only [List.length_drop,List.length_take];rfl)) ?_;(with_reducible refine (spec_l1Rd_pick.calls k g s0_0 s0_1 20 t213 t214 w0 _ ?side1 ?side2 A3.out).mono ?_);(case side1 => repeat (first|(with_reducible first|exact HI0.out|apply IsS89.alloc|apply IsS89.drewN|apply IsS89.drew|apply IsS89.set_1|refine IsS89.far ?_ NB0_207.out _|refine IsS89.far ?_ NB0_212.out _)|exact HI0.out));(case side2 => repeat (first|(with_reducible first|exact HB.out|apply y_h|apply y_i|apply y_j|refine y_s ?_ (IsS89.ge HI0.out)|refine y_s ?_ GE207.out|refine y_s ?_ GE212.out)|exact HB.out));rintro e w11 ⟨rfl,hi,hb,hk⟩;refine ⟨_,rfl,?_⟩;have n0_:=Aside0.mk (KeepBut.blk hk (g':=gb207) (o:=.cells #[.slice none 0 0,.int .i64 0] 29 (0,0)) (by (with_reducible repeat (first|refine y_b ?_ _|refine y_c ?_|refine y_d ?_ _));refine blk_far ?_ NB207_212.out _;(with_reducible repeat (first|refine y_b ?_ _|refine y_c ?_|refine y_d ?_ _));refine blk_far ?_ NB207_212.out _;(with_reducible repeat (first|refine y_b ?_ _|refine y_c ?_|refine y_d ?_ _));exact BK207.out) NB207_0.out (by simp));have n1_:=Aside0.mk (y_t (Kd.R_keep (IsS89.apart (show IsS89 w0 _ g s0_0 s0_1 from by repeat (first|(with_reducible first|exact HI0.out|apply IsS89.alloc|apply IsS89.drewN|apply IsS89.drew|apply IsS89.set_1|refine IsS89.far ?_ NB0_207.out _|refine IsS89.far ?_ NB0_212.out _)|exact HI0.out)) (by (with_reducible repeat (first|apply y_e|apply y_f|apply y_g));exact (y_t (Kd.R_far (p:=⟨gb212,1,none⟩) (Kd.R_far (p:=⟨gb212,0,none⟩) (Kd.R_types HO210.out BK212.out (by decide)) (fun _ hk => hk.2) (.slice Ao7 t208.length co7)) (fun _ hk => hk.2) (.int .i64 t211)) (fun _ h_ => h_.1))) (by decide)) hk (fun _ h => h.2)) (fun _ h => h.1));have n2_:=Aside0.mk (KeepBut.blk hk (g':=gb212) (o:=.cells #[.slice Ao7 t208.length co7,.int .i64 t211] 29 (0,0)) (by (with_reducible repeat (first|refine y_b ?_ _|refine y_c ?_|refine y_d ?_ _));refine blk_put (cs:=#[.slice Ao7 t208.length co7,.int .i64 0]) ?_ 1 _ rfl;(with_reducible repeat (first|refine y_b ?_ _|refine y_c ?_|refine y_d ?_ _));refine blk_put (cs:=#[.slice none 0 0,.int .i64 0]) ?_ 0 _ rfl;(with_reducible repeat (first|refine y_b ?_ _|refine y_c ?_|refine y_d ?_ _));exact BK212.out) NB212_0.out (by simp));have n3_:=Aside0.mk (KeepBut.trans (by repeat (first|(with_reducible first|exact HK.out|apply y_n|apply y_k|apply y_l|apply y_m|refine y_r ?_ GW207.out _|refine y_r ?_ GW212.out _)|exact HK.out)) hk (.inl rfl));have n4_:=Aside0.mk (hb);have n5_:=Aside0.mk (hi);clear BK207 HO210 BK212 HK HB HI0;have BK207:=n0_;have HO210:=n1_;have BK212:=n2_;have HK:=n3_;have HB:=n4_;have HI0:=n5_;clear n0_ n1_ n2_ n3_ n4_ n5_;(try clear hb);(try clear hb2);(try clear hk);(try clear hi)))
 go_loopg [4] k (fun kq v4 w' => ∃ (x4_1 : Int) (x1001_1 : Int) (x213000_1 : List (S41)) (x213001_1 : Int) (u213000 : Value),v4 = .int .i64 x4_1 ∧ Aside0 (spec_l15Pool.l0 kq x4_1 s0_0 x1001_1 x213000_1 x213001_1 = some (r1,r2,r3)) ∧ Aside0 (kq ≤ k) ∧ Aside0 (Kd.R k41 41 w' w.heap.size (fun _ => True) u213000 x213000_1) ∧ Aside0 (w'.heap[gb207]? = some (.cells #[(.slice none 0 0),.int .i64 0] 29 (0,0))) ∧ Aside0 (w'.heap[gb212]? = some (.cells #[u213000,.int .i64 x213001_1] 29 (0,0))) ∧ Aside0 (IsS89 w0 w' g s0_0 x1001_1) ∧ Aside0 (KeepBut w w' g none) ∧ Aside0 (Below w0.heap.size w0 w'))
 case atStart => exact ⟨(t213),(t214),(t208),(t211),(.slice Ao7 t208.length co7),(by first|rfl|(simp;done)|(simp [*];done)),H',⟨Nat.le_refl _⟩,⟨by (with_reducible repeat (first|apply y_e|apply y_f|apply y_g));exact HO210.out⟩,⟨by (with_reducible repeat (first|refine y_b ?_ _|refine y_c ?_|refine y_d ?_ _));exact BK207.out⟩,⟨by (with_reducible repeat (first|refine y_b ?_ _|refine y_c ?_|refine y_d ?_ _));exact BK212.out⟩,⟨by repeat (first|(with_reducible first|exact HI0.out|apply IsS89.alloc|apply IsS89.drewN|apply IsS89.drew|apply IsS89.set_1|refine IsS89.far ?_ NB0_207.out _|refine IsS89.far ?_ NB0_212.out _)|exact HI0.out)⟩,⟨by repeat (first|(with_reducible first|exact HK.out|apply y_n|apply y_k|apply y_l|apply y_m|refine y_r ?_ GW207.out _|refine y_r ?_ GW212.out _)|exact HK.out)⟩,⟨by repeat (first|(with_reducible first|exact HB.out|apply y_h|apply y_i|apply y_j|refine y_s ?_ (IsS89.ge HI0.out)|refine y_s ?_ GE207.out|refine y_s ?_ GE212.out)|exact HB.out)⟩⟩
 case round =>
  clear H'
  try clear p2
  try clear c5
  try clear c6
  try clear c7
  try clear c8
  try clear c9
  try clear hcz10_0
  try clear hcz10_1
  try clear hfz10_0
  try clear hfz10_1
  obtain ⟨x4_1,x1001_1,x213000_1,x213001_1,u213000,rfl,HA,HK1,HO_213000,BK207,BK212,HI0,HK,HB⟩:=hrel
  cases gk with
  | zero => exact absurd HA.out (by simp [spec_l15Pool.l0])
  | succ k1 =>
   have H := HA.out
   clear HA
   simp only [spec_l15Pool.l0] at H
   by_cases c12 : x4_1 > 0
   ·rw [if_pos c12] at H
    have c12b0 : decide (0 < x4_1) = true := decide_eq_true c12
    clear c12
    replace H := Option.bind_eq_some_iff.mp H
    obtain ⟨⟨t215, t216⟩, A130, H⟩ := H
    replace H : ((spec_l1Rd_pick.f k1 s0_0 t216 2).bind fun bt217 => ((spec_l1Rd_pick.f k1 s0_0 bt217.2 6).bind fun bt219 => ((spec_l10Take.f k1 x213000_1 x213001_1 t215 (wrap64 ((wrap64 (1 + (wrap64 (2 * bt217.1)))) + t215)) bt219.1).bind fun bt221 => (if bt221.2.2.2 = 0 then (spec_l15Pool.j1 k1 x4_1 bt221.2.2.1 true s0_0 bt219.2 x213000_1 x213001_1 bt221.1 bt221.2.1) else (spec_l15Pool.j1 k1 x4_1 bt221.2.2.1 (bt221.2.2.2 == 1) s0_0 bt219.2 x213000_1 x213001_1 bt221.1 bt221.2.1))))) = some (r1,r2,r3):=H
    have A13 := Aside0.mk A130
    clear A130
    replace H := Option.bind_eq_some_iff.mp H
    obtain ⟨⟨t217, t218⟩, A140, H⟩ := H
    replace H : ((spec_l1Rd_pick.f k1 s0_0 t218 6).bind fun bt219 => ((spec_l10Take.f k1 x213000_1 x213001_1 t215 (wrap64 ((wrap64 (1 + (wrap64 (2 * t217)))) + t215)) bt219.1).bind fun bt221 => (if bt221.2.2.2 = 0 then (spec_l15Pool.j1 k1 x4_1 bt221.2.2.1 true s0_0 bt219.2 x213000_1 x213001_1 bt221.1 bt221.2.1) else (spec_l15Pool.j1 k1 x4_1 bt221.2.2.1 (bt221.2.2.2 == 1) s0_0 bt219.2 x213000_1 x213001_1 bt221.1 bt221.2.1)))) = some (r1,r2,r3):=H
    have A14 := Aside0.mk A140
    clear A140
    replace H := Option.bind_eq_some_iff.mp H
    obtain ⟨⟨t219, t220⟩, A150, H⟩ := H
    replace H : ((spec_l10Take.f k1 x213000_1 x213001_1 t215 (wrap64 ((wrap64 (1 + (wrap64 (2 * t217)))) + t215)) t219).bind fun bt221 => (if bt221.2.2.2 = 0 then (spec_l15Pool.j1 k1 x4_1 bt221.2.2.1 true s0_0 t220 x213000_1 x213001_1 bt221.1 bt221.2.1) else (spec_l15Pool.j1 k1 x4_1 bt221.2.2.1 (bt221.2.2.2 == 1) s0_0 t220 x213000_1 x213001_1 bt221.1 bt221.2.1))) = some (r1,r2,r3):=H
    have A15 := Aside0.mk A150
    clear A150
    replace H := Option.bind_eq_some_iff.mp H
    obtain ⟨⟨t221, t224, t225, t226⟩, A160, H⟩ := H
    replace H : (if t226 = 0 then (spec_l15Pool.j1 k1 x4_1 t225 true s0_0 t220 x213000_1 x213001_1 t221 t224) else (spec_l15Pool.j1 k1 x4_1 t225 (t226 == 1) s0_0 t220 x213000_1 x213001_1 t221 t224)) = some (r1,r2,r3):=H
    have A16 := Aside0.mk A160
    clear A160
    have HC17 := Aside0.mk H
    clear H
    try go_wp2_with (first|((with_reducible refine gate_callee (f:=52) rfl ?_);refine goesL_ (some 17) rfl rfl Try.func52 (by kernel_rfl) rfl #[.pointer (some ⟨g,0,none⟩),.int .i64 2] rfl (by (try simp only [List.map_toArray,List.map_cons,List.map_nil]);first|done|rfl|(simp only [List.length_drop,List.length_take];rfl)) ?_;(with_reducible refine (spec_l1Rd_pick.calls k1 g s0_0 x1001_1 2 t215 t216 w0 _ ?side1 ?side2 A13.out).mono ?_);(case side1 => repeat (first|(with_reducible first|exact HI0.out|apply IsS89.alloc|apply IsS89.drewN|apply IsS89.drew|apply IsS89.set_1|refine IsS89.far ?_ NB0_207.out _|refine IsS89.far ?_ NB0_212.out _)|exact HI0.out));(case side2 => repeat (first|(with_reducible first|exact HB.out|apply y_h|apply y_i|apply y_j|refine y_s ?_ (IsS89.ge HI0.out)|refine y_s ?_ GE207.out|refine y_s ?_ GE212.out)|exact HB.out));rintro e w18 ⟨rfl,hi,hb,hk⟩;refine ⟨_,rfl,?_⟩;have n0_:=Aside0.mk (y_t (Kd.R_keep (IsS89.apart (show IsS89 w0 _ g s0_0 x1001_1 from by repeat (first|(with_reducible first|exact HI0.out|apply IsS89.alloc|apply IsS89.drewN|apply IsS89.drew|apply IsS89.set_1|refine IsS89.far ?_ NB0_207.out _|refine IsS89.far ?_ NB0_212.out _)|exact HI0.out)) (by (with_reducible repeat (first|apply y_e|apply y_f|apply y_g));exact HO_213000.out) (by decide)) hk (fun _ h => h.2)) (fun _ h => h.1));have n1_:=Aside0.mk (KeepBut.blk hk (g':=gb207) (o:=.cells #[.slice none 0 0,.int .i64 0] 29 (0,0)) (by (with_reducible repeat (first|refine y_b ?_ _|refine y_c ?_|refine y_d ?_ _));exact BK207.out) NB207_0.out (by simp));have n2_:=Aside0.mk (KeepBut.blk hk (g':=gb212) (o:=.cells #[u213000,.int .i64 x213001_1] 29 (0,0)) (by (with_reducible repeat (first|refine y_b ?_ _|refine y_c ?_|refine y_d ?_ _));exact BK212.out) NB212_0.out (by simp));have n3_:=Aside0.mk (KeepBut.trans (by repeat (first|(with_reducible first|exact HK.out|apply y_n|apply y_k|apply y_l|apply y_m|refine y_r ?_ GW207.out _|refine y_r ?_ GW212.out _)|exact HK.out)) hk (.inl rfl));have n4_:=Aside0.mk (hb);have n5_:=Aside0.mk (hi);clear HO_213000 BK207 BK212 HK HB HI0;have HO_213000:=n0_;have BK207:=n1_;have BK212:=n2_;have HK:=n3_;have HB:=n4_;have HI0:=n5_;clear n0_ n1_ n2_ n3_ n4_ n5_;(try clear hb);(try clear hb2);(try clear hk);(try clear hi);obtain ⟨Ao19,co19,eo19⟩:=Kd.R_slice HO_213000.out;subst eo19))
    have n0_ := Aside0.mk (y_g HO_213000.out)
    have n1_ := Aside0.mk (y_c BK207.out)
    have n2_ := Aside0.mk (y_c BK212.out)
    have n3_ := Aside0.mk (IsS89.drew HI0.out)
    have n4_ := Aside0.mk (y_l HK.out)
    have n5_ := Aside0.mk (y_j HB.out)
    clear HO_213000
    clear BK207
    clear BK212
    clear HI0
    clear HK
    clear HB
    have HO_213000 := n0_
    have BK207 := n1_
    have BK212 := n2_
    have HI0 := n3_
    have HK := n4_
    have HB := n5_
    clear n0_ n1_ n2_ n3_ n4_ n5_
    refine start_ (n:=19) (S:=fun w' => w'.cell? ⟨gb212,0,none⟩ = some (.slice Ao19 x213000_1.length co19) ∧ w'.cell? ⟨gb212,1,none⟩ = some (.int .i64 x213001_1)) (ds:=[]) #[false,false,false,false,false,false,false,false,false,false,false,false,false,false,false,false,false,false,false] (by kernel_rfl) rfl rfl ⟨(blk_cell BK212.out 0).trans rfl,(blk_cell BK212.out 1).trans rfl⟩ (fun hHeld => ?_);refine with_tabW spec_l15Pool.tab6 spec_l15Pool.bits6 (fun HT_ HW_ => ?_)
    generalize w18.drew = w20 at HO_213000 BK207 BK212 HI0 HK HB hHeld ⊢
    refine pure_ (i:=1) (N:=some 20) (v:=?_) (a':=?_) #[false,true,false,false,false,false,false,false,false,false,false,false,false,false,false,false,false,false,false] rfl rfl (any_of HT_.out (by kernel_rfl)) (fun _ _ _ h => h) (Or.inl ⟨by rfl,?_⟩) ?_ ?_
    rotate_left
    ·intro w'
     go_simp
     with_reducible rfl
    rotate_left
    ·simp only [Act.put,List.setIfInBounds_toArray,List.set_cons_zero,List.set_cons_succ,i64_w,i32_w]
     rfl
    refine pure_ (i:=2) (N:=some 21) (v:=?_) (a':=?_) #[false,true,true,false,false,false,false,false,false,false,false,false,false,false,false,false,false,false,false] rfl rfl (any_of HT_.out (by kernel_rfl)) (fun _ _ _ h => h) (Or.inl ⟨by rfl,?_⟩) ?_ ?_
    rotate_left
    ·intro w'
     go_simp
     with_reducible rfl
    rotate_left
    ·simp only [Act.put,List.setIfInBounds_toArray,List.set_cons_zero,List.set_cons_succ,i64_w,i32_w]
     rfl
    refine pure_ (i:=6) (N:=some 25) (v:=?_) (a':=?_) #[false,true,true,false,false,false,true,false,false,false,false,false,false,false,false,false,false,false,false] rfl rfl (any_of HT_.out (by kernel_rfl)) (fun _ _ _ h => h) (Or.inl ⟨by rfl,?_⟩) ?_ ?_
    rotate_left
    ·intro w'
     go_simp
     with_reducible rfl
    rotate_left
    ·simp only [Act.put,List.setIfInBounds_toArray,List.set_cons_zero,List.set_cons_succ,i64_w,i32_w]
     rfl
    refine pure_ (i:=8) (N:=some 27) (v:=?_) (a':=?_) #[false,true,true,false,false,false,true,false,true,false,false,false,false,false,false,false,false,false,false] rfl rfl (any_of HT_.out (by kernel_rfl)) (fun _ _ _ h => h) (Or.inl ⟨by rfl,?_⟩) ?_ ?_
    rotate_left
    ·intro w'
     go_simp
     with_reducible rfl
    rotate_left
    ·simp only [Act.put,List.setIfInBounds_toArray,List.set_cons_zero,List.set_cons_succ,i64_w,i32_w]
     rfl
    refine take_ (i:=0) (N:=some 19) (v:=?_) (a':=?_) #[true,true,true,false,false,false,true,false,true,false,false,false,false,false,false,false,false,false,false] rfl rfl (take_ofW HT_.out HW_.out (by kernel_rfl)) (fun _ _ _ h => h) (Or.inl ⟨by rfl,?_⟩) hHeld ?_ ?_
    rotate_left
    ·rintro w' ⟨s0, s1⟩
     go_simp
     with_reducible rfl
    rotate_left
    ·simp only [Act.put,List.setIfInBounds_toArray,List.set_cons_zero,List.set_cons_succ,i64_w,i32_w]
     rfl
    refine join_ (σ:=Value × Nat) 3 #[true,true,true,true,true,true,true,true,true,true,true,true,true,true,true,true,false,false,false] (fun s_ => [(22,.int .i64 t217),(28,.int .i64 t219),(29,.tuple #[.agg #[s_.1,.int .i64 t224],.int .i64 t225,.int .i64 t226]),(6,.pointer (some ⟨s_.2,0,none⟩)),(23,.int .i64 (wrap64 (2 * t217))),(24,.int .i64 (wrap64 (1 + (wrap64 (2 * t217))))),(26,.int .i64 (wrap64 ((wrap64 (1 + (wrap64 (2 * t217)))) + t215))),(18,.tuple #[.agg #[s_.1,.int .i64 t224],.int .i64 t225,.int .i64 t226]),(30,.agg #[s_.1,.int .i64 t224]),(31,.int .i64 t225),(32,.int .i64 t226)]) (fun s_ w' => (w'.cell? ⟨gb212,0,none⟩ = some (.slice Ao19 x213000_1.length co19) ∧ w'.cell? ⟨gb212,1,none⟩ = some (.int .i64 x213001_1)) ∧ (Kd.R k41 41 w' w.heap.size (fun k_ => some k_ ≠ (.slice Ao19 x213000_1.length co19 : Value).ownBlock) s_.1 t221) ∧ (Kd.R k41 41 w' w.heap.size (fun k_ => some k_ ≠ (s_.1 : Value).ownBlock) (.slice Ao19 x213000_1.length co19) x213000_1) ∧ (w'.heap[gb207]? = some (.cells #[.slice none 0 0,.int .i64 0] 29 (0,0))) ∧ (w'.heap[gb212]? = some (.cells #[.slice Ao19 x213000_1.length co19,.int .i64 x213001_1] 29 (0,0))) ∧ (w'.heap[s_.2]? = some (.cells #[.slice none 0 0,.int .i64 0] 29 (0,0))) ∧ (w.heap.size ≤ s_.2) ∧ (w0.heap.size ≤ s_.2) ∧ (g ≠ s_.2) ∧ (s_.2 ≠ g) ∧ (gb207 ≠ s_.2) ∧ (s_.2 ≠ gb207) ∧ (gb212 ≠ s_.2) ∧ (s_.2 ≠ gb212) ∧ (IsS89 w0 w' g s0_0 t220) ∧ (KeepBut w w' g none) ∧ (Below w0.heap.size w0 w')) ?_ ?_
    rotate_left
    ·intro hCont
     refine two_ (i:=3) (j:=15) (Ni:=some 22) (Nj:=some 6) #[true,true,true,true,false,false,true,false,true,false,false,false,false,false,false,false,false,false,false] #[true,true,true,false,false,false,true,false,true,false,false,false,false,false,false,true,false,false,false] rfl rfl rfl rfl (two_of HT_.out (by kernel_rfl)) (by decide) (by decide) (fun K hK => ?_) (fun K hK => ?_)
     ·skip
      refine goes_ Try.func52 (by kernel_rfl) rfl #[.pointer (some ⟨g,0,none⟩),.int .i64 2] (by rfl) rfl rfl (by (try simp only [List.map_toArray,List.map_cons,List.map_nil]);first|done|rfl|(simp only [List.length_drop,List.length_take];rfl)) ?_
      with_reducible refine (spec_l1Rd_pick.calls k1 g s0_0 t216 2 t217 t218 w0 _ ?side1 ?side2 A14.out).mono ?_
      (case side1 => repeat (first|(with_reducible first|exact HI0.out|apply IsS89.alloc|apply IsS89.drewN|apply IsS89.drew|apply IsS89.set_1|refine IsS89.far ?_ NB0_207.out _|refine IsS89.far ?_ NB0_212.out _)|exact HI0.out))
      (case side2 => repeat (first|(with_reducible first|exact HB.out|apply y_h|apply y_i|apply y_j|refine y_s ?_ (IsS89.ge HI0.out)|refine y_s ?_ GE207.out|refine y_s ?_ GE212.out)|exact HB.out))
      rintro e w21 ⟨rfl, hi, hb, hk⟩
      refine ⟨_, rfl, ?_⟩
      have n0_:=Aside0.mk (y_t (Kd.R_keep (IsS89.apart (show IsS89 w0 _ g s0_0 t216 from by repeat (first|(with_reducible first|exact HI0.out|apply IsS89.alloc|apply IsS89.drewN|apply IsS89.drew|apply IsS89.set_1|refine IsS89.far ?_ NB0_207.out _|refine IsS89.far ?_ NB0_212.out _)|exact HI0.out)) (by (with_reducible repeat (first|apply y_e|apply y_f|apply y_g));exact HO_213000.out) (by decide)) hk (fun _ h => h.2)) (fun _ h => h.1))
      have n1_:=Aside0.mk (KeepBut.blk hk (g':=gb207) (o:=.cells #[.slice none 0 0,.int .i64 0] 29 (0,0)) (by (with_reducible repeat (first|refine y_b ?_ _|refine y_c ?_|refine y_d ?_ _));exact BK207.out) NB207_0.out (by simp))
      have n2_:=Aside0.mk (KeepBut.blk hk (g':=gb212) (o:=.cells #[.slice Ao19 x213000_1.length co19,.int .i64 x213001_1] 29 (0,0)) (by (with_reducible repeat (first|refine y_b ?_ _|refine y_c ?_|refine y_d ?_ _));exact BK212.out) NB212_0.out (by simp))
      have n3_:=Aside0.mk (KeepBut.trans (by repeat (first|(with_reducible first|exact HK.out|apply y_n|apply y_k|apply y_l|apply y_m|refine y_r ?_ GW207.out _|refine y_r ?_ GW212.out _)|exact HK.out)) hk (.inl rfl))
      have n4_ := Aside0.mk (hb)
      have n5_ := Aside0.mk (hi)
      clear HO_213000
      clear BK207
      clear BK212
      clear HK
      clear HB
      clear HI0
      have HO_213000 := n0_
      have BK207 := n1_
      have BK212 := n2_
      have HK := n3_
      have HB := n4_
      have HI0 := n5_
      clear n0_ n1_ n2_ n3_ n4_ n5_
      (try clear hb)
      (try clear hb2)
      (try clear hk)
      (try clear hi)
      refine hK.out _ _ ⟨(blk_cell BK212.out 0).trans rfl,(blk_cell BK212.out 1).trans rfl⟩ (fun hHeld => ?_)
      clear hK K
      refine norm_ (a' := ?_) ?_ ?_
      rotate_left
      ·show Act.put _ (some 22) _ = _
       simp only [Act.put,List.setIfInBounds_toArray,List.set_cons_zero,List.set_cons_succ,i64_w,i32_w]
       rfl
      refine pure_ (i:=4) (N:=some 23) (v:=?_) (a':=?_) #[true,true,true,true,true,false,true,false,true,false,false,false,false,false,false,false,false,false,false] rfl rfl (any_of HT_.out (by kernel_rfl)) (fun _ _ _ h => h) (Or.inl ⟨by rfl,?_⟩) ?_ ?_
      rotate_left
      ·intro w'
       go_simp
       with_reducible rfl
      rotate_left
      ·simp only [Act.put,List.setIfInBounds_toArray,List.set_cons_zero,List.set_cons_succ,i64_w,i32_w]
       rfl
      refine pure_ (i:=5) (N:=some 24) (v:=?_) (a':=?_) #[true,true,true,true,true,true,true,false,true,false,false,false,false,false,false,false,false,false,false] rfl rfl (any_of HT_.out (by kernel_rfl)) (fun _ _ _ h => h) (Or.inl ⟨by rfl,?_⟩) ?_ ?_
      rotate_left
      ·intro w'
       go_simp
       with_reducible rfl
      rotate_left
      ·simp only [Act.put,List.setIfInBounds_toArray,List.set_cons_zero,List.set_cons_succ,i64_w,i32_w]
       rfl
      refine pure_ (i:=7) (N:=some 26) (v:=?_) (a':=?_) #[true,true,true,true,true,true,true,true,true,false,false,false,false,false,false,false,false,false,false] rfl rfl (any_of HT_.out (by kernel_rfl)) (fun _ _ _ h => h) (Or.inl ⟨by rfl,?_⟩) ?_ ?_
      rotate_left
      ·intro w'
       go_simp
       with_reducible rfl
      rotate_left
      ·simp only [Act.put,List.setIfInBounds_toArray,List.set_cons_zero,List.set_cons_succ,i64_w,i32_w]
       rfl
      refine two_ (i:=9) (j:=15) (Ni:=some 28) (Nj:=some 6) #[true,true,true,true,true,true,true,true,true,true,false,false,false,false,false,false,false,false,false] #[true,true,true,true,true,true,true,true,true,false,false,false,false,false,false,true,false,false,false] rfl rfl rfl rfl (two_of HT_.out (by kernel_rfl)) (by decide) (by decide) (fun K hK => ?_) (fun K hK => ?_)
      ·skip
       refine goes_ Try.func52 (by kernel_rfl) rfl #[.pointer (some ⟨g,0,none⟩),.int .i64 6] (by rfl) rfl rfl (by (try simp only [List.map_toArray,List.map_cons,List.map_nil]);first|done|rfl|(simp only [List.length_drop,List.length_take];rfl)) ?_
       with_reducible refine (spec_l1Rd_pick.calls k1 g s0_0 t218 6 t219 t220 w0 _ ?side1 ?side2 A15.out).mono ?_
       (case side1 => repeat (first|(with_reducible first|exact HI0.out|apply IsS89.alloc|apply IsS89.drewN|apply IsS89.drew|apply IsS89.set_1|refine IsS89.far ?_ NB0_207.out _|refine IsS89.far ?_ NB0_212.out _)|exact HI0.out))
       (case side2 => repeat (first|(with_reducible first|exact HB.out|apply y_h|apply y_i|apply y_j|refine y_s ?_ (IsS89.ge HI0.out)|refine y_s ?_ GE207.out|refine y_s ?_ GE212.out)|exact HB.out))
       rintro e w22 ⟨rfl, hi, hb, hk⟩
       refine ⟨_, rfl, ?_⟩
       have n0_:=Aside0.mk (y_t (Kd.R_keep (IsS89.apart (show IsS89 w0 _ g s0_0 t218 from by repeat (first|(with_reducible first|exact HI0.out|apply IsS89.alloc|apply IsS89.drewN|apply IsS89.drew|apply IsS89.set_1|refine IsS89.far ?_ NB0_207.out _|refine IsS89.far ?_ NB0_212.out _)|exact HI0.out)) (by (with_reducible repeat (first|apply y_e|apply y_f|apply y_g));exact HO_213000.out) (by decide)) hk (fun _ h => h.2)) (fun _ h => h.1))
       have n1_:=Aside0.mk (KeepBut.blk hk (g':=gb207) (o:=.cells #[.slice none 0 0,.int .i64 0] 29 (0,0)) (by (with_reducible repeat (first|refine y_b ?_ _|refine y_c ?_|refine y_d ?_ _));exact BK207.out) NB207_0.out (by simp))
       have n2_:=Aside0.mk (KeepBut.blk hk (g':=gb212) (o:=.cells #[.slice Ao19 x213000_1.length co19,.int .i64 x213001_1] 29 (0,0)) (by (with_reducible repeat (first|refine y_b ?_ _|refine y_c ?_|refine y_d ?_ _));exact BK212.out) NB212_0.out (by simp))
       have n3_:=Aside0.mk (KeepBut.trans (by repeat (first|(with_reducible first|exact HK.out|apply y_n|apply y_k|apply y_l|apply y_m|refine y_r ?_ GW207.out _|refine y_r ?_ GW212.out _)|exact HK.out)) hk (.inl rfl))
       have n4_ := Aside0.mk (hb)
       have n5_ := Aside0.mk (hi)
       clear HO_213000
       clear BK207
       clear BK212
       clear HK
       clear HB
       clear HI0
       have HO_213000 := n0_
       have BK207 := n1_
       have BK212 := n2_
       have HK := n3_
       have HB := n4_
       have HI0 := n5_
       clear n0_ n1_ n2_ n3_ n4_ n5_
       (try clear hb)
       (try clear hb2)
       (try clear hk)
       (try clear hi)
       refine hK.out _ _ ⟨(blk_cell BK212.out 0).trans rfl,(blk_cell BK212.out 1).trans rfl⟩ (fun hHeld => ?_)
       clear hK K
       refine norm_ (a' := ?_) ?_ ?_
       rotate_left
       ·show Act.put _ (some 28) _ = _
        simp only [Act.put,List.setIfInBounds_toArray,List.set_cons_zero,List.set_cons_succ,i64_w,i32_w]
        rfl
       refine two_ (i:=10) (j:=15) (Ni:=some 29) (Nj:=some 6) #[true,true,true,true,true,true,true,true,true,true,true,false,false,false,false,false,false,false,false] #[true,true,true,true,true,true,true,true,true,true,false,false,false,false,false,true,false,false,false] rfl rfl rfl rfl (two_of HT_.out (by kernel_rfl)) (by decide) (by decide) (fun K hK => ?_) (fun K hK => ?_)
       ·skip
        refine goes_ Try.func60 (by kernel_rfl) rfl #[.agg #[.slice Ao19 x213000_1.length co19,.int .i64 x213001_1],.int .i64 t215,.int .i64 (wrap64 ((wrap64 (1 + (wrap64 (2 * t217)))) + t215)),.int .i64 t219] (by rfl) rfl rfl (by (try simp only [List.map_toArray,List.map_cons,List.map_nil]);first|done|rfl|(simp only [List.length_drop,List.length_take];rfl)) ?_
        with_reducible refine (spec_l10Take.calls k1 _ _ x213000_1 x213001_1 t215 (wrap64 ((wrap64 (1 + (wrap64 (2 * t217)))) + t215)) t219 t221 t224 t225 t226 _ ?side1 ?side2 A16.out).mono ?_
        (case side1 => repeat (first|exact (Kd.R_reads' HO_213000.out).2.2|(with_reducible refine y_o ?_ _)|(with_reducible refine y_p ?_ _)|(with_reducible refine y_q ?_)))
        (case side2 => exact (Kd.R_reads' HO_213000.out).2.1)
        rintro e w23 ⟨v222, rfl, ho0, hb⟩
        refine ⟨_, rfl, ?_⟩
        have n0_:=Aside0.mk (Kd.R_elder' (by (with_reducible repeat (first|apply y_e|apply y_f|apply y_g));exact HO_213000.out) (Kd.R_base ho0) hb)
        have n1_:=Aside0.mk (Kd.R_lower (Kd.R_new' ho0 (Kd.R_lt (by (with_reducible repeat (first|apply y_e|apply y_f|apply y_g));exact HO_213000.out))) (keep_size (w:=w) (g:=g) (row:=none) (by repeat (first|(with_reducible first|exact HK.out|apply y_n|apply y_k|apply y_l|apply y_m|refine y_r ?_ GW207.out _|refine y_r ?_ GW212.out _)|exact HK.out))))
        have n2_:=Aside0.mk (blk_below (g:=gb207) (o:=.cells #[.slice none 0 0,.int .i64 0] 29 (0,0)) (by (with_reducible repeat (first|refine y_b ?_ _|refine y_c ?_|refine y_d ?_ _));exact BK207.out) hb)
        have n3_:=Aside0.mk (blk_below (g:=gb212) (o:=.cells #[.slice Ao19 x213000_1.length co19,.int .i64 x213001_1] 29 (0,0)) (by (with_reducible repeat (first|refine y_b ?_ _|refine y_c ?_|refine y_d ?_ _));exact BK212.out) hb)
        have n4_:=Aside0.mk (IsS89.below (by repeat (first|(with_reducible first|exact HI0.out|apply IsS89.alloc|apply IsS89.drewN|apply IsS89.drew|apply IsS89.set_1|refine IsS89.far ?_ NB0_207.out _|refine IsS89.far ?_ NB0_212.out _)|exact HI0.out)) hb)
        have n5_:=Aside0.mk (KeepBut.trans (by repeat (first|(with_reducible first|exact HK.out|apply y_n|apply y_k|apply y_l|apply y_m|refine y_r ?_ GW207.out _|refine y_r ?_ GW212.out _)|exact HK.out)) (KeepBut.of_below hb g none) (.inl rfl))
        have n6_:=Aside0.mk (below_step (by repeat (first|(with_reducible first|exact HB.out|apply y_h|apply y_i|apply y_j|refine y_s ?_ (IsS89.ge HI0.out)|refine y_s ?_ GE207.out|refine y_s ?_ GE212.out)|exact HB.out)) hb)
        clear HO_213000
        clear BK207
        clear BK212
        clear HI0
        clear HK
        clear HB
        have HO_213000 := n0_
        have HO223 := n1_
        have BK207 := n2_
        have BK212 := n3_
        have HI0 := n4_
        have HK := n5_
        have HB := n6_
        clear n0_ n1_ n2_ n3_ n4_ n5_ n6_
        (try clear hb)
        (try clear hb2)
        (try clear hk)
        (try clear hi)
        (try clear ho0)
        refine hK.out _ _ ⟨(blk_cell BK212.out 0).trans rfl,(blk_cell BK212.out 1).trans rfl⟩ (fun hHeld => ?_)
        clear hK K
        refine norm_ (a' := ?_) ?_ ?_
        rotate_left
        ·show Act.put _ (some 29) _ = _
         simp only [Act.put,List.setIfInBounds_toArray,List.set_cons_zero,List.set_cons_succ,i64_w,i32_w]
         rfl
        refine pure_ (i:=11) (N:=some 18) (v:=?_) (a':=?_) #[true,true,true,true,true,true,true,true,true,true,true,true,false,false,false,false,false,false,false] rfl rfl (any_of HT_.out (by kernel_rfl)) (fun _ _ _ h => h) (Or.inl ⟨by rfl,?_⟩) ?_ ?_
        rotate_left
        ·intro w'
         go_simp
         with_reducible rfl
        rotate_left
        ·simp only [Act.put,List.setIfInBounds_toArray,List.set_cons_zero,List.set_cons_succ,i64_w,i32_w]
         rfl
        refine pure_ (i:=12) (N:=some 30) (v:=?_) (a':=?_) #[true,true,true,true,true,true,true,true,true,true,true,true,true,false,false,false,false,false,false] rfl rfl (any_of HT_.out (by kernel_rfl)) (fun _ _ _ h => h) (Or.inl ⟨by rfl,?_⟩) ?_ ?_
        rotate_left
        ·intro w'
         go_simp
         with_reducible rfl
        rotate_left
        ·simp only [Act.put,List.setIfInBounds_toArray,List.set_cons_zero,List.set_cons_succ,i64_w,i32_w]
         rfl
        refine pure_ (i:=13) (N:=some 31) (v:=?_) (a':=?_) #[true,true,true,true,true,true,true,true,true,true,true,true,true,true,false,false,false,false,false] rfl rfl (any_of HT_.out (by kernel_rfl)) (fun _ _ _ h => h) (Or.inl ⟨by rfl,?_⟩) ?_ ?_
        rotate_left
        ·intro w'
         go_simp
         with_reducible rfl
        rotate_left
        ·simp only [Act.put,List.setIfInBounds_toArray,List.set_cons_zero,List.set_cons_succ,i64_w,i32_w]
         rfl
        refine pure_ (i:=14) (N:=some 32) (v:=?_) (a':=?_) #[true,true,true,true,true,true,true,true,true,true,true,true,true,true,true,false,false,false,false] rfl rfl (any_of HT_.out (by kernel_rfl)) (fun _ _ _ h => h) (Or.inl ⟨by rfl,?_⟩) ?_ ?_
        rotate_left
        ·intro w'
         go_simp
         with_reducible rfl
        rotate_left
        ·simp only [Act.put,List.setIfInBounds_toArray,List.set_cons_zero,List.set_cons_succ,i64_w,i32_w]
         rfl
        refine one_ (i:=15) (N:=some 6) #[true,true,true,true,true,true,true,true,true,true,true,true,true,true,true,true,false,false,false] rfl rfl (one_of HT_.out (by kernel_rfl)) (by decide) (fun K hK => ?_)
        refine box_step ?hg (N:=6) ?hd (cs:=#[.slice none 0 0,.int .i64 0]) (t:=29) ?hr ?_;(case hd => rfl);(case hg => rfl);(case hr => first|(go_simp;done)|(go_simp;rfl))
        intro gb227 hg w24 hbox hb
        have n0_:=Aside0.mk (Kd.R_below (by (with_reducible repeat (first|apply y_e|apply y_f|apply y_g));exact HO_213000.out) hb)
        have n1_:=Aside0.mk (Kd.R_below (by (with_reducible repeat (first|apply y_e|apply y_f|apply y_g));exact HO223.out) hb)
        have n2_:=Aside0.mk (blk_below (g:=gb207) (o:=.cells #[.slice none 0 0,.int .i64 0] 29 (0,0)) (by (with_reducible repeat (first|refine y_b ?_ _|refine y_c ?_|refine y_d ?_ _));exact BK207.out) hb)
        have n3_:=Aside0.mk (blk_below (g:=gb212) (o:=.cells #[.slice Ao19 x213000_1.length co19,.int .i64 x213001_1] 29 (0,0)) (by (with_reducible repeat (first|refine y_b ?_ _|refine y_c ?_|refine y_d ?_ _));exact BK212.out) hb)
        have n4_:=Aside0.mk (IsS89.below (by repeat (first|(with_reducible first|exact HI0.out|apply IsS89.alloc|apply IsS89.drewN|apply IsS89.drew|apply IsS89.set_1|refine IsS89.far ?_ NB0_207.out _|refine IsS89.far ?_ NB0_212.out _)|exact HI0.out)) hb)
        have n5_:=Aside0.mk (KeepBut.trans (by repeat (first|(with_reducible first|exact HK.out|apply y_n|apply y_k|apply y_l|apply y_m|refine y_r ?_ GW207.out _|refine y_r ?_ GW212.out _)|exact HK.out)) (KeepBut.of_below hb g none) (.inl rfl))
        have n6_:=Aside0.mk (below_step (by repeat (first|(with_reducible first|exact HB.out|apply y_h|apply y_i|apply y_j|refine y_s ?_ (IsS89.ge HI0.out)|refine y_s ?_ GE207.out|refine y_s ?_ GE212.out)|exact HB.out)) hb)
        have n7_ := Aside0.mk (hbox)
        have n8_:=Aside0.mk ((by rw [hg];exact (keep_size (w:=w) (g:=g) (row:=none) (by repeat (first|(with_reducible first|exact HK.out|apply y_n|apply y_k|apply y_l|apply y_m|refine y_r ?_ GW207.out _|refine y_r ?_ GW212.out _)|exact HK.out))) : w.heap.size ≤ gb227))
        have n9_:=Aside0.mk ((Nat.le_trans HW0.out (by rw [hg];exact (keep_size (w:=w) (g:=g) (row:=none) (by repeat (first|(with_reducible first|exact HK.out|apply y_n|apply y_k|apply y_l|apply y_m|refine y_r ?_ GW207.out _|refine y_r ?_ GW212.out _)|exact HK.out))) : w.heap.size ≤ gb227) : w0.heap.size ≤ gb227))
        have n10_:=Aside0.mk ((by rw [hg];exact Nat.ne_of_lt (blk_lt (g:=gb207) (o:=.cells #[.slice none 0 0,.int .i64 0] 29 (0,0)) (by (with_reducible repeat (first|refine y_b ?_ _|refine y_c ?_|refine y_d ?_ _));exact BK207.out)) : gb207 ≠ gb227))
        have n11_:=Aside0.mk ((by rw [hg];exact Nat.ne_of_gt (blk_lt (g:=gb207) (o:=.cells #[.slice none 0 0,.int .i64 0] 29 (0,0)) (by (with_reducible repeat (first|refine y_b ?_ _|refine y_c ?_|refine y_d ?_ _));exact BK207.out)) : gb227 ≠ gb207))
        have n12_:=Aside0.mk ((by rw [hg];exact Nat.ne_of_lt (blk_lt (g:=gb212) (o:=.cells #[.slice Ao19 x213000_1.length co19,.int .i64 x213001_1] 29 (0,0)) (by (with_reducible repeat (first|refine y_b ?_ _|refine y_c ?_|refine y_d ?_ _));exact BK212.out)) : gb212 ≠ gb227))
        have n13_:=Aside0.mk ((by rw [hg];exact Nat.ne_of_gt (blk_lt (g:=gb212) (o:=.cells #[.slice Ao19 x213000_1.length co19,.int .i64 x213001_1] 29 (0,0)) (by (with_reducible repeat (first|refine y_b ?_ _|refine y_c ?_|refine y_d ?_ _));exact BK212.out)) : gb227 ≠ gb212))
        have n14_:=Aside0.mk ((by rw [hg];exact Nat.ne_of_lt (IsS89.lt (show IsS89 w0 _ g s0_0 t220 from by repeat (first|(with_reducible first|exact HI0.out|apply IsS89.alloc|apply IsS89.drewN|apply IsS89.drew|apply IsS89.set_1|refine IsS89.far ?_ NB0_207.out _|refine IsS89.far ?_ NB0_212.out _)|exact HI0.out))) : g ≠ gb227))
        have n15_:=Aside0.mk ((by rw [hg];exact Nat.ne_of_gt (IsS89.lt (show IsS89 w0 _ g s0_0 t220 from by repeat (first|(with_reducible first|exact HI0.out|apply IsS89.alloc|apply IsS89.drewN|apply IsS89.drew|apply IsS89.set_1|refine IsS89.far ?_ NB0_207.out _|refine IsS89.far ?_ NB0_212.out _)|exact HI0.out))) : gb227 ≠ g))
        clear HO_213000
        clear HO223
        clear BK207
        clear BK212
        clear HI0
        clear HK
        clear HB
        have HO_213000 := n0_
        have HO223 := n1_
        have BK207 := n2_
        have BK212 := n3_
        have HI0 := n4_
        have HK := n5_
        have HB := n6_
        have BK227 := n7_
        have GW227 := n8_
        have GE227 := n9_
        have NB207_227 := n10_
        have NB227_207 := n11_
        have NB212_227 := n12_
        have NB227_212 := n13_
        have NB0_227 := n14_
        have NB227_0 := n15_
        clear n0_ n1_ n2_ n3_ n4_ n5_ n6_ n7_ n8_ n9_ n10_ n11_ n12_ n13_ n14_ n15_
        clear hb hbox hg
        refine hK.out _ _ ⟨(blk_cell BK212.out 0).trans rfl,(blk_cell BK212.out 1).trans rfl⟩ (fun hHeld => ?_)
        clear hK K
        refine norm_ (a' := ?_) ?_ ?_
        rotate_left
        ·show Act.put _ (some 6) _ = _
         simp only [Act.put,List.setIfInBounds_toArray,List.set_cons_zero,List.set_cons_succ,i64_w,i32_w]
         rfl
        exact norm_ (by simp only [putAll,Act.put,List.setIfInBounds_toArray,List.set_cons_zero,List.set_cons_succ]) (hCont (v222,gb227) _ ⟨hHeld,(by (with_reducible repeat (first|apply y_e|apply y_f|apply y_g));exact y_t HO223.out (fun _ hk => hk.2)),(by (with_reducible repeat (first|apply y_e|apply y_f|apply y_g));exact y_t HO_213000.out (fun _ hk => hk.2)),(by (with_reducible repeat (first|refine y_b ?_ _|refine y_c ?_|refine y_d ?_ _));exact BK207.out),(by (with_reducible repeat (first|refine y_b ?_ _|refine y_c ?_|refine y_d ?_ _));exact BK212.out),(by (with_reducible repeat (first|refine y_b ?_ _|refine y_c ?_|refine y_d ?_ _));exact BK227.out),GW227.out,GE227.out,NB0_227.out,NB227_0.out,NB207_227.out,NB227_207.out,NB212_227.out,NB227_212.out,(by repeat (first|(with_reducible first|exact HI0.out|apply IsS89.alloc|apply IsS89.drewN|apply IsS89.drew|apply IsS89.set_1|refine IsS89.far ?_ NB0_207.out _|refine IsS89.far ?_ NB0_212.out _|refine IsS89.far ?_ NB0_227.out _)|exact HI0.out)),(by repeat (first|(with_reducible first|exact HK.out|apply y_n|apply y_k|apply y_l|apply y_m|refine y_r ?_ GW207.out _|refine y_r ?_ GW212.out _|refine y_r ?_ GW227.out _)|exact HK.out)),(by repeat (first|(with_reducible first|exact HB.out|apply y_h|apply y_i|apply y_j|refine y_s ?_ (IsS89.ge HI0.out)|refine y_s ?_ GE207.out|refine y_s ?_ GE212.out|refine y_s ?_ GE227.out)|exact HB.out))⟩)
       ·skip
        refine box_step ?hg (N:=6) ?hd (cs:=#[.slice none 0 0,.int .i64 0]) (t:=29) ?hr ?_;(case hd => rfl);(case hg => rfl);(case hr => first|(go_simp;done)|(go_simp;rfl))
        intro gb227 hg w23 hbox hb
        have n0_:=Aside0.mk (Kd.R_below (by (with_reducible repeat (first|apply y_e|apply y_f|apply y_g));exact HO_213000.out) hb)
        have n1_:=Aside0.mk (blk_below (g:=gb207) (o:=.cells #[.slice none 0 0,.int .i64 0] 29 (0,0)) (by (with_reducible repeat (first|refine y_b ?_ _|refine y_c ?_|refine y_d ?_ _));exact BK207.out) hb)
        have n2_:=Aside0.mk (blk_below (g:=gb212) (o:=.cells #[.slice Ao19 x213000_1.length co19,.int .i64 x213001_1] 29 (0,0)) (by (with_reducible repeat (first|refine y_b ?_ _|refine y_c ?_|refine y_d ?_ _));exact BK212.out) hb)
        have n3_:=Aside0.mk (IsS89.below (by repeat (first|(with_reducible first|exact HI0.out|apply IsS89.alloc|apply IsS89.drewN|apply IsS89.drew|apply IsS89.set_1|refine IsS89.far ?_ NB0_207.out _|refine IsS89.far ?_ NB0_212.out _)|exact HI0.out)) hb)
        have n4_:=Aside0.mk (KeepBut.trans (by repeat (first|(with_reducible first|exact HK.out|apply y_n|apply y_k|apply y_l|apply y_m|refine y_r ?_ GW207.out _|refine y_r ?_ GW212.out _)|exact HK.out)) (KeepBut.of_below hb g none) (.inl rfl))
        have n5_:=Aside0.mk (below_step (by repeat (first|(with_reducible first|exact HB.out|apply y_h|apply y_i|apply y_j|refine y_s ?_ (IsS89.ge HI0.out)|refine y_s ?_ GE207.out|refine y_s ?_ GE212.out)|exact HB.out)) hb)
        have n6_ := Aside0.mk (hbox)
        have n7_:=Aside0.mk ((by rw [hg];exact (keep_size (w:=w) (g:=g) (row:=none) (by repeat (first|(with_reducible first|exact HK.out|apply y_n|apply y_k|apply y_l|apply y_m|refine y_r ?_ GW207.out _|refine y_r ?_ GW212.out _)|exact HK.out))) : w.heap.size ≤ gb227))
        have n8_:=Aside0.mk ((Nat.le_trans HW0.out (by rw [hg];exact (keep_size (w:=w) (g:=g) (row:=none) (by repeat (first|(with_reducible first|exact HK.out|apply y_n|apply y_k|apply y_l|apply y_m|refine y_r ?_ GW207.out _|refine y_r ?_ GW212.out _)|exact HK.out))) : w.heap.size ≤ gb227) : w0.heap.size ≤ gb227))
        have n9_:=Aside0.mk ((by rw [hg];exact Nat.ne_of_lt (blk_lt (g:=gb207) (o:=.cells #[.slice none 0 0,.int .i64 0] 29 (0,0)) (by (with_reducible repeat (first|refine y_b ?_ _|refine y_c ?_|refine y_d ?_ _));exact BK207.out)) : gb207 ≠ gb227))
        have n10_:=Aside0.mk ((by rw [hg];exact Nat.ne_of_gt (blk_lt (g:=gb207) (o:=.cells #[.slice none 0 0,.int .i64 0] 29 (0,0)) (by (with_reducible repeat (first|refine y_b ?_ _|refine y_c ?_|refine y_d ?_ _));exact BK207.out)) : gb227 ≠ gb207))
        have n11_:=Aside0.mk ((by rw [hg];exact Nat.ne_of_lt (blk_lt (g:=gb212) (o:=.cells #[.slice Ao19 x213000_1.length co19,.int .i64 x213001_1] 29 (0,0)) (by (with_reducible repeat (first|refine y_b ?_ _|refine y_c ?_|refine y_d ?_ _));exact BK212.out)) : gb212 ≠ gb227))
        have n12_:=Aside0.mk ((by rw [hg];exact Nat.ne_of_gt (blk_lt (g:=gb212) (o:=.cells #[.slice Ao19 x213000_1.length co19,.int .i64 x213001_1] 29 (0,0)) (by (with_reducible repeat (first|refine y_b ?_ _|refine y_c ?_|refine y_d ?_ _));exact BK212.out)) : gb227 ≠ gb212))
        have n13_:=Aside0.mk ((by rw [hg];exact Nat.ne_of_lt (IsS89.lt (show IsS89 w0 _ g s0_0 t220 from by repeat (first|(with_reducible first|exact HI0.out|apply IsS89.alloc|apply IsS89.drewN|apply IsS89.drew|apply IsS89.set_1|refine IsS89.far ?_ NB0_207.out _|refine IsS89.far ?_ NB0_212.out _)|exact HI0.out))) : g ≠ gb227))
        have n14_:=Aside0.mk ((by rw [hg];exact Nat.ne_of_gt (IsS89.lt (show IsS89 w0 _ g s0_0 t220 from by repeat (first|(with_reducible first|exact HI0.out|apply IsS89.alloc|apply IsS89.drewN|apply IsS89.drew|apply IsS89.set_1|refine IsS89.far ?_ NB0_207.out _|refine IsS89.far ?_ NB0_212.out _)|exact HI0.out))) : gb227 ≠ g))
        clear HO_213000
        clear BK207
        clear BK212
        clear HI0
        clear HK
        clear HB
        have HO_213000 := n0_
        have BK207 := n1_
        have BK212 := n2_
        have HI0 := n3_
        have HK := n4_
        have HB := n5_
        have BK227 := n6_
        have GW227 := n7_
        have GE227 := n8_
        have NB207_227 := n9_
        have NB227_207 := n10_
        have NB212_227 := n11_
        have NB227_212 := n12_
        have NB0_227 := n13_
        have NB227_0 := n14_
        clear n0_ n1_ n2_ n3_ n4_ n5_ n6_ n7_ n8_ n9_ n10_ n11_ n12_ n13_ n14_
        clear hb hbox hg
        refine hK.out _ _ ⟨(blk_cell BK212.out 0).trans rfl,(blk_cell BK212.out 1).trans rfl⟩ (fun hHeld => ?_)
        clear hK K
        refine norm_ (a' := ?_) ?_ ?_
        rotate_left
        ·show Act.put _ (some 6) _ = _
         simp only [Act.put,List.setIfInBounds_toArray,List.set_cons_zero,List.set_cons_succ,i64_w,i32_w]
         rfl
        refine one_ (i:=10) (N:=some 29) #[true,true,true,true,true,true,true,true,true,true,true,false,false,false,false,true,false,false,false] rfl rfl (one_of HT_.out (by kernel_rfl)) (by decide) (fun K hK => ?_)
        refine goes_ Try.func60 (by kernel_rfl) rfl #[.agg #[.slice Ao19 x213000_1.length co19,.int .i64 x213001_1],.int .i64 t215,.int .i64 (wrap64 ((wrap64 (1 + (wrap64 (2 * t217)))) + t215)),.int .i64 t219] (by rfl) rfl rfl (by (try simp only [List.map_toArray,List.map_cons,List.map_nil]);first|done|rfl|(simp only [List.length_drop,List.length_take];rfl)) ?_
        with_reducible refine (spec_l10Take.calls k1 _ _ x213000_1 x213001_1 t215 (wrap64 ((wrap64 (1 + (wrap64 (2 * t217)))) + t215)) t219 t221 t224 t225 t226 _ ?side1 ?side2 A16.out).mono ?_
        (case side1 => repeat (first|exact (Kd.R_reads' HO_213000.out).2.2|(with_reducible refine y_o ?_ _)|(with_reducible refine y_p ?_ _)|(with_reducible refine y_q ?_)))
        (case side2 => exact (Kd.R_reads' HO_213000.out).2.1)
        rintro e w24 ⟨v222, rfl, ho0, hb⟩
        refine ⟨_, rfl, ?_⟩
        have n0_:=Aside0.mk (Kd.R_elder' (by (with_reducible repeat (first|apply y_e|apply y_f|apply y_g));exact HO_213000.out) (Kd.R_base ho0) hb)
        have n1_:=Aside0.mk (Kd.R_lower (Kd.R_new' ho0 (Kd.R_lt (by (with_reducible repeat (first|apply y_e|apply y_f|apply y_g));exact HO_213000.out))) (keep_size (w:=w) (g:=g) (row:=none) (by repeat (first|(with_reducible first|exact HK.out|apply y_n|apply y_k|apply y_l|apply y_m|refine y_r ?_ GW207.out _|refine y_r ?_ GW212.out _|refine y_r ?_ GW227.out _)|exact HK.out))))
        have n2_:=Aside0.mk (blk_below (g:=gb207) (o:=.cells #[.slice none 0 0,.int .i64 0] 29 (0,0)) (by (with_reducible repeat (first|refine y_b ?_ _|refine y_c ?_|refine y_d ?_ _));exact BK207.out) hb)
        have n3_:=Aside0.mk (blk_below (g:=gb212) (o:=.cells #[.slice Ao19 x213000_1.length co19,.int .i64 x213001_1] 29 (0,0)) (by (with_reducible repeat (first|refine y_b ?_ _|refine y_c ?_|refine y_d ?_ _));exact BK212.out) hb)
        have n4_:=Aside0.mk (IsS89.below (by repeat (first|(with_reducible first|exact HI0.out|apply IsS89.alloc|apply IsS89.drewN|apply IsS89.drew|apply IsS89.set_1|refine IsS89.far ?_ NB0_207.out _|refine IsS89.far ?_ NB0_212.out _|refine IsS89.far ?_ NB0_227.out _)|exact HI0.out)) hb)
        have n5_:=Aside0.mk (blk_below (g:=gb227) (o:=.cells #[.slice none 0 0,.int .i64 0] 29 (0,0)) (by (with_reducible repeat (first|refine y_b ?_ _|refine y_c ?_|refine y_d ?_ _));exact BK227.out) hb)
        have n6_:=Aside0.mk (KeepBut.trans (by repeat (first|(with_reducible first|exact HK.out|apply y_n|apply y_k|apply y_l|apply y_m|refine y_r ?_ GW207.out _|refine y_r ?_ GW212.out _|refine y_r ?_ GW227.out _)|exact HK.out)) (KeepBut.of_below hb g none) (.inl rfl))
        have n7_:=Aside0.mk (below_step (by repeat (first|(with_reducible first|exact HB.out|apply y_h|apply y_i|apply y_j|refine y_s ?_ (IsS89.ge HI0.out)|refine y_s ?_ GE207.out|refine y_s ?_ GE212.out|refine y_s ?_ GE227.out)|exact HB.out)) hb)
        clear HO_213000
        clear BK207
        clear BK212
        clear HI0
        clear BK227
        clear HK
        clear HB
        have HO_213000 := n0_
        have HO223 := n1_
        have BK207 := n2_
        have BK212 := n3_
        have HI0 := n4_
        have BK227 := n5_
        have HK := n6_
        have HB := n7_
        clear n0_ n1_ n2_ n3_ n4_ n5_ n6_ n7_
        (try clear hb)
        (try clear hb2)
        (try clear hk)
        (try clear hi)
        (try clear ho0)
        refine hK.out _ _ ⟨(blk_cell BK212.out 0).trans rfl,(blk_cell BK212.out 1).trans rfl⟩ (fun hHeld => ?_)
        clear hK K
        refine norm_ (a' := ?_) ?_ ?_
        rotate_left
        ·show Act.put _ (some 29) _ = _
         simp only [Act.put,List.setIfInBounds_toArray,List.set_cons_zero,List.set_cons_succ,i64_w,i32_w]
         rfl
        refine pure_ (i:=11) (N:=some 18) (v:=?_) (a':=?_) #[true,true,true,true,true,true,true,true,true,true,true,true,false,false,false,true,false,false,false] rfl rfl (any_of HT_.out (by kernel_rfl)) (fun _ _ _ h => h) (Or.inl ⟨by rfl,?_⟩) ?_ ?_
        rotate_left
        ·intro w'
         go_simp
         with_reducible rfl
        rotate_left
        ·simp only [Act.put,List.setIfInBounds_toArray,List.set_cons_zero,List.set_cons_succ,i64_w,i32_w]
         rfl
        refine pure_ (i:=12) (N:=some 30) (v:=?_) (a':=?_) #[true,true,true,true,true,true,true,true,true,true,true,true,true,false,false,true,false,false,false] rfl rfl (any_of HT_.out (by kernel_rfl)) (fun _ _ _ h => h) (Or.inl ⟨by rfl,?_⟩) ?_ ?_
        rotate_left
        ·intro w'
         go_simp
         with_reducible rfl
        rotate_left
        ·simp only [Act.put,List.setIfInBounds_toArray,List.set_cons_zero,List.set_cons_succ,i64_w,i32_w]
         rfl
        refine pure_ (i:=13) (N:=some 31) (v:=?_) (a':=?_) #[true,true,true,true,true,true,true,true,true,true,true,true,true,true,false,true,false,false,false] rfl rfl (any_of HT_.out (by kernel_rfl)) (fun _ _ _ h => h) (Or.inl ⟨by rfl,?_⟩) ?_ ?_
        rotate_left
        ·intro w'
         go_simp
         with_reducible rfl
        rotate_left
        ·simp only [Act.put,List.setIfInBounds_toArray,List.set_cons_zero,List.set_cons_succ,i64_w,i32_w]
         rfl
        refine pure_ (i:=14) (N:=some 32) (v:=?_) (a':=?_) #[true,true,true,true,true,true,true,true,true,true,true,true,true,true,true,true,false,false,false] rfl rfl (any_of HT_.out (by kernel_rfl)) (fun _ _ _ h => h) (Or.inl ⟨by rfl,?_⟩) ?_ ?_
        rotate_left
        ·intro w'
         go_simp
         with_reducible rfl
        rotate_left
        ·simp only [Act.put,List.setIfInBounds_toArray,List.set_cons_zero,List.set_cons_succ,i64_w,i32_w]
         rfl
        exact norm_ (by simp only [putAll,Act.put,List.setIfInBounds_toArray,List.set_cons_zero,List.set_cons_succ]) (hCont (v222,gb227) _ ⟨hHeld,(by (with_reducible repeat (first|apply y_e|apply y_f|apply y_g));exact y_t HO223.out (fun _ hk => hk.2)),(by (with_reducible repeat (first|apply y_e|apply y_f|apply y_g));exact y_t HO_213000.out (fun _ hk => hk.2)),(by (with_reducible repeat (first|refine y_b ?_ _|refine y_c ?_|refine y_d ?_ _));exact BK207.out),(by (with_reducible repeat (first|refine y_b ?_ _|refine y_c ?_|refine y_d ?_ _));exact BK212.out),(by (with_reducible repeat (first|refine y_b ?_ _|refine y_c ?_|refine y_d ?_ _));exact BK227.out),GW227.out,GE227.out,NB0_227.out,NB227_0.out,NB207_227.out,NB227_207.out,NB212_227.out,NB227_212.out,(by repeat (first|(with_reducible first|exact HI0.out|apply IsS89.alloc|apply IsS89.drewN|apply IsS89.drew|apply IsS89.set_1|refine IsS89.far ?_ NB0_207.out _|refine IsS89.far ?_ NB0_212.out _|refine IsS89.far ?_ NB0_227.out _)|exact HI0.out)),(by repeat (first|(with_reducible first|exact HK.out|apply y_n|apply y_k|apply y_l|apply y_m|refine y_r ?_ GW207.out _|refine y_r ?_ GW212.out _|refine y_r ?_ GW227.out _)|exact HK.out)),(by repeat (first|(with_reducible first|exact HB.out|apply y_h|apply y_i|apply y_j|refine y_s ?_ (IsS89.ge HI0.out)|refine y_s ?_ GE207.out|refine y_s ?_ GE212.out|refine y_s ?_ GE227.out)|exact HB.out))⟩)
      ·skip
       refine box_step ?hg (N:=6) ?hd (cs:=#[.slice none 0 0,.int .i64 0]) (t:=29) ?hr ?_;(case hd => rfl);(case hg => rfl);(case hr => first|(go_simp;done)|(go_simp;rfl))
       intro gb227 hg w22 hbox hb
       have n0_:=Aside0.mk (Kd.R_below (by (with_reducible repeat (first|apply y_e|apply y_f|apply y_g));exact HO_213000.out) hb)
       have n1_:=Aside0.mk (blk_below (g:=gb207) (o:=.cells #[.slice none 0 0,.int .i64 0] 29 (0,0)) (by (with_reducible repeat (first|refine y_b ?_ _|refine y_c ?_|refine y_d ?_ _));exact BK207.out) hb)
       have n2_:=Aside0.mk (blk_below (g:=gb212) (o:=.cells #[.slice Ao19 x213000_1.length co19,.int .i64 x213001_1] 29 (0,0)) (by (with_reducible repeat (first|refine y_b ?_ _|refine y_c ?_|refine y_d ?_ _));exact BK212.out) hb)
       have n3_:=Aside0.mk (IsS89.below (by repeat (first|(with_reducible first|exact HI0.out|apply IsS89.alloc|apply IsS89.drewN|apply IsS89.drew|apply IsS89.set_1|refine IsS89.far ?_ NB0_207.out _|refine IsS89.far ?_ NB0_212.out _)|exact HI0.out)) hb)
       have n4_:=Aside0.mk (KeepBut.trans (by repeat (first|(with_reducible first|exact HK.out|apply y_n|apply y_k|apply y_l|apply y_m|refine y_r ?_ GW207.out _|refine y_r ?_ GW212.out _)|exact HK.out)) (KeepBut.of_below hb g none) (.inl rfl))
       have n5_:=Aside0.mk (below_step (by repeat (first|(with_reducible first|exact HB.out|apply y_h|apply y_i|apply y_j|refine y_s ?_ (IsS89.ge HI0.out)|refine y_s ?_ GE207.out|refine y_s ?_ GE212.out)|exact HB.out)) hb)
       have n6_ := Aside0.mk (hbox)
       have n7_:=Aside0.mk ((by rw [hg];exact (keep_size (w:=w) (g:=g) (row:=none) (by repeat (first|(with_reducible first|exact HK.out|apply y_n|apply y_k|apply y_l|apply y_m|refine y_r ?_ GW207.out _|refine y_r ?_ GW212.out _)|exact HK.out))) : w.heap.size ≤ gb227))
       have n8_:=Aside0.mk ((Nat.le_trans HW0.out (by rw [hg];exact (keep_size (w:=w) (g:=g) (row:=none) (by repeat (first|(with_reducible first|exact HK.out|apply y_n|apply y_k|apply y_l|apply y_m|refine y_r ?_ GW207.out _|refine y_r ?_ GW212.out _)|exact HK.out))) : w.heap.size ≤ gb227) : w0.heap.size ≤ gb227))
       have n9_:=Aside0.mk ((by rw [hg];exact Nat.ne_of_lt (blk_lt (g:=gb207) (o:=.cells #[.slice none 0 0,.int .i64 0] 29 (0,0)) (by (with_reducible repeat (first|refine y_b ?_ _|refine y_c ?_|refine y_d ?_ _));exact BK207.out)) : gb207 ≠ gb227))
       have n10_:=Aside0.mk ((by rw [hg];exact Nat.ne_of_gt (blk_lt (g:=gb207) (o:=.cells #[.slice none 0 0,.int .i64 0] 29 (0,0)) (by (with_reducible repeat (first|refine y_b ?_ _|refine y_c ?_|refine y_d ?_ _));exact BK207.out)) : gb227 ≠ gb207))
       have n11_:=Aside0.mk ((by rw [hg];exact Nat.ne_of_lt (blk_lt (g:=gb212) (o:=.cells #[.slice Ao19 x213000_1.length co19,.int .i64 x213001_1] 29 (0,0)) (by (with_reducible repeat (first|refine y_b ?_ _|refine y_c ?_|refine y_d ?_ _));exact BK212.out)) : gb212 ≠ gb227))
       have n12_:=Aside0.mk ((by rw [hg];exact Nat.ne_of_gt (blk_lt (g:=gb212) (o:=.cells #[.slice Ao19 x213000_1.length co19,.int .i64 x213001_1] 29 (0,0)) (by (with_reducible repeat (first|refine y_b ?_ _|refine y_c ?_|refine y_d ?_ _));exact BK212.out)) : gb227 ≠ gb212))
       have n13_:=Aside0.mk ((by rw [hg];exact Nat.ne_of_lt (IsS89.lt (show IsS89 w0 _ g s0_0 t218 from by repeat (first|(with_reducible first|exact HI0.out|apply IsS89.alloc|apply IsS89.drewN|apply IsS89.drew|apply IsS89.set_1|refine IsS89.far ?_ NB0_207.out _|refine IsS89.far ?_ NB0_212.out _)|exact HI0.out))) : g ≠ gb227))
       have n14_:=Aside0.mk ((by rw [hg];exact Nat.ne_of_gt (IsS89.lt (show IsS89 w0 _ g s0_0 t218 from by repeat (first|(with_reducible first|exact HI0.out|apply IsS89.alloc|apply IsS89.drewN|apply IsS89.drew|apply IsS89.set_1|refine IsS89.far ?_ NB0_207.out _|refine IsS89.far ?_ NB0_212.out _)|exact HI0.out))) : gb227 ≠ g))
       clear HO_213000
       clear BK207
       clear BK212
       clear HI0
       clear HK
       clear HB
       have HO_213000 := n0_
       have BK207 := n1_
       have BK212 := n2_
       have HI0 := n3_
       have HK := n4_
       have HB := n5_
       have BK227 := n6_
       have GW227 := n7_
       have GE227 := n8_
       have NB207_227 := n9_
       have NB227_207 := n10_
       have NB212_227 := n11_
       have NB227_212 := n12_
       have NB0_227 := n13_
       have NB227_0 := n14_
       clear n0_ n1_ n2_ n3_ n4_ n5_ n6_ n7_ n8_ n9_ n10_ n11_ n12_ n13_ n14_
       clear hb hbox hg
       refine hK.out _ _ ⟨(blk_cell BK212.out 0).trans rfl,(blk_cell BK212.out 1).trans rfl⟩ (fun hHeld => ?_)
       clear hK K
       refine norm_ (a' := ?_) ?_ ?_
       rotate_left
       ·show Act.put _ (some 6) _ = _
        simp only [Act.put,List.setIfInBounds_toArray,List.set_cons_zero,List.set_cons_succ,i64_w,i32_w]
        rfl
       refine one_ (i:=9) (N:=some 28) #[true,true,true,true,true,true,true,true,true,true,false,false,false,false,false,true,false,false,false] rfl rfl (one_of HT_.out (by kernel_rfl)) (by decide) (fun K hK => ?_)
       refine goes_ Try.func52 (by kernel_rfl) rfl #[.pointer (some ⟨g,0,none⟩),.int .i64 6] (by rfl) rfl rfl (by (try simp only [List.map_toArray,List.map_cons,List.map_nil]);first|done|rfl|(simp only [List.length_drop,List.length_take];rfl)) ?_
       with_reducible refine (spec_l1Rd_pick.calls k1 g s0_0 t218 6 t219 t220 w0 _ ?side1 ?side2 A15.out).mono ?_
       (case side1 => repeat (first|(with_reducible first|exact HI0.out|apply IsS89.alloc|apply IsS89.drewN|apply IsS89.drew|apply IsS89.set_1|refine IsS89.far ?_ NB0_207.out _|refine IsS89.far ?_ NB0_212.out _|refine IsS89.far ?_ NB0_227.out _)|exact HI0.out))
       (case side2 => repeat (first|(with_reducible first|exact HB.out|apply y_h|apply y_i|apply y_j|refine y_s ?_ (IsS89.ge HI0.out)|refine y_s ?_ GE207.out|refine y_s ?_ GE212.out|refine y_s ?_ GE227.out)|exact HB.out))
       rintro e w23 ⟨rfl, hi, hb, hk⟩
       refine ⟨_, rfl, ?_⟩
       have n0_:=Aside0.mk (y_t (Kd.R_keep (IsS89.apart (show IsS89 w0 _ g s0_0 t218 from by repeat (first|(with_reducible first|exact HI0.out|apply IsS89.alloc|apply IsS89.drewN|apply IsS89.drew|apply IsS89.set_1|refine IsS89.far ?_ NB0_207.out _|refine IsS89.far ?_ NB0_212.out _|refine IsS89.far ?_ NB0_227.out _)|exact HI0.out)) (by (with_reducible repeat (first|apply y_e|apply y_f|apply y_g));exact HO_213000.out) (by decide)) hk (fun _ h => h.2)) (fun _ h => h.1))
       have n1_:=Aside0.mk (KeepBut.blk hk (g':=gb207) (o:=.cells #[.slice none 0 0,.int .i64 0] 29 (0,0)) (by (with_reducible repeat (first|refine y_b ?_ _|refine y_c ?_|refine y_d ?_ _));exact BK207.out) NB207_0.out (by simp))
       have n2_:=Aside0.mk (KeepBut.blk hk (g':=gb212) (o:=.cells #[.slice Ao19 x213000_1.length co19,.int .i64 x213001_1] 29 (0,0)) (by (with_reducible repeat (first|refine y_b ?_ _|refine y_c ?_|refine y_d ?_ _));exact BK212.out) NB212_0.out (by simp))
       have n3_:=Aside0.mk (KeepBut.blk hk (g':=gb227) (o:=.cells #[.slice none 0 0,.int .i64 0] 29 (0,0)) (by (with_reducible repeat (first|refine y_b ?_ _|refine y_c ?_|refine y_d ?_ _));exact BK227.out) NB227_0.out (by simp))
       have n4_:=Aside0.mk (KeepBut.trans (by repeat (first|(with_reducible first|exact HK.out|apply y_n|apply y_k|apply y_l|apply y_m|refine y_r ?_ GW207.out _|refine y_r ?_ GW212.out _|refine y_r ?_ GW227.out _)|exact HK.out)) hk (.inl rfl))
       have n5_ := Aside0.mk (hb)
       have n6_ := Aside0.mk (hi)
       clear HO_213000
       clear BK207
       clear BK212
       clear BK227
       clear HK
       clear HB
       clear HI0
       have HO_213000 := n0_
       have BK207 := n1_
       have BK212 := n2_
       have BK227 := n3_
       have HK := n4_
       have HB := n5_
       have HI0 := n6_
       clear n0_ n1_ n2_ n3_ n4_ n5_ n6_
       (try clear hb)
       (try clear hb2)
       (try clear hk)
       (try clear hi)
       refine hK.out _ _ ⟨(blk_cell BK212.out 0).trans rfl,(blk_cell BK212.out 1).trans rfl⟩ (fun hHeld => ?_)
       clear hK K
       refine norm_ (a' := ?_) ?_ ?_
       rotate_left
       ·show Act.put _ (some 28) _ = _
        simp only [Act.put,List.setIfInBounds_toArray,List.set_cons_zero,List.set_cons_succ,i64_w,i32_w]
        rfl
       refine one_ (i:=10) (N:=some 29) #[true,true,true,true,true,true,true,true,true,true,true,false,false,false,false,true,false,false,false] rfl rfl (one_of HT_.out (by kernel_rfl)) (by decide) (fun K hK => ?_)
       refine goes_ Try.func60 (by kernel_rfl) rfl #[.agg #[.slice Ao19 x213000_1.length co19,.int .i64 x213001_1],.int .i64 t215,.int .i64 (wrap64 ((wrap64 (1 + (wrap64 (2 * t217)))) + t215)),.int .i64 t219] (by rfl) rfl rfl (by (try simp only [List.map_toArray,List.map_cons,List.map_nil]);first|done|rfl|(simp only [List.length_drop,List.length_take];rfl)) ?_
       with_reducible refine (spec_l10Take.calls k1 _ _ x213000_1 x213001_1 t215 (wrap64 ((wrap64 (1 + (wrap64 (2 * t217)))) + t215)) t219 t221 t224 t225 t226 _ ?side1 ?side2 A16.out).mono ?_
       (case side1 => repeat (first|exact (Kd.R_reads' HO_213000.out).2.2|(with_reducible refine y_o ?_ _)|(with_reducible refine y_p ?_ _)|(with_reducible refine y_q ?_)))
       (case side2 => exact (Kd.R_reads' HO_213000.out).2.1)
       rintro e w24 ⟨v222, rfl, ho0, hb⟩
       refine ⟨_, rfl, ?_⟩
       have n0_:=Aside0.mk (Kd.R_elder' (by (with_reducible repeat (first|apply y_e|apply y_f|apply y_g));exact HO_213000.out) (Kd.R_base ho0) hb)
       have n1_:=Aside0.mk (Kd.R_lower (Kd.R_new' ho0 (Kd.R_lt (by (with_reducible repeat (first|apply y_e|apply y_f|apply y_g));exact HO_213000.out))) (keep_size (w:=w) (g:=g) (row:=none) (by repeat (first|(with_reducible first|exact HK.out|apply y_n|apply y_k|apply y_l|apply y_m|refine y_r ?_ GW207.out _|refine y_r ?_ GW212.out _|refine y_r ?_ GW227.out _)|exact HK.out))))
       have n2_:=Aside0.mk (blk_below (g:=gb207) (o:=.cells #[.slice none 0 0,.int .i64 0] 29 (0,0)) (by (with_reducible repeat (first|refine y_b ?_ _|refine y_c ?_|refine y_d ?_ _));exact BK207.out) hb)
       have n3_:=Aside0.mk (blk_below (g:=gb212) (o:=.cells #[.slice Ao19 x213000_1.length co19,.int .i64 x213001_1] 29 (0,0)) (by (with_reducible repeat (first|refine y_b ?_ _|refine y_c ?_|refine y_d ?_ _));exact BK212.out) hb)
       have n4_:=Aside0.mk (IsS89.below (by repeat (first|(with_reducible first|exact HI0.out|apply IsS89.alloc|apply IsS89.drewN|apply IsS89.drew|apply IsS89.set_1|refine IsS89.far ?_ NB0_207.out _|refine IsS89.far ?_ NB0_212.out _|refine IsS89.far ?_ NB0_227.out _)|exact HI0.out)) hb)
       have n5_:=Aside0.mk (blk_below (g:=gb227) (o:=.cells #[.slice none 0 0,.int .i64 0] 29 (0,0)) (by (with_reducible repeat (first|refine y_b ?_ _|refine y_c ?_|refine y_d ?_ _));exact BK227.out) hb)
       have n6_:=Aside0.mk (KeepBut.trans (by repeat (first|(with_reducible first|exact HK.out|apply y_n|apply y_k|apply y_l|apply y_m|refine y_r ?_ GW207.out _|refine y_r ?_ GW212.out _|refine y_r ?_ GW227.out _)|exact HK.out)) (KeepBut.of_below hb g none) (.inl rfl))
       have n7_:=Aside0.mk (below_step (by repeat (first|(with_reducible first|exact HB.out|apply y_h|apply y_i|apply y_j|refine y_s ?_ (IsS89.ge HI0.out)|refine y_s ?_ GE207.out|refine y_s ?_ GE212.out|refine y_s ?_ GE227.out)|exact HB.out)) hb)
       clear HO_213000
       clear BK207
       clear BK212
       clear HI0
       clear BK227
       clear HK
       clear HB
       have HO_213000 := n0_
       have HO223 := n1_
       have BK207 := n2_
       have BK212 := n3_
       have HI0 := n4_
       have BK227 := n5_
       have HK := n6_
       have HB := n7_
       clear n0_ n1_ n2_ n3_ n4_ n5_ n6_ n7_
       (try clear hb)
       (try clear hb2)
       (try clear hk)
       (try clear hi)
       (try clear ho0)
       refine hK.out _ _ ⟨(blk_cell BK212.out 0).trans rfl,(blk_cell BK212.out 1).trans rfl⟩ (fun hHeld => ?_)
       clear hK K
       refine norm_ (a' := ?_) ?_ ?_
       rotate_left
       ·show Act.put _ (some 29) _ = _
        simp only [Act.put,List.setIfInBounds_toArray,List.set_cons_zero,List.set_cons_succ,i64_w,i32_w]
        rfl
       refine pure_ (i:=11) (N:=some 18) (v:=?_) (a':=?_) #[true,true,true,true,true,true,true,true,true,true,true,true,false,false,false,true,false,false,false] rfl rfl (any_of HT_.out (by kernel_rfl)) (fun _ _ _ h => h) (Or.inl ⟨by rfl,?_⟩) ?_ ?_
       rotate_left
       ·intro w'
        go_simp
        with_reducible rfl
       rotate_left
       ·simp only [Act.put,List.setIfInBounds_toArray,List.set_cons_zero,List.set_cons_succ,i64_w,i32_w]
        rfl
       refine pure_ (i:=12) (N:=some 30) (v:=?_) (a':=?_) #[true,true,true,true,true,true,true,true,true,true,true,true,true,false,false,true,false,false,false] rfl rfl (any_of HT_.out (by kernel_rfl)) (fun _ _ _ h => h) (Or.inl ⟨by rfl,?_⟩) ?_ ?_
       rotate_left
       ·intro w'
        go_simp
        with_reducible rfl
       rotate_left
       ·simp only [Act.put,List.setIfInBounds_toArray,List.set_cons_zero,List.set_cons_succ,i64_w,i32_w]
        rfl
       refine pure_ (i:=13) (N:=some 31) (v:=?_) (a':=?_) #[true,true,true,true,true,true,true,true,true,true,true,true,true,true,false,true,false,false,false] rfl rfl (any_of HT_.out (by kernel_rfl)) (fun _ _ _ h => h) (Or.inl ⟨by rfl,?_⟩) ?_ ?_
       rotate_left
       ·intro w'
        go_simp
        with_reducible rfl
       rotate_left
       ·simp only [Act.put,List.setIfInBounds_toArray,List.set_cons_zero,List.set_cons_succ,i64_w,i32_w]
        rfl
       refine pure_ (i:=14) (N:=some 32) (v:=?_) (a':=?_) #[true,true,true,true,true,true,true,true,true,true,true,true,true,true,true,true,false,false,false] rfl rfl (any_of HT_.out (by kernel_rfl)) (fun _ _ _ h => h) (Or.inl ⟨by rfl,?_⟩) ?_ ?_
       rotate_left
       ·intro w'
        go_simp
        with_reducible rfl
       rotate_left
       ·simp only [Act.put,List.setIfInBounds_toArray,List.set_cons_zero,List.set_cons_succ,i64_w,i32_w]
        rfl
       exact norm_ (by simp only [putAll,Act.put,List.setIfInBounds_toArray,List.set_cons_zero,List.set_cons_succ]) (hCont (v222,gb227) _ ⟨hHeld,(by (with_reducible repeat (first|apply y_e|apply y_f|apply y_g));exact y_t HO223.out (fun _ hk => hk.2)),(by (with_reducible repeat (first|apply y_e|apply y_f|apply y_g));exact y_t HO_213000.out (fun _ hk => hk.2)),(by (with_reducible repeat (first|refine y_b ?_ _|refine y_c ?_|refine y_d ?_ _));exact BK207.out),(by (with_reducible repeat (first|refine y_b ?_ _|refine y_c ?_|refine y_d ?_ _));exact BK212.out),(by (with_reducible repeat (first|refine y_b ?_ _|refine y_c ?_|refine y_d ?_ _));exact BK227.out),GW227.out,GE227.out,NB0_227.out,NB227_0.out,NB207_227.out,NB227_207.out,NB212_227.out,NB227_212.out,(by repeat (first|(with_reducible first|exact HI0.out|apply IsS89.alloc|apply IsS89.drewN|apply IsS89.drew|apply IsS89.set_1|refine IsS89.far ?_ NB0_207.out _|refine IsS89.far ?_ NB0_212.out _|refine IsS89.far ?_ NB0_227.out _)|exact HI0.out)),(by repeat (first|(with_reducible first|exact HK.out|apply y_n|apply y_k|apply y_l|apply y_m|refine y_r ?_ GW207.out _|refine y_r ?_ GW212.out _|refine y_r ?_ GW227.out _)|exact HK.out)),(by repeat (first|(with_reducible first|exact HB.out|apply y_h|apply y_i|apply y_j|refine y_s ?_ (IsS89.ge HI0.out)|refine y_s ?_ GE207.out|refine y_s ?_ GE212.out|refine y_s ?_ GE227.out)|exact HB.out))⟩)
     ·skip
      refine box_step ?hg (N:=6) ?hd (cs:=#[.slice none 0 0,.int .i64 0]) (t:=29) ?hr ?_;(case hd => rfl);(case hg => rfl);(case hr => first|(go_simp;done)|(go_simp;rfl))
      intro gb227 hg w21 hbox hb
      have n0_:=Aside0.mk (Kd.R_below (by (with_reducible repeat (first|apply y_e|apply y_f|apply y_g));exact HO_213000.out) hb)
      have n1_:=Aside0.mk (blk_below (g:=gb207) (o:=.cells #[.slice none 0 0,.int .i64 0] 29 (0,0)) (by (with_reducible repeat (first|refine y_b ?_ _|refine y_c ?_|refine y_d ?_ _));exact BK207.out) hb)
      have n2_:=Aside0.mk (blk_below (g:=gb212) (o:=.cells #[.slice Ao19 x213000_1.length co19,.int .i64 x213001_1] 29 (0,0)) (by (with_reducible repeat (first|refine y_b ?_ _|refine y_c ?_|refine y_d ?_ _));exact BK212.out) hb)
      have n3_:=Aside0.mk (IsS89.below (by repeat (first|(with_reducible first|exact HI0.out|apply IsS89.alloc|apply IsS89.drewN|apply IsS89.drew|apply IsS89.set_1|refine IsS89.far ?_ NB0_207.out _|refine IsS89.far ?_ NB0_212.out _)|exact HI0.out)) hb)
      have n4_:=Aside0.mk (KeepBut.trans (by repeat (first|(with_reducible first|exact HK.out|apply y_n|apply y_k|apply y_l|apply y_m|refine y_r ?_ GW207.out _|refine y_r ?_ GW212.out _)|exact HK.out)) (KeepBut.of_below hb g none) (.inl rfl))
      have n5_:=Aside0.mk (below_step (by repeat (first|(with_reducible first|exact HB.out|apply y_h|apply y_i|apply y_j|refine y_s ?_ (IsS89.ge HI0.out)|refine y_s ?_ GE207.out|refine y_s ?_ GE212.out)|exact HB.out)) hb)
      have n6_ := Aside0.mk (hbox)
      have n7_:=Aside0.mk ((by rw [hg];exact (keep_size (w:=w) (g:=g) (row:=none) (by repeat (first|(with_reducible first|exact HK.out|apply y_n|apply y_k|apply y_l|apply y_m|refine y_r ?_ GW207.out _|refine y_r ?_ GW212.out _)|exact HK.out))) : w.heap.size ≤ gb227))
      have n8_:=Aside0.mk ((Nat.le_trans HW0.out (by rw [hg];exact (keep_size (w:=w) (g:=g) (row:=none) (by repeat (first|(with_reducible first|exact HK.out|apply y_n|apply y_k|apply y_l|apply y_m|refine y_r ?_ GW207.out _|refine y_r ?_ GW212.out _)|exact HK.out))) : w.heap.size ≤ gb227) : w0.heap.size ≤ gb227))
      have n9_:=Aside0.mk ((by rw [hg];exact Nat.ne_of_lt (blk_lt (g:=gb207) (o:=.cells #[.slice none 0 0,.int .i64 0] 29 (0,0)) (by (with_reducible repeat (first|refine y_b ?_ _|refine y_c ?_|refine y_d ?_ _));exact BK207.out)) : gb207 ≠ gb227))
      have n10_:=Aside0.mk ((by rw [hg];exact Nat.ne_of_gt (blk_lt (g:=gb207) (o:=.cells #[.slice none 0 0,.int .i64 0] 29 (0,0)) (by (with_reducible repeat (first|refine y_b ?_ _|refine y_c ?_|refine y_d ?_ _));exact BK207.out)) : gb227 ≠ gb207))
      have n11_:=Aside0.mk ((by rw [hg];exact Nat.ne_of_lt (blk_lt (g:=gb212) (o:=.cells #[.slice Ao19 x213000_1.length co19,.int .i64 x213001_1] 29 (0,0)) (by (with_reducible repeat (first|refine y_b ?_ _|refine y_c ?_|refine y_d ?_ _));exact BK212.out)) : gb212 ≠ gb227))
      have n12_:=Aside0.mk ((by rw [hg];exact Nat.ne_of_gt (blk_lt (g:=gb212) (o:=.cells #[.slice Ao19 x213000_1.length co19,.int .i64 x213001_1] 29 (0,0)) (by (with_reducible repeat (first|refine y_b ?_ _|refine y_c ?_|refine y_d ?_ _));exact BK212.out)) : gb227 ≠ gb212))
      have n13_:=Aside0.mk ((by rw [hg];exact Nat.ne_of_lt (IsS89.lt (show IsS89 w0 _ g s0_0 t216 from by repeat (first|(with_reducible first|exact HI0.out|apply IsS89.alloc|apply IsS89.drewN|apply IsS89.drew|apply IsS89.set_1|refine IsS89.far ?_ NB0_207.out _|refine IsS89.far ?_ NB0_212.out _)|exact HI0.out))) : g ≠ gb227))
      have n14_:=Aside0.mk ((by rw [hg];exact Nat.ne_of_gt (IsS89.lt (show IsS89 w0 _ g s0_0 t216 from by repeat (first|(with_reducible first|exact HI0.out|apply IsS89.alloc|apply IsS89.drewN|apply IsS89.drew|apply IsS89.set_1|refine IsS89.far ?_ NB0_207.out _|refine IsS89.far ?_ NB0_212.out _)|exact HI0.out))) : gb227 ≠ g))
      clear HO_213000
      clear BK207
      clear BK212
      clear HI0
      clear HK
      clear HB
      have HO_213000 := n0_
      have BK207 := n1_
      have BK212 := n2_
      have HI0 := n3_
      have HK := n4_
      have HB := n5_
      have BK227 := n6_
      have GW227 := n7_
      have GE227 := n8_
      have NB207_227 := n9_
      have NB227_207 := n10_
      have NB212_227 := n11_
      have NB227_212 := n12_
      have NB0_227 := n13_
      have NB227_0 := n14_
      clear n0_ n1_ n2_ n3_ n4_ n5_ n6_ n7_ n8_ n9_ n10_ n11_ n12_ n13_ n14_
      clear hb hbox hg
      refine hK.out _ _ ⟨(blk_cell BK212.out 0).trans rfl,(blk_cell BK212.out 1).trans rfl⟩ (fun hHeld => ?_)
      clear hK K
      refine norm_ (a' := ?_) ?_ ?_
      rotate_left
      ·show Act.put _ (some 6) _ = _
       simp only [Act.put,List.setIfInBounds_toArray,List.set_cons_zero,List.set_cons_succ,i64_w,i32_w]
       rfl
      refine one_ (i:=3) (N:=some 22) #[true,true,true,true,false,false,true,false,true,false,false,false,false,false,false,true,false,false,false] rfl rfl (one_of HT_.out (by kernel_rfl)) (by decide) (fun K hK => ?_)
      refine goes_ Try.func52 (by kernel_rfl) rfl #[.pointer (some ⟨g,0,none⟩),.int .i64 2] (by rfl) rfl rfl (by (try simp only [List.map_toArray,List.map_cons,List.map_nil]);first|done|rfl|(simp only [List.length_drop,List.length_take];rfl)) ?_
      with_reducible refine (spec_l1Rd_pick.calls k1 g s0_0 t216 2 t217 t218 w0 _ ?side1 ?side2 A14.out).mono ?_
      (case side1 => repeat (first|(with_reducible first|exact HI0.out|apply IsS89.alloc|apply IsS89.drewN|apply IsS89.drew|apply IsS89.set_1|refine IsS89.far ?_ NB0_207.out _|refine IsS89.far ?_ NB0_212.out _|refine IsS89.far ?_ NB0_227.out _)|exact HI0.out))
      (case side2 => repeat (first|(with_reducible first|exact HB.out|apply y_h|apply y_i|apply y_j|refine y_s ?_ (IsS89.ge HI0.out)|refine y_s ?_ GE207.out|refine y_s ?_ GE212.out|refine y_s ?_ GE227.out)|exact HB.out))
      rintro e w22 ⟨rfl, hi, hb, hk⟩
      refine ⟨_, rfl, ?_⟩
      have n0_:=Aside0.mk (y_t (Kd.R_keep (IsS89.apart (show IsS89 w0 _ g s0_0 t216 from by repeat (first|(with_reducible first|exact HI0.out|apply IsS89.alloc|apply IsS89.drewN|apply IsS89.drew|apply IsS89.set_1|refine IsS89.far ?_ NB0_207.out _|refine IsS89.far ?_ NB0_212.out _|refine IsS89.far ?_ NB0_227.out _)|exact HI0.out)) (by (with_reducible repeat (first|apply y_e|apply y_f|apply y_g));exact HO_213000.out) (by decide)) hk (fun _ h => h.2)) (fun _ h => h.1))
      have n1_:=Aside0.mk (KeepBut.blk hk (g':=gb207) (o:=.cells #[.slice none 0 0,.int .i64 0] 29 (0,0)) (by (with_reducible repeat (first|refine y_b ?_ _|refine y_c ?_|refine y_d ?_ _));exact BK207.out) NB207_0.out (by simp))
      have n2_:=Aside0.mk (KeepBut.blk hk (g':=gb212) (o:=.cells #[.slice Ao19 x213000_1.length co19,.int .i64 x213001_1] 29 (0,0)) (by (with_reducible repeat (first|refine y_b ?_ _|refine y_c ?_|refine y_d ?_ _));exact BK212.out) NB212_0.out (by simp))
      have n3_:=Aside0.mk (KeepBut.blk hk (g':=gb227) (o:=.cells #[.slice none 0 0,.int .i64 0] 29 (0,0)) (by (with_reducible repeat (first|refine y_b ?_ _|refine y_c ?_|refine y_d ?_ _));exact BK227.out) NB227_0.out (by simp))
      have n4_:=Aside0.mk (KeepBut.trans (by repeat (first|(with_reducible first|exact HK.out|apply y_n|apply y_k|apply y_l|apply y_m|refine y_r ?_ GW207.out _|refine y_r ?_ GW212.out _|refine y_r ?_ GW227.out _)|exact HK.out)) hk (.inl rfl))
      have n5_ := Aside0.mk (hb)
      have n6_ := Aside0.mk (hi)
      clear HO_213000
      clear BK207
      clear BK212
      clear BK227
      clear HK
      clear HB
      clear HI0
      have HO_213000 := n0_
      have BK207 := n1_
      have BK212 := n2_
      have BK227 := n3_
      have HK := n4_
      have HB := n5_
      have HI0 := n6_
      clear n0_ n1_ n2_ n3_ n4_ n5_ n6_
      (try clear hb)
      (try clear hb2)
      (try clear hk)
      (try clear hi)
      refine hK.out _ _ ⟨(blk_cell BK212.out 0).trans rfl,(blk_cell BK212.out 1).trans rfl⟩ (fun hHeld => ?_)
      clear hK K
      refine norm_ (a' := ?_) ?_ ?_
      rotate_left
      ·show Act.put _ (some 22) _ = _
       simp only [Act.put,List.setIfInBounds_toArray,List.set_cons_zero,List.set_cons_succ,i64_w,i32_w]
       rfl
      refine pure_ (i:=4) (N:=some 23) (v:=?_) (a':=?_) #[true,true,true,true,true,false,true,false,true,false,false,false,false,false,false,true,false,false,false] rfl rfl (any_of HT_.out (by kernel_rfl)) (fun _ _ _ h => h) (Or.inl ⟨by rfl,?_⟩) ?_ ?_
      rotate_left
      ·intro w'
       go_simp
       with_reducible rfl
      rotate_left
      ·simp only [Act.put,List.setIfInBounds_toArray,List.set_cons_zero,List.set_cons_succ,i64_w,i32_w]
       rfl
      refine pure_ (i:=5) (N:=some 24) (v:=?_) (a':=?_) #[true,true,true,true,true,true,true,false,true,false,false,false,false,false,false,true,false,false,false] rfl rfl (any_of HT_.out (by kernel_rfl)) (fun _ _ _ h => h) (Or.inl ⟨by rfl,?_⟩) ?_ ?_
      rotate_left
      ·intro w'
       go_simp
       with_reducible rfl
      rotate_left
      ·simp only [Act.put,List.setIfInBounds_toArray,List.set_cons_zero,List.set_cons_succ,i64_w,i32_w]
       rfl
      refine pure_ (i:=7) (N:=some 26) (v:=?_) (a':=?_) #[true,true,true,true,true,true,true,true,true,false,false,false,false,false,false,true,false,false,false] rfl rfl (any_of HT_.out (by kernel_rfl)) (fun _ _ _ h => h) (Or.inl ⟨by rfl,?_⟩) ?_ ?_
      rotate_left
      ·intro w'
       go_simp
       with_reducible rfl
      rotate_left
      ·simp only [Act.put,List.setIfInBounds_toArray,List.set_cons_zero,List.set_cons_succ,i64_w,i32_w]
       rfl
      refine one_ (i:=9) (N:=some 28) #[true,true,true,true,true,true,true,true,true,true,false,false,false,false,false,true,false,false,false] rfl rfl (one_of HT_.out (by kernel_rfl)) (by decide) (fun K hK => ?_)
      refine goes_ Try.func52 (by kernel_rfl) rfl #[.pointer (some ⟨g,0,none⟩),.int .i64 6] (by rfl) rfl rfl (by (try simp only [List.map_toArray,List.map_cons,List.map_nil]);first|done|rfl|(simp only [List.length_drop,List.length_take];rfl)) ?_
      with_reducible refine (spec_l1Rd_pick.calls k1 g s0_0 t218 6 t219 t220 w0 _ ?side1 ?side2 A15.out).mono ?_
      (case side1 => repeat (first|(with_reducible first|exact HI0.out|apply IsS89.alloc|apply IsS89.drewN|apply IsS89.drew|apply IsS89.set_1|refine IsS89.far ?_ NB0_207.out _|refine IsS89.far ?_ NB0_212.out _|refine IsS89.far ?_ NB0_227.out _)|exact HI0.out))
      (case side2 => repeat (first|(with_reducible first|exact HB.out|apply y_h|apply y_i|apply y_j|refine y_s ?_ (IsS89.ge HI0.out)|refine y_s ?_ GE207.out|refine y_s ?_ GE212.out|refine y_s ?_ GE227.out)|exact HB.out))
      rintro e w23 ⟨rfl, hi, hb, hk⟩
      refine ⟨_, rfl, ?_⟩
      have n0_:=Aside0.mk (y_t (Kd.R_keep (IsS89.apart (show IsS89 w0 _ g s0_0 t218 from by repeat (first|(with_reducible first|exact HI0.out|apply IsS89.alloc|apply IsS89.drewN|apply IsS89.drew|apply IsS89.set_1|refine IsS89.far ?_ NB0_207.out _|refine IsS89.far ?_ NB0_212.out _|refine IsS89.far ?_ NB0_227.out _)|exact HI0.out)) (by (with_reducible repeat (first|apply y_e|apply y_f|apply y_g));exact HO_213000.out) (by decide)) hk (fun _ h => h.2)) (fun _ h => h.1))
      have n1_:=Aside0.mk (KeepBut.blk hk (g':=gb207) (o:=.cells #[.slice none 0 0,.int .i64 0] 29 (0,0)) (by (with_reducible repeat (first|refine y_b ?_ _|refine y_c ?_|refine y_d ?_ _));exact BK207.out) NB207_0.out (by simp))
      have n2_:=Aside0.mk (KeepBut.blk hk (g':=gb212) (o:=.cells #[.slice Ao19 x213000_1.length co19,.int .i64 x213001_1] 29 (0,0)) (by (with_reducible repeat (first|refine y_b ?_ _|refine y_c ?_|refine y_d ?_ _));exact BK212.out) NB212_0.out (by simp))
      have n3_:=Aside0.mk (KeepBut.blk hk (g':=gb227) (o:=.cells #[.slice none 0 0,.int .i64 0] 29 (0,0)) (by (with_reducible repeat (first|refine y_b ?_ _|refine y_c ?_|refine y_d ?_ _));exact BK227.out) NB227_0.out (by simp))
      have n4_:=Aside0.mk (KeepBut.trans (by repeat (first|(with_reducible first|exact HK.out|apply y_n|apply y_k|apply y_l|apply y_m|refine y_r ?_ GW207.out _|refine y_r ?_ GW212.out _|refine y_r ?_ GW227.out _)|exact HK.out)) hk (.inl rfl))
      have n5_ := Aside0.mk (hb)
      have n6_ := Aside0.mk (hi)
      clear HO_213000
      clear BK207
      clear BK212
      clear BK227
      clear HK
      clear HB
      clear HI0
      have HO_213000 := n0_
      have BK207 := n1_
      have BK212 := n2_
      have BK227 := n3_
      have HK := n4_
      have HB := n5_
      have HI0 := n6_
      clear n0_ n1_ n2_ n3_ n4_ n5_ n6_
      (try clear hb)
      (try clear hb2)
      (try clear hk)
      (try clear hi)
      refine hK.out _ _ ⟨(blk_cell BK212.out 0).trans rfl,(blk_cell BK212.out 1).trans rfl⟩ (fun hHeld => ?_)
      clear hK K
      refine norm_ (a' := ?_) ?_ ?_
      rotate_left
      ·show Act.put _ (some 28) _ = _
       simp only [Act.put,List.setIfInBounds_toArray,List.set_cons_zero,List.set_cons_succ,i64_w,i32_w]
       rfl
      refine one_ (i:=10) (N:=some 29) #[true,true,true,true,true,true,true,true,true,true,true,false,false,false,false,true,false,false,false] rfl rfl (one_of HT_.out (by kernel_rfl)) (by decide) (fun K hK => ?_)
      refine goes_ Try.func60 (by kernel_rfl) rfl #[.agg #[.slice Ao19 x213000_1.length co19,.int .i64 x213001_1],.int .i64 t215,.int .i64 (wrap64 ((wrap64 (1 + (wrap64 (2 * t217)))) + t215)),.int .i64 t219] (by rfl) rfl rfl (by (try simp only [List.map_toArray,List.map_cons,List.map_nil]);first|done|rfl|(simp only [List.length_drop,List.length_take];rfl)) ?_
      with_reducible refine (spec_l10Take.calls k1 _ _ x213000_1 x213001_1 t215 (wrap64 ((wrap64 (1 + (wrap64 (2 * t217)))) + t215)) t219 t221 t224 t225 t226 _ ?side1 ?side2 A16.out).mono ?_
      (case side1 => repeat (first|exact (Kd.R_reads' HO_213000.out).2.2|(with_reducible refine y_o ?_ _)|(with_reducible refine y_p ?_ _)|(with_reducible refine y_q ?_)))
      (case side2 => exact (Kd.R_reads' HO_213000.out).2.1)
      rintro e w24 ⟨v222, rfl, ho0, hb⟩
      refine ⟨_, rfl, ?_⟩
      have n0_:=Aside0.mk (Kd.R_elder' (by (with_reducible repeat (first|apply y_e|apply y_f|apply y_g));exact HO_213000.out) (Kd.R_base ho0) hb)
      have n1_:=Aside0.mk (Kd.R_lower (Kd.R_new' ho0 (Kd.R_lt (by (with_reducible repeat (first|apply y_e|apply y_f|apply y_g));exact HO_213000.out))) (keep_size (w:=w) (g:=g) (row:=none) (by repeat (first|(with_reducible first|exact HK.out|apply y_n|apply y_k|apply y_l|apply y_m|refine y_r ?_ GW207.out _|refine y_r ?_ GW212.out _|refine y_r ?_ GW227.out _)|exact HK.out))))
      have n2_:=Aside0.mk (blk_below (g:=gb207) (o:=.cells #[.slice none 0 0,.int .i64 0] 29 (0,0)) (by (with_reducible repeat (first|refine y_b ?_ _|refine y_c ?_|refine y_d ?_ _));exact BK207.out) hb)
      have n3_:=Aside0.mk (blk_below (g:=gb212) (o:=.cells #[.slice Ao19 x213000_1.length co19,.int .i64 x213001_1] 29 (0,0)) (by (with_reducible repeat (first|refine y_b ?_ _|refine y_c ?_|refine y_d ?_ _));exact BK212.out) hb)
      have n4_:=Aside0.mk (IsS89.below (by repeat (first|(with_reducible first|exact HI0.out|apply IsS89.alloc|apply IsS89.drewN|apply IsS89.drew|apply IsS89.set_1|refine IsS89.far ?_ NB0_207.out _|refine IsS89.far ?_ NB0_212.out _|refine IsS89.far ?_ NB0_227.out _)|exact HI0.out)) hb)
      have n5_:=Aside0.mk (blk_below (g:=gb227) (o:=.cells #[.slice none 0 0,.int .i64 0] 29 (0,0)) (by (with_reducible repeat (first|refine y_b ?_ _|refine y_c ?_|refine y_d ?_ _));exact BK227.out) hb)
      have n6_:=Aside0.mk (KeepBut.trans (by repeat (first|(with_reducible first|exact HK.out|apply y_n|apply y_k|apply y_l|apply y_m|refine y_r ?_ GW207.out _|refine y_r ?_ GW212.out _|refine y_r ?_ GW227.out _)|exact HK.out)) (KeepBut.of_below hb g none) (.inl rfl))
      have n7_:=Aside0.mk (below_step (by repeat (first|(with_reducible first|exact HB.out|apply y_h|apply y_i|apply y_j|refine y_s ?_ (IsS89.ge HI0.out)|refine y_s ?_ GE207.out|refine y_s ?_ GE212.out|refine y_s ?_ GE227.out)|exact HB.out)) hb)
      clear HO_213000
      clear BK207
      clear BK212
      clear HI0
      clear BK227
      clear HK
      clear HB
      have HO_213000 := n0_
      have HO223 := n1_
      have BK207 := n2_
      have BK212 := n3_
      have HI0 := n4_
      have BK227 := n5_
      have HK := n6_
      have HB := n7_
      clear n0_ n1_ n2_ n3_ n4_ n5_ n6_ n7_
      (try clear hb)
      (try clear hb2)
      (try clear hk)
      (try clear hi)
      (try clear ho0)
      refine hK.out _ _ ⟨(blk_cell BK212.out 0).trans rfl,(blk_cell BK212.out 1).trans rfl⟩ (fun hHeld => ?_)
      clear hK K
      refine norm_ (a' := ?_) ?_ ?_
      rotate_left
      ·show Act.put _ (some 29) _ = _
       simp only [Act.put,List.setIfInBounds_toArray,List.set_cons_zero,List.set_cons_succ,i64_w,i32_w]
       rfl
      refine pure_ (i:=11) (N:=some 18) (v:=?_) (a':=?_) #[true,true,true,true,true,true,true,true,true,true,true,true,false,false,false,true,false,false,false] rfl rfl (any_of HT_.out (by kernel_rfl)) (fun _ _ _ h => h) (Or.inl ⟨by rfl,?_⟩) ?_ ?_
      rotate_left
      ·intro w'
       go_simp
       with_reducible rfl
      rotate_left
      ·simp only [Act.put,List.setIfInBounds_toArray,List.set_cons_zero,List.set_cons_succ,i64_w,i32_w]
       rfl
      refine pure_ (i:=12) (N:=some 30) (v:=?_) (a':=?_) #[true,true,true,true,true,true,true,true,true,true,true,true,true,false,false,true,false,false,false] rfl rfl (any_of HT_.out (by kernel_rfl)) (fun _ _ _ h => h) (Or.inl ⟨by rfl,?_⟩) ?_ ?_
      rotate_left
      ·intro w'
       go_simp
       with_reducible rfl
      rotate_left
      ·simp only [Act.put,List.setIfInBounds_toArray,List.set_cons_zero,List.set_cons_succ,i64_w,i32_w]
       rfl
      refine pure_ (i:=13) (N:=some 31) (v:=?_) (a':=?_) #[true,true,true,true,true,true,true,true,true,true,true,true,true,true,false,true,false,false,false] rfl rfl (any_of HT_.out (by kernel_rfl)) (fun _ _ _ h => h) (Or.inl ⟨by rfl,?_⟩) ?_ ?_
      rotate_left
      ·intro w'
       go_simp
       with_reducible rfl
      rotate_left
      ·simp only [Act.put,List.setIfInBounds_toArray,List.set_cons_zero,List.set_cons_succ,i64_w,i32_w]
       rfl
      refine pure_ (i:=14) (N:=some 32) (v:=?_) (a':=?_) #[true,true,true,true,true,true,true,true,true,true,true,true,true,true,true,true,false,false,false] rfl rfl (any_of HT_.out (by kernel_rfl)) (fun _ _ _ h => h) (Or.inl ⟨by rfl,?_⟩) ?_ ?_
      rotate_left
      ·intro w'
       go_simp
       with_reducible rfl
      rotate_left
      ·simp only [Act.put,List.setIfInBounds_toArray,List.set_cons_zero,List.set_cons_succ,i64_w,i32_w]
       rfl
      exact norm_ (by simp only [putAll,Act.put,List.setIfInBounds_toArray,List.set_cons_zero,List.set_cons_succ]) (hCont (v222,gb227) _ ⟨hHeld,(by (with_reducible repeat (first|apply y_e|apply y_f|apply y_g));exact y_t HO223.out (fun _ hk => hk.2)),(by (with_reducible repeat (first|apply y_e|apply y_f|apply y_g));exact y_t HO_213000.out (fun _ hk => hk.2)),(by (with_reducible repeat (first|refine y_b ?_ _|refine y_c ?_|refine y_d ?_ _));exact BK207.out),(by (with_reducible repeat (first|refine y_b ?_ _|refine y_c ?_|refine y_d ?_ _));exact BK212.out),(by (with_reducible repeat (first|refine y_b ?_ _|refine y_c ?_|refine y_d ?_ _));exact BK227.out),GW227.out,GE227.out,NB0_227.out,NB227_0.out,NB207_227.out,NB227_207.out,NB212_227.out,NB227_212.out,(by repeat (first|(with_reducible first|exact HI0.out|apply IsS89.alloc|apply IsS89.drewN|apply IsS89.drew|apply IsS89.set_1|refine IsS89.far ?_ NB0_207.out _|refine IsS89.far ?_ NB0_212.out _|refine IsS89.far ?_ NB0_227.out _)|exact HI0.out)),(by repeat (first|(with_reducible first|exact HK.out|apply y_n|apply y_k|apply y_l|apply y_m|refine y_r ?_ GW207.out _|refine y_r ?_ GW212.out _|refine y_r ?_ GW227.out _)|exact HK.out)),(by repeat (first|(with_reducible first|exact HB.out|apply y_h|apply y_i|apply y_j|refine y_s ?_ (IsS89.ge HI0.out)|refine y_s ?_ GE207.out|refine y_s ?_ GE212.out|refine y_s ?_ GE227.out)|exact HB.out))⟩)
    rintro ⟨v222,gb227⟩ w25 ⟨hS_,h0_,h1_,h2_,h3_,h4_,h5_,h6_,h7_,h8_,h9_,h10_,h11_,h12_,h13_,h14_,h15_⟩
    have n0_ : Aside0 (Kd.R k41 41 w25 w.heap.size (fun k_ => some k_ ≠ (.slice Ao19 x213000_1.length co19 : Value).ownBlock) v222 t221):=⟨h0_⟩
    have n1_ : Aside0 (Kd.R k41 41 w25 w.heap.size (fun k_ => some k_ ≠ (v222 : Value).ownBlock) (.slice Ao19 x213000_1.length co19) x213000_1):=⟨h1_⟩
    have n2_ : Aside0 (w25.heap[gb207]? = some (.cells #[.slice none 0 0,.int .i64 0] 29 (0,0))):=⟨h2_⟩
    have n3_ : Aside0 (w25.heap[gb212]? = some (.cells #[.slice Ao19 x213000_1.length co19,.int .i64 x213001_1] 29 (0,0))):=⟨h3_⟩
    have n4_ : Aside0 (w25.heap[gb227]? = some (.cells #[.slice none 0 0,.int .i64 0] 29 (0,0))):=⟨h4_⟩
    have n5_ : Aside0 (w.heap.size ≤ gb227) := ⟨h5_⟩
    have n6_ : Aside0 (w0.heap.size ≤ gb227) := ⟨h6_⟩
    have n7_ : Aside0 (g ≠ gb227) := ⟨h7_⟩
    have n8_ : Aside0 (gb227 ≠ g) := ⟨h8_⟩
    have n9_ : Aside0 (gb207 ≠ gb227) := ⟨h9_⟩
    have n10_ : Aside0 (gb227 ≠ gb207) := ⟨h10_⟩
    have n11_ : Aside0 (gb212 ≠ gb227) := ⟨h11_⟩
    have n12_ : Aside0 (gb227 ≠ gb212) := ⟨h12_⟩
    have n13_ : Aside0 (IsS89 w0 w25 g s0_0 t220) := ⟨h13_⟩
    have n14_ : Aside0 (KeepBut w w25 g none) := ⟨h14_⟩
    have n15_ : Aside0 (Below w0.heap.size w0 w25) := ⟨h15_⟩
    clear HO_213000
    clear BK207
    clear BK212
    clear HI0
    clear HK
    clear HB
    clear h0_ h1_ h2_ h3_ h4_ h5_ h6_ h7_ h8_ h9_ h10_ h11_ h12_ h13_ h14_ h15_
    have HO223 := n0_
    have HO_213000 := n1_
    have BK207 := n2_
    have BK212 := n3_
    have BK227 := n4_
    have GW227 := n5_
    have GE227 := n6_
    have NB0_227 := n7_
    have NB227_0 := n8_
    have NB207_227 := n9_
    have NB227_207 := n10_
    have NB212_227 := n11_
    have NB227_212 := n12_
    have HI0 := n13_
    have HK := n14_
    have HB := n15_
    clear n0_ n1_ n2_ n3_ n4_ n5_ n6_ n7_ n8_ n9_ n10_ n11_ n12_ n13_ n14_ n15_
    have hHeld : w25.cell? ⟨gb212,0,none⟩ = some (.slice Ao19 x213000_1.length co19) ∧ w25.cell? ⟨gb212,1,none⟩ = some (.int .i64 x213001_1):=hS_
    obtain ⟨Ao26, co26, eo26⟩ := Kd.R_slice HO223.out
    (first|subst eo26|(injection eo26 with f1_ f2_ f3_;have f4_:=f1_.symm;have f5_:=f3_.symm;clear f1_ f2_ f3_;subst f4_;subst f5_))
    refine norm_ (a' := ?_) ?_ ?_
    rotate_left
    ·simp only [putAll,Act.put,List.setIfInBounds_toArray,List.set_cons_zero,List.set_cons_succ]
     rfl
    refine one_ (i:=16) (N:=none) #[true,true,true,true,true,true,true,true,true,true,true,true,true,true,true,true,true,false,false] rfl rfl (one_of HT_.out (by kernel_rfl)) (by decide) (fun K hK => ?_)
    have hs27 : w25.cell? ⟨gb227,0,none⟩ = some (.slice none 0 0):=(blk_cell BK227.out 0).trans rfl
    have hfs27 := blk_frozen BK227.out 0
    have hns27_0 := NB207_227.out
    have hns27_1 := NB212_227.out
    have hms27_0 := NB227_207.out
    have hms27_1 := NB227_212.out
    have hs28 : w25.cell? ⟨gb227,1,none⟩ = some (.int .i64 0):=(blk_cell BK227.out 1).trans rfl
    have hfs28 := blk_frozen BK227.out 1
    have hns28_0 := NB207_227.out
    have hns28_1 := NB212_227.out
    have hms28_0 := NB227_207.out
    have hms28_1 := NB227_212.out
    refine skip_ (w1 := ?_) (by rfl) rfl ?_ ?_
    rotate_left
    ·go_simp
     rfl
    refine hK.out _ _ ⟨((cell_far (p:=⟨gb227,_,none⟩) NB212_227.out _).trans (((cell_far (p:=⟨gb227,_,none⟩) NB212_227.out _).trans (hHeld.1)))),((cell_far (p:=⟨gb227,_,none⟩) NB212_227.out _).trans (((cell_far (p:=⟨gb227,_,none⟩) NB212_227.out _).trans (hHeld.2))))⟩ (fun hHeld => ?_)
    clear hK K
    refine pure_ (i:=17) (N:=some 7) (v:=?_) (a':=?_) #[true,true,true,true,true,true,true,true,true,true,true,true,true,true,true,true,true,true,false] rfl rfl (any_of HT_.out (by kernel_rfl)) (fun _ _ _ h => h) (Or.inl ⟨by rfl,?_⟩) ?_ ?_
    rotate_left
    ·intro w'
     go_simp
     with_reducible rfl
    rotate_left
    ·simp only [Act.put,List.setIfInBounds_toArray,List.set_cons_zero,List.set_cons_succ,i64_w,i32_w]
     rfl
    refine pure_ (i:=18) (N:=some 8) (v:=?_) (a':=?_) #[true,true,true,true,true,true,true,true,true,true,true,true,true,true,true,true,true,true,true] rfl rfl (any_of HT_.out (by kernel_rfl)) (fun _ _ _ h => h) (Or.inl ⟨by rfl,?_⟩) ?_ ?_
    rotate_left
    ·intro w'
     go_simp
     with_reducible rfl
    rotate_left
    ·simp only [Act.put,List.setIfInBounds_toArray,List.set_cons_zero,List.set_cons_succ,i64_w,i32_w]
     rfl
    refine done_ (done_of HT_.out (by kernel_rfl)) ?_
    go_upto_region 7 with (fail)
    go_cut [38] (fun v38 wc => ∃ (kq : Nat) (x38_16 : Bool),v38 = .bool x38_16 ∧ Aside0 (spec_l15Pool.j1 kq x4_1 t225 x38_16 s0_0 t220 x213000_1 x213001_1 t221 t224 = some (r1,r2,r3)) ∧ Aside0 (kq ≤ k1) ∧ Aside0 (Kd.R k41 41 wc w.heap.size (fun k_ => some k_ ≠ ((.slice Ao26 t221.length co26) : Value).ownBlock) (.slice Ao19 x213000_1.length co19) x213000_1) ∧ Aside0 (Kd.R k41 41 wc w.heap.size (fun k_ => some k_ ≠ ((.slice Ao19 x213000_1.length co19) : Value).ownBlock) (.slice Ao26 t221.length co26) t221) ∧ Aside0 (wc.heap[gb207]? = some (.cells #[(.slice none 0 0),.int .i64 0] 29 (0,0))) ∧ Aside0 (wc.heap[gb212]? = some (.cells #[(.slice Ao19 x213000_1.length co19),.int .i64 x213001_1] 29 (0,0))) ∧ Aside0 (wc.heap[gb227]? = some (.cells #[(.slice Ao26 t221.length co26),.int .i64 t224] 29 (0,0))) ∧ Aside0 (IsS89 w0 wc g s0_0 t220) ∧ Aside0 (KeepBut w wc g none) ∧ Aside0 (Below w0.heap.size w0 wc))
    case first =>
     have H := HC17.out
     clear HC17
     by_cases c29 : t226 = 0
     ·rw [if_pos c29] at H
      have c29b0 : (t226 == 0) = true := beq_iff_eq.mpr c29
      have c29b1 : (t226 != 0) = false:=bne_eq_false_iff_eq.mpr c29
      clear c29
      (first|rw [c29b0]|(simp only [i64_w,i32_w];rw [c29b0])|skip)
      have H' := Aside0.mk H
      clear H
      go_wp2
      go_meet
      case rel => exact ⟨_,(true),(by first|rfl|(simp;done)|(simp [*];done)),H',⟨by have:=HK1.out;first|omega|exact Nat.le_refl _⟩,⟨by (with_reducible repeat (first|apply y_e|apply y_f|apply y_g));exact y_t (Kd.R_far (p:=⟨gb227,1,none⟩) (Kd.R_far (p:=⟨gb227,0,none⟩) (Kd.R_types HO_213000.out BK227.out (by decide)) (fun _ hk => hk.2) (.slice Ao26 t221.length co26)) (fun _ hk => hk.2) (.int .i64 t224)) (fun _ hk => hk.1)⟩,⟨by (with_reducible repeat (first|apply y_e|apply y_f|apply y_g));exact y_t (Kd.R_far (p:=⟨gb227,1,none⟩) (Kd.R_far (p:=⟨gb227,0,none⟩) (Kd.R_types HO223.out BK227.out (by decide)) (fun _ hk => hk.2) (.slice Ao26 t221.length co26)) (fun _ hk => hk.2) (.int .i64 t224)) (fun _ hk => hk.1)⟩,⟨by (with_reducible repeat (first|refine y_b ?_ _|refine y_c ?_|refine y_d ?_ _));refine blk_far ?_ NB207_227.out _;(with_reducible repeat (first|refine y_b ?_ _|refine y_c ?_|refine y_d ?_ _));refine blk_far ?_ NB207_227.out _;(with_reducible repeat (first|refine y_b ?_ _|refine y_c ?_|refine y_d ?_ _));exact BK207.out⟩,⟨by (with_reducible repeat (first|refine y_b ?_ _|refine y_c ?_|refine y_d ?_ _));refine blk_far ?_ NB212_227.out _;(with_reducible repeat (first|refine y_b ?_ _|refine y_c ?_|refine y_d ?_ _));refine blk_far ?_ NB212_227.out _;(with_reducible repeat (first|refine y_b ?_ _|refine y_c ?_|refine y_d ?_ _));exact BK212.out⟩,⟨by (with_reducible repeat (first|refine y_b ?_ _|refine y_c ?_|refine y_d ?_ _));refine blk_put (cs:=#[.slice Ao26 t221.length co26,.int .i64 0]) ?_ 1 _ rfl;(with_reducible repeat (first|refine y_b ?_ _|refine y_c ?_|refine y_d ?_ _));refine blk_put (cs:=#[.slice none 0 0,.int .i64 0]) ?_ 0 _ rfl;(with_reducible repeat (first|refine y_b ?_ _|refine y_c ?_|refine y_d ?_ _));exact BK227.out⟩,⟨by repeat (first|(with_reducible first|exact HI0.out|apply IsS89.alloc|apply IsS89.drewN|apply IsS89.drew|apply IsS89.set_1|refine IsS89.far ?_ NB0_207.out _|refine IsS89.far ?_ NB0_212.out _|refine IsS89.far ?_ NB0_227.out _)|exact HI0.out)⟩,⟨by repeat (first|(with_reducible first|exact HK.out|apply y_n|apply y_k|apply y_l|apply y_m|refine y_r ?_ GW207.out _|refine y_r ?_ GW212.out _|refine y_r ?_ GW227.out _)|exact HK.out)⟩,⟨by repeat (first|(with_reducible first|exact HB.out|apply y_h|apply y_i|apply y_j|refine y_s ?_ (IsS89.ge HI0.out)|refine y_s ?_ GE207.out|refine y_s ?_ GE212.out|refine y_s ?_ GE227.out)|exact HB.out)⟩⟩
     ·rw [if_neg c29] at H
      have c29b0 : (t226 == 0) = false:=beq_eq_false_iff_ne.mpr c29
      have c29b1 : (t226 != 0) = true := bne_iff_ne.mpr c29
      (first|rw [c29b0]|(simp only [i64_w,i32_w];rw [c29b0])|skip)
      have H' := Aside0.mk H
      clear H
      go_wp2
      go_meet
      case rel => exact ⟨_,((t226 == 1)),(by first|rfl|(simp;done)|(simp [*];done)),H',⟨by have:=HK1.out;first|omega|exact Nat.le_refl _⟩,⟨by (with_reducible repeat (first|apply y_e|apply y_f|apply y_g));exact y_t (Kd.R_far (p:=⟨gb227,1,none⟩) (Kd.R_far (p:=⟨gb227,0,none⟩) (Kd.R_types HO_213000.out BK227.out (by decide)) (fun _ hk => hk.2) (.slice Ao26 t221.length co26)) (fun _ hk => hk.2) (.int .i64 t224)) (fun _ hk => hk.1)⟩,⟨by (with_reducible repeat (first|apply y_e|apply y_f|apply y_g));exact y_t (Kd.R_far (p:=⟨gb227,1,none⟩) (Kd.R_far (p:=⟨gb227,0,none⟩) (Kd.R_types HO223.out BK227.out (by decide)) (fun _ hk => hk.2) (.slice Ao26 t221.length co26)) (fun _ hk => hk.2) (.int .i64 t224)) (fun _ hk => hk.1)⟩,⟨by (with_reducible repeat (first|refine y_b ?_ _|refine y_c ?_|refine y_d ?_ _));refine blk_far ?_ NB207_227.out _;(with_reducible repeat (first|refine y_b ?_ _|refine y_c ?_|refine y_d ?_ _));refine blk_far ?_ NB207_227.out _;(with_reducible repeat (first|refine y_b ?_ _|refine y_c ?_|refine y_d ?_ _));exact BK207.out⟩,⟨by (with_reducible repeat (first|refine y_b ?_ _|refine y_c ?_|refine y_d ?_ _));refine blk_far ?_ NB212_227.out _;(with_reducible repeat (first|refine y_b ?_ _|refine y_c ?_|refine y_d ?_ _));refine blk_far ?_ NB212_227.out _;(with_reducible repeat (first|refine y_b ?_ _|refine y_c ?_|refine y_d ?_ _));exact BK212.out⟩,⟨by (with_reducible repeat (first|refine y_b ?_ _|refine y_c ?_|refine y_d ?_ _));refine blk_put (cs:=#[.slice Ao26 t221.length co26,.int .i64 0]) ?_ 1 _ rfl;(with_reducible repeat (first|refine y_b ?_ _|refine y_c ?_|refine y_d ?_ _));refine blk_put (cs:=#[.slice none 0 0,.int .i64 0]) ?_ 0 _ rfl;(with_reducible repeat (first|refine y_b ?_ _|refine y_c ?_|refine y_d ?_ _));exact BK227.out⟩,⟨by repeat (first|(with_reducible first|exact HI0.out|apply IsS89.alloc|apply IsS89.drewN|apply IsS89.drew|apply IsS89.set_1|refine IsS89.far ?_ NB0_207.out _|refine IsS89.far ?_ NB0_212.out _|refine IsS89.far ?_ NB0_227.out _)|exact HI0.out)⟩,⟨by repeat (first|(with_reducible first|exact HK.out|apply y_n|apply y_k|apply y_l|apply y_m|refine y_r ?_ GW207.out _|refine y_r ?_ GW212.out _|refine y_r ?_ GW227.out _)|exact HK.out)⟩,⟨by repeat (first|(with_reducible first|exact HB.out|apply y_h|apply y_i|apply y_j|refine y_s ?_ (IsS89.ge HI0.out)|refine y_s ?_ GE207.out|refine y_s ?_ GE212.out|refine y_s ?_ GE227.out)|exact HB.out)⟩⟩
    case rest =>
     clear HC17
     try clear c2
     try clear p2
     try clear c5
     try clear c6
     try clear p6
     try clear c29
     try clear c29b0
     try clear c29b1
     obtain ⟨kq,x38_16,rfl,HA,HJ16,HO_213000,HO_228000,BK207,BK212,BK227,HI0,HK,HB⟩:=hcut
     cases kq with
     | zero => exact absurd HA.out (by simp [spec_l15Pool.j1])
     | succ kj16 =>
      have H := HA.out
      clear HA
      simp only [spec_l15Pool.j1] at H
      by_cases c30 : x38_16 = true
      ·subst c30
       have H1 : ((spec_l1Rd_pick.f kj16 s0_0 t220 5).bind fun bt228 => (if bt228.1 > 0 then ((spec_PoolLet.f kj16 t221 t224 t225).bind fun bt230 => (spec_l15Pool.l0 kj16 (wrap64 (x4_1 - 1)) s0_0 bt228.2 bt230.1 bt230.2.1)) else (spec_l15Pool.l0 kj16 (wrap64 (x4_1 - 1)) s0_0 bt228.2 t221 t224))) = some (r1,r2,r3):=by rw [if_pos rfl] at H;exact H
       clear H
       have H := H1
       clear H1
       replace H := Option.bind_eq_some_iff.mp H
       obtain ⟨⟨t228, t229⟩, A310, H⟩ := H
       replace H : (if t228 > 0 then ((spec_PoolLet.f kj16 t221 t224 t225).bind fun bt230 => (spec_l15Pool.l0 kj16 (wrap64 (x4_1 - 1)) s0_0 t229 bt230.1 bt230.2.1)) else (spec_l15Pool.l0 kj16 (wrap64 (x4_1 - 1)) s0_0 t229 t221 t224)) = some (r1,r2,r3):=H
       have A31 := Aside0.mk A310
       clear A310
       by_cases c32 : t228 > 0
       ·rw [if_pos c32] at H
        have c32b0 : decide (0 < t228) = true := decide_eq_true c32
        clear c32
        replace H := Option.bind_eq_some_iff.mp H
        obtain ⟨⟨t230, t233, t234⟩, A330, H⟩ := H
        replace H : (spec_l15Pool.l0 kj16 (wrap64 (x4_1 - 1)) s0_0 t229 t230 t233) = some (r1,r2,r3):=H
        have A33 := Aside0.mk A330
        clear A330
        have H' := Aside0.mk H
        clear H
        have hnb34 := NB227_207.out
        have hnc34 := NB207_227.out
        have hnb35 := NB227_212.out
        have hnc35 := NB212_227.out
        have hnb36 := NB227_0.out
        have hnc36 := NB0_227.out
        have hcz37_0 : wc.cell? ⟨gb227,0,none⟩ = some (.slice Ao26 t221.length co26):=(blk_cell BK227.out 0).trans rfl
        have hcz37_1 : wc.cell? ⟨gb227,1,none⟩ = some (.int .i64 t224):=(blk_cell BK227.out 1).trans rfl
        have hfz37_0 := blk_frozen BK227.out 0
        have hfz37_1 := blk_frozen BK227.out 1
        have hnb38 := NB212_207.out
        have hnc38 := NB207_212.out
        have hnb39 := NB212_0.out
        have hnc39 := NB0_212.out
        have hcz40_0 : wc.cell? ⟨gb212,0,none⟩ = some (.slice Ao19 x213000_1.length co19):=(blk_cell BK212.out 0).trans rfl
        have hcz40_1 : wc.cell? ⟨gb212,1,none⟩ = some (.int .i64 x213001_1):=(blk_cell BK212.out 1).trans rfl
        have hfz40_0 := blk_frozen BK212.out 0
        have hfz40_1 := blk_frozen BK212.out 1
        go_wp2_with (first|((with_reducible refine gate_callee (f:=52) rfl ?_);refine goesL_ (some 41) rfl rfl Try.func52 (by kernel_rfl) rfl #[.pointer (some ⟨g,0,none⟩),.int .i64 5] rfl (by (try simp only [List.map_toArray,List.map_cons,List.map_nil]);first|done|rfl|(simp only [List.length_drop,List.length_take];rfl)) ?_;(with_reducible refine (spec_l1Rd_pick.calls kj16 g s0_0 t220 5 t228 t229 w0 _ ?side1 ?side2 A31.out).mono ?_);(case side1 => repeat (first|(with_reducible first|exact HI0.out|apply IsS89.alloc|apply IsS89.drewN|apply IsS89.drew|apply IsS89.set_1|refine IsS89.far ?_ NB0_207.out _|refine IsS89.far ?_ NB0_212.out _|refine IsS89.far ?_ NB0_227.out _)|exact HI0.out));(case side2 => repeat (first|(with_reducible first|exact HB.out|apply y_h|apply y_i|apply y_j|refine y_s ?_ (IsS89.ge HI0.out)|refine y_s ?_ GE207.out|refine y_s ?_ GE212.out|refine y_s ?_ GE227.out)|exact HB.out));rintro e w41 ⟨rfl,hi,hb,hk⟩;refine ⟨_,rfl,?_⟩;have n0_:=Aside0.mk (y_t (Kd.R_keep (IsS89.apart (show IsS89 w0 _ g s0_0 t220 from by repeat (first|(with_reducible first|exact HI0.out|apply IsS89.alloc|apply IsS89.drewN|apply IsS89.drew|apply IsS89.set_1|refine IsS89.far ?_ NB0_207.out _|refine IsS89.far ?_ NB0_212.out _|refine IsS89.far ?_ NB0_227.out _)|exact HI0.out)) (by (with_reducible repeat (first|apply y_e|apply y_f|apply y_g));exact (y_t (Kd.R_far (p:=⟨gb212,1,none⟩) (Kd.R_far (p:=⟨gb212,0,none⟩) (Kd.R_types HO_213000.out BK212.out (by decide)) (fun _ hk => hk.2) (.slice Ao26 t221.length co26)) (fun _ hk => hk.2) (.int .i64 t224)) (fun _ h_ => h_.1))) (by decide)) hk (fun _ h => h.2)) (fun _ h => h.1));have n1_:=Aside0.mk (y_t (Kd.R_keep (IsS89.apart (show IsS89 w0 _ g s0_0 t220 from by repeat (first|(with_reducible first|exact HI0.out|apply IsS89.alloc|apply IsS89.drewN|apply IsS89.drew|apply IsS89.set_1|refine IsS89.far ?_ NB0_207.out _|refine IsS89.far ?_ NB0_212.out _|refine IsS89.far ?_ NB0_227.out _)|exact HI0.out)) (by (with_reducible repeat (first|apply y_e|apply y_f|apply y_g));exact (y_t (Kd.R_far (p:=⟨gb212,1,none⟩) (Kd.R_far (p:=⟨gb212,0,none⟩) (Kd.R_types HO_228000.out BK212.out (by decide)) (fun _ hk => hk.2) (.slice Ao26 t221.length co26)) (fun _ hk => hk.2) (.int .i64 t224)) (fun _ h_ => h_.1))) (by decide)) hk (fun _ h => h.2)) (fun _ h => h.1));have n2_:=Aside0.mk (KeepBut.blk hk (g':=gb207) (o:=.cells #[.slice none 0 0,.int .i64 0] 29 (0,0)) (by (with_reducible repeat (first|refine y_b ?_ _|refine y_c ?_|refine y_d ?_ _));refine blk_far ?_ NB207_212.out _;(with_reducible repeat (first|refine y_b ?_ _|refine y_c ?_|refine y_d ?_ _));refine blk_far ?_ NB207_212.out _;(with_reducible repeat (first|refine y_b ?_ _|refine y_c ?_|refine y_d ?_ _));exact BK207.out) NB207_0.out (by simp));have n3_:=Aside0.mk (KeepBut.blk hk (g':=gb212) (o:=.cells #[.slice Ao26 t221.length co26,.int .i64 t224] 29 (0,0)) (by (with_reducible repeat (first|refine y_b ?_ _|refine y_c ?_|refine y_d ?_ _));refine blk_put (cs:=#[.slice Ao26 t221.length co26,.int .i64 x213001_1]) ?_ 1 _ rfl;(with_reducible repeat (first|refine y_b ?_ _|refine y_c ?_|refine y_d ?_ _));refine blk_put (cs:=#[.slice Ao19 x213000_1.length co19,.int .i64 x213001_1]) ?_ 0 _ rfl;(with_reducible repeat (first|refine y_b ?_ _|refine y_c ?_|refine y_d ?_ _));exact BK212.out) NB212_0.out (by simp));have n4_:=Aside0.mk (KeepBut.blk hk (g':=gb227) (o:=.cells #[.slice Ao26 t221.length co26,.int .i64 t224] 29 (0,0)) (by (with_reducible repeat (first|refine y_b ?_ _|refine y_c ?_|refine y_d ?_ _));refine blk_far ?_ NB227_212.out _;(with_reducible repeat (first|refine y_b ?_ _|refine y_c ?_|refine y_d ?_ _));refine blk_far ?_ NB227_212.out _;(with_reducible repeat (first|refine y_b ?_ _|refine y_c ?_|refine y_d ?_ _));exact BK227.out) NB227_0.out (by simp));have n5_:=Aside0.mk (KeepBut.trans (by repeat (first|(with_reducible first|exact HK.out|apply y_n|apply y_k|apply y_l|apply y_m|refine y_r ?_ GW207.out _|refine y_r ?_ GW212.out _|refine y_r ?_ GW227.out _)|exact HK.out)) hk (.inl rfl));have n6_:=Aside0.mk (hb);have n7_:=Aside0.mk (hi);clear HO_213000 HO_228000 BK207 BK212 BK227 HK HB HI0;have HO_213000:=n0_;have HO_228000:=n1_;have BK207:=n2_;have BK212:=n3_;have BK227:=n4_;have HK:=n5_;have HB:=n6_;have HI0:=n7_;clear n0_ n1_ n2_ n3_ n4_ n5_ n6_ n7_;(try clear hb);(try clear hb2);(try clear hk);(try clear hi);have hcz42_0 : w41.cell? ⟨gb212,0,none⟩ = some (.slice Ao26 t221.length co26):=(blk_cell BK212.out 0).trans rfl;have hcz42_1 : w41.cell? ⟨gb212,1,none⟩ = some (.int .i64 t224):=(blk_cell BK212.out 1).trans rfl;have hfz42_0:=blk_frozen BK212.out 0;have hfz42_1:=blk_frozen BK212.out 1)|((with_reducible refine gate_callee (f:=24) rfl ?_);refine goesL_ (some 46) rfl rfl Try.func24 (by kernel_rfl) rfl #[.agg #[.slice Ao26 t221.length co26,.int .i64 t224],.int .i64 t225] rfl (by (try simp only [List.map_toArray,List.map_cons,List.map_nil]);first|done|rfl|(simp only [List.length_drop,List.length_take];rfl)) ?_;(with_reducible refine (spec_PoolLet.calls kj16 _ _ t221 t224 t225 t230 t233 t234 _ ?side1 ?side2 A33.out).mono ?_);(case side1 => repeat (first|exact (Kd.R_reads' HO_228000.out).2.2|(with_reducible refine y_o ?_ _)|(with_reducible refine y_p ?_ _)|(with_reducible refine y_q ?_)));(case side2 => exact (Kd.R_reads' HO_228000.out).2.1);rintro e w43 ⟨v231,rfl,ho0,hb⟩;refine ⟨_,rfl,?_⟩;have n0_:=Aside0.mk (Kd.R_elder' (by (with_reducible repeat (first|apply y_e|apply y_f|apply y_g));exact HO_213000.out) (Kd.R_base ho0) hb);have n1_:=Aside0.mk (Kd.R_elder' (by (with_reducible repeat (first|apply y_e|apply y_f|apply y_g));exact HO_228000.out) (Kd.R_base ho0) hb);have n2_:=Aside0.mk (Kd.R_lower (Kd.R_new' (Kd.R_new' ho0 (Kd.R_lt (by (with_reducible repeat (first|apply y_e|apply y_f|apply y_g));exact HO_213000.out))) (Kd.R_lt (by (with_reducible repeat (first|apply y_e|apply y_f|apply y_g));exact HO_228000.out))) (keep_size (w:=w) (g:=g) (row:=none) (by repeat (first|(with_reducible first|exact HK.out|apply y_n|apply y_k|apply y_l|apply y_m|refine y_r ?_ GW207.out _|refine y_r ?_ GW212.out _|refine y_r ?_ GW227.out _)|exact HK.out))));have n3_:=Aside0.mk (blk_below (g:=gb207) (o:=.cells #[.slice none 0 0,.int .i64 0] 29 (0,0)) (by (with_reducible repeat (first|refine y_b ?_ _|refine y_c ?_|refine y_d ?_ _));exact BK207.out) hb);have n4_:=Aside0.mk (blk_below (g:=gb212) (o:=.cells #[.slice Ao26 t221.length co26,.int .i64 t224] 29 (0,0)) (by (with_reducible repeat (first|refine y_b ?_ _|refine y_c ?_|refine y_d ?_ _));exact BK212.out) hb);have n5_:=Aside0.mk (blk_below (g:=gb227) (o:=.cells #[.slice Ao26 t221.length co26,.int .i64 t224] 29 (0,0)) (by (with_reducible repeat (first|refine y_b ?_ _|refine y_c ?_|refine y_d ?_ _));exact BK227.out) hb);have n6_:=Aside0.mk (IsS89.below (by repeat (first|(with_reducible first|exact HI0.out|apply IsS89.alloc|apply IsS89.drewN|apply IsS89.drew|apply IsS89.set_1|refine IsS89.far ?_ NB0_207.out _|refine IsS89.far ?_ NB0_212.out _|refine IsS89.far ?_ NB0_227.out _)|exact HI0.out)) hb);have n7_:=Aside0.mk (KeepBut.trans (by repeat (first|(with_reducible first|exact HK.out|apply y_n|apply y_k|apply y_l|apply y_m|refine y_r ?_ GW207.out _|refine y_r ?_ GW212.out _|refine y_r ?_ GW227.out _)|exact HK.out)) (KeepBut.of_below hb g none) (.inl rfl));have n8_:=Aside0.mk (below_step (by repeat (first|(with_reducible first|exact HB.out|apply y_h|apply y_i|apply y_j|refine y_s ?_ (IsS89.ge HI0.out)|refine y_s ?_ GE207.out|refine y_s ?_ GE212.out|refine y_s ?_ GE227.out)|exact HB.out)) hb);clear HO_213000 HO_228000 BK207 BK212 BK227 HI0 HK HB;have HO_213000:=n0_;have HO_228000:=n1_;have HO232:=n2_;have BK207:=n3_;have BK212:=n4_;have BK227:=n5_;have HI0:=n6_;have HK:=n7_;have HB:=n8_;clear n0_ n1_ n2_ n3_ n4_ n5_ n6_ n7_ n8_;(try clear hb);(try clear hb2);(try clear hk);(try clear hi);(try clear ho0);obtain ⟨Ao44,co44,eo44⟩:=Kd.R_slice HO232.out;subst eo44;have hcz45_0 : w43.cell? ⟨gb212,0,none⟩ = some (.slice Ao26 t221.length co26):=(blk_cell BK212.out 0).trans rfl;have hcz45_1 : w43.cell? ⟨gb212,1,none⟩ = some (.int .i64 t224):=(blk_cell BK212.out 1).trans rfl;have hfz45_0:=blk_frozen BK212.out 0;have hfz45_1:=blk_frozen BK212.out 1))
        go_roundg kj16
        case measure => have := HK1.out; have := HJ16.out; omega
        case rel => exact ⟨(wrap64 (x4_1 - 1)),(t229),(t230),(t233),(.slice Ao44 t230.length co44),(by first|rfl|(simp;done)|(simp [*];done)),H',⟨by have:=HK1.out;have:=HJ16.out;omega⟩,⟨by (with_reducible repeat (first|apply y_e|apply y_f|apply y_g));exact y_t (Kd.R_far (p:=⟨gb212,1,none⟩) (Kd.R_far (p:=⟨gb212,0,none⟩) (Kd.R_types HO232.out BK212.out (by decide)) (fun _ hk => hk.2) (.slice Ao44 t230.length co44)) (fun _ hk => hk.2) (.int .i64 t233)) (fun _ hk => trivial)⟩,⟨by (with_reducible repeat (first|refine y_b ?_ _|refine y_c ?_|refine y_d ?_ _));refine blk_far ?_ NB207_212.out _;(with_reducible repeat (first|refine y_b ?_ _|refine y_c ?_|refine y_d ?_ _));refine blk_far ?_ NB207_212.out _;(with_reducible repeat (first|refine y_b ?_ _|refine y_c ?_|refine y_d ?_ _));exact BK207.out⟩,⟨by (with_reducible repeat (first|refine y_b ?_ _|refine y_c ?_|refine y_d ?_ _));refine blk_put (cs:=#[.slice Ao44 t230.length co44,.int .i64 t224]) ?_ 1 _ rfl;(with_reducible repeat (first|refine y_b ?_ _|refine y_c ?_|refine y_d ?_ _));refine blk_put (cs:=#[.slice Ao26 t221.length co26,.int .i64 t224]) ?_ 0 _ rfl;(with_reducible repeat (first|refine y_b ?_ _|refine y_c ?_|refine y_d ?_ _));exact BK212.out⟩,⟨by repeat (first|(with_reducible first|exact HI0.out|apply IsS89.alloc|apply IsS89.drewN|apply IsS89.drew|apply IsS89.set_1|refine IsS89.far ?_ NB0_207.out _|refine IsS89.far ?_ NB0_212.out _|refine IsS89.far ?_ NB0_227.out _)|exact HI0.out)⟩,⟨by repeat (first|(with_reducible first|exact HK.out|apply y_n|apply y_k|apply y_l|apply y_m|refine y_r ?_ GW207.out _|refine y_r ?_ GW212.out _|refine y_r ?_ GW227.out _)|exact HK.out)⟩,⟨by repeat (first|(with_reducible first|exact HB.out|apply y_h|apply y_i|apply y_j|refine y_s ?_ (IsS89.ge HI0.out)|refine y_s ?_ GE207.out|refine y_s ?_ GE212.out|refine y_s ?_ GE227.out)|exact HB.out)⟩⟩
       ·rw [if_neg c32] at H
        have c32b0 : decide (0 < t228) = false:=decide_eq_false c32
        clear c32
        have H' := Aside0.mk H
        clear H
        have hnb46 := NB227_207.out
        have hnc46 := NB207_227.out
        have hnb47 := NB227_212.out
        have hnc47 := NB212_227.out
        have hnb48 := NB227_0.out
        have hnc48 := NB0_227.out
        have hcz49_0 : wc.cell? ⟨gb227,0,none⟩ = some (.slice Ao26 t221.length co26):=(blk_cell BK227.out 0).trans rfl
        have hcz49_1 : wc.cell? ⟨gb227,1,none⟩ = some (.int .i64 t224):=(blk_cell BK227.out 1).trans rfl
        have hfz49_0 := blk_frozen BK227.out 0
        have hfz49_1 := blk_frozen BK227.out 1
        have hnb50 := NB212_207.out
        have hnc50 := NB207_212.out
        have hnb51 := NB212_0.out
        have hnc51 := NB0_212.out
        have hcz52_0 : wc.cell? ⟨gb212,0,none⟩ = some (.slice Ao19 x213000_1.length co19):=(blk_cell BK212.out 0).trans rfl
        have hcz52_1 : wc.cell? ⟨gb212,1,none⟩ = some (.int .i64 x213001_1):=(blk_cell BK212.out 1).trans rfl
        have hfz52_0 := blk_frozen BK212.out 0
        have hfz52_1 := blk_frozen BK212.out 1
        go_wp2_with (first|((with_reducible refine gate_callee (f:=52) rfl ?_);refine goesL_ (some 41) rfl rfl Try.func52 (by kernel_rfl) rfl #[.pointer (some ⟨g,0,none⟩),.int .i64 5] rfl (by (try simp only [List.map_toArray,List.map_cons,List.map_nil]);first|done|rfl|(simp only [List.length_drop,List.length_take];rfl)) ?_;(with_reducible refine (spec_l1Rd_pick.calls kj16 g s0_0 t220 5 t228 t229 w0 _ ?side1 ?side2 A31.out).mono ?_);(case side1 => repeat (first|(with_reducible first|exact HI0.out|apply IsS89.alloc|apply IsS89.drewN|apply IsS89.drew|apply IsS89.set_1|refine IsS89.far ?_ NB0_207.out _|refine IsS89.far ?_ NB0_212.out _|refine IsS89.far ?_ NB0_227.out _)|exact HI0.out));(case side2 => repeat (first|(with_reducible first|exact HB.out|apply y_h|apply y_i|apply y_j|refine y_s ?_ (IsS89.ge HI0.out)|refine y_s ?_ GE207.out|refine y_s ?_ GE212.out|refine y_s ?_ GE227.out)|exact HB.out));rintro e w53 ⟨rfl,hi,hb,hk⟩;refine ⟨_,rfl,?_⟩;have n0_:=Aside0.mk (y_t (Kd.R_keep (IsS89.apart (show IsS89 w0 _ g s0_0 t220 from by repeat (first|(with_reducible first|exact HI0.out|apply IsS89.alloc|apply IsS89.drewN|apply IsS89.drew|apply IsS89.set_1|refine IsS89.far ?_ NB0_207.out _|refine IsS89.far ?_ NB0_212.out _|refine IsS89.far ?_ NB0_227.out _)|exact HI0.out)) (by (with_reducible repeat (first|apply y_e|apply y_f|apply y_g));exact (y_t (Kd.R_far (p:=⟨gb212,1,none⟩) (Kd.R_far (p:=⟨gb212,0,none⟩) (Kd.R_types HO_213000.out BK212.out (by decide)) (fun _ hk => hk.2) (.slice Ao26 t221.length co26)) (fun _ hk => hk.2) (.int .i64 t224)) (fun _ h_ => h_.1))) (by decide)) hk (fun _ h => h.2)) (fun _ h => h.1));have n1_:=Aside0.mk (y_t (Kd.R_keep (IsS89.apart (show IsS89 w0 _ g s0_0 t220 from by repeat (first|(with_reducible first|exact HI0.out|apply IsS89.alloc|apply IsS89.drewN|apply IsS89.drew|apply IsS89.set_1|refine IsS89.far ?_ NB0_207.out _|refine IsS89.far ?_ NB0_212.out _|refine IsS89.far ?_ NB0_227.out _)|exact HI0.out)) (by (with_reducible repeat (first|apply y_e|apply y_f|apply y_g));exact (y_t (Kd.R_far (p:=⟨gb212,1,none⟩) (Kd.R_far (p:=⟨gb212,0,none⟩) (Kd.R_types HO_228000.out BK212.out (by decide)) (fun _ hk => hk.2) (.slice Ao26 t221.length co26)) (fun _ hk => hk.2) (.int .i64 t224)) (fun _ h_ => h_.1))) (by decide)) hk (fun _ h => h.2)) (fun _ h => h.1));have n2_:=Aside0.mk (KeepBut.blk hk (g':=gb207) (o:=.cells #[.slice none 0 0,.int .i64 0] 29 (0,0)) (by (with_reducible repeat (first|refine y_b ?_ _|refine y_c ?_|refine y_d ?_ _));refine blk_far ?_ NB207_212.out _;(with_reducible repeat (first|refine y_b ?_ _|refine y_c ?_|refine y_d ?_ _));refine blk_far ?_ NB207_212.out _;(with_reducible repeat (first|refine y_b ?_ _|refine y_c ?_|refine y_d ?_ _));exact BK207.out) NB207_0.out (by simp));have n3_:=Aside0.mk (KeepBut.blk hk (g':=gb212) (o:=.cells #[.slice Ao26 t221.length co26,.int .i64 t224] 29 (0,0)) (by (with_reducible repeat (first|refine y_b ?_ _|refine y_c ?_|refine y_d ?_ _));refine blk_put (cs:=#[.slice Ao26 t221.length co26,.int .i64 x213001_1]) ?_ 1 _ rfl;(with_reducible repeat (first|refine y_b ?_ _|refine y_c ?_|refine y_d ?_ _));refine blk_put (cs:=#[.slice Ao19 x213000_1.length co19,.int .i64 x213001_1]) ?_ 0 _ rfl;(with_reducible repeat (first|refine y_b ?_ _|refine y_c ?_|refine y_d ?_ _));exact BK212.out) NB212_0.out (by simp));have n4_:=Aside0.mk (KeepBut.blk hk (g':=gb227) (o:=.cells #[.slice Ao26 t221.length co26,.int .i64 t224] 29 (0,0)) (by (with_reducible repeat (first|refine y_b ?_ _|refine y_c ?_|refine y_d ?_ _));refine blk_far ?_ NB227_212.out _;(with_reducible repeat (first|refine y_b ?_ _|refine y_c ?_|refine y_d ?_ _));refine blk_far ?_ NB227_212.out _;(with_reducible repeat (first|refine y_b ?_ _|refine y_c ?_|refine y_d ?_ _));exact BK227.out) NB227_0.out (by simp));have n5_:=Aside0.mk (KeepBut.trans (by repeat (first|(with_reducible first|exact HK.out|apply y_n|apply y_k|apply y_l|apply y_m|refine y_r ?_ GW207.out _|refine y_r ?_ GW212.out _|refine y_r ?_ GW227.out _)|exact HK.out)) hk (.inl rfl));have n6_:=Aside0.mk (hb);have n7_:=Aside0.mk (hi);clear HO_213000 HO_228000 BK207 BK212 BK227 HK HB HI0;have HO_213000:=n0_;have HO_228000:=n1_;have BK207:=n2_;have BK212:=n3_;have BK227:=n4_;have HK:=n5_;have HB:=n6_;have HI0:=n7_;clear n0_ n1_ n2_ n3_ n4_ n5_ n6_ n7_;(try clear hb);(try clear hb2);(try clear hk);(try clear hi)))
        go_roundg kj16
        case measure => have := HK1.out; have := HJ16.out; omega
        case rel => exact ⟨(wrap64 (x4_1 - 1)),(t229),(t221),(t224),(.slice Ao26 t221.length co26),(by first|rfl|(simp;done)|(simp [*];done)),H',⟨by have:=HK1.out;have:=HJ16.out;omega⟩,⟨by (with_reducible repeat (first|apply y_e|apply y_f|apply y_g));exact y_t HO_228000.out (fun _ hk => trivial)⟩,⟨by (with_reducible repeat (first|refine y_b ?_ _|refine y_c ?_|refine y_d ?_ _));exact BK207.out⟩,⟨by (with_reducible repeat (first|refine y_b ?_ _|refine y_c ?_|refine y_d ?_ _));exact BK212.out⟩,⟨by repeat (first|(with_reducible first|exact HI0.out|apply IsS89.alloc|apply IsS89.drewN|apply IsS89.drew|apply IsS89.set_1|refine IsS89.far ?_ NB0_207.out _|refine IsS89.far ?_ NB0_212.out _|refine IsS89.far ?_ NB0_227.out _)|exact HI0.out)⟩,⟨by repeat (first|(with_reducible first|exact HK.out|apply y_n|apply y_k|apply y_l|apply y_m|refine y_r ?_ GW207.out _|refine y_r ?_ GW212.out _|refine y_r ?_ GW227.out _)|exact HK.out)⟩,⟨by repeat (first|(with_reducible first|exact HB.out|apply y_h|apply y_i|apply y_j|refine y_s ?_ (IsS89.ge HI0.out)|refine y_s ?_ GE207.out|refine y_s ?_ GE212.out|refine y_s ?_ GE227.out)|exact HB.out)⟩⟩
      ·replace c30 := Bool.eq_false_iff.mpr c30
       subst c30
       have H1 : (spec_l15Pool.l0 kj16 (wrap64 (x4_1 - 1)) s0_0 t220 x213000_1 x213001_1) = some (r1,r2,r3):=by rw [if_neg (show ¬ (false = true) by decide)] at H;exact H
       clear H
       have H := H1
       clear H1
       have H' := Aside0.mk H
       clear H
       go_wp2
       go_roundg kj16
       case measure => have := HK1.out; have := HJ16.out; omega
       case rel => exact ⟨(wrap64 (x4_1 - 1)),(t220),(x213000_1),(x213001_1),(.slice Ao19 x213000_1.length co19),(by first|rfl|(simp;done)|(simp [*];done)),H',⟨by have:=HK1.out;have:=HJ16.out;omega⟩,⟨by (with_reducible repeat (first|apply y_e|apply y_f|apply y_g));exact y_t HO_213000.out (fun _ hk => trivial)⟩,⟨by (with_reducible repeat (first|refine y_b ?_ _|refine y_c ?_|refine y_d ?_ _));exact BK207.out⟩,⟨by (with_reducible repeat (first|refine y_b ?_ _|refine y_c ?_|refine y_d ?_ _));exact BK212.out⟩,⟨by repeat (first|(with_reducible first|exact HI0.out|apply IsS89.alloc|apply IsS89.drewN|apply IsS89.drew|apply IsS89.set_1|refine IsS89.far ?_ NB0_207.out _|refine IsS89.far ?_ NB0_212.out _|refine IsS89.far ?_ NB0_227.out _)|exact HI0.out)⟩,⟨by repeat (first|(with_reducible first|exact HK.out|apply y_n|apply y_k|apply y_l|apply y_m|refine y_r ?_ GW207.out _|refine y_r ?_ GW212.out _|refine y_r ?_ GW227.out _)|exact HK.out)⟩,⟨by repeat (first|(with_reducible first|exact HB.out|apply y_h|apply y_i|apply y_j|refine y_s ?_ (IsS89.ge HI0.out)|refine y_s ?_ GE207.out|refine y_s ?_ GE212.out|refine y_s ?_ GE227.out)|exact HB.out)⟩⟩
   ·rw [if_neg c12] at H
    have c12b0 : decide (0 < x4_1) = false:=decide_eq_false c12
    clear c12
    simp only [Option.some.injEq, Prod.mk.injEq] at H
    obtain ⟨rfl, rfl, rfl⟩ := H
    have hnb54 := NB212_207.out
    have hnc54 := NB207_212.out
    have hnb55 := NB212_0.out
    have hnc55 := NB0_212.out
    have hcz56_0 : wr.cell? ⟨gb212,0,none⟩ = some (u213000):=(blk_cell BK212.out 0).trans rfl
    have hcz56_1 : wr.cell? ⟨gb212,1,none⟩ = some (.int .i64 x213001_1):=(blk_cell BK212.out 1).trans rfl
    have hfz56_0 := blk_frozen BK212.out 0
    have hfz56_1 := blk_frozen BK212.out 1
    obtain ⟨Ao57, co57, eo57⟩ := Kd.R_slice HO_213000.out
    subst eo57
    have hnb58 := NB207_0.out
    have hnc58 := NB0_207.out
    have hcz59_0 : wr.cell? ⟨gb207,0,none⟩ = some (.slice none 0 0):=(blk_cell BK207.out 0).trans rfl
    have hcz59_1 : wr.cell? ⟨gb207,1,none⟩ = some (.int .i64 0):=(blk_cell BK207.out 1).trans rfl
    have hfz59_0 := blk_frozen BK207.out 0
    have hfz59_1 := blk_frozen BK207.out 1
    go_wp2
    refine bodyPost_ret (results_cell_row rfl _ _ gb207 29 #[.slice Ao57 x213000_1.length co57,.int .i64 x213001_1] (0,0) _ rfl (by (with_reducible repeat (first|refine y_b ?_ _|refine y_c ?_|refine y_d ?_ _));refine blk_put (cs:=#[.slice Ao57 x213000_1.length co57,.int .i64 0]) ?_ 1 _ rfl;(with_reducible repeat (first|refine y_b ?_ _|refine y_c ?_|refine y_d ?_ _));refine blk_put (cs:=#[.slice none 0 0,.int .i64 0]) ?_ 0 _ rfl;(with_reducible repeat (first|refine y_b ?_ _|refine y_c ?_|refine y_d ?_ _));exact BK207.out) Try.underlying29 rfl (by kernel_rfl)) rfl ?_
    exact ⟨_,by first|rfl|(simp [errW_none,errW_some] <;> rfl)|(simp [*,errW_none,errW_some] <;> rfl),by (with_reducible repeat (first|apply y_e|apply y_f|apply y_g));exact y_t (Kd.R_far (p:=⟨gb207,1,none⟩) (Kd.R_far (p:=⟨gb207,0,none⟩) (Kd.R_types HO_213000.out BK207.out (by decide)) (fun _ hk => hk.2) (.slice Ao57 x213000_1.length co57)) (fun _ hk => hk.2) (.int .i64 x213001_1)) (fun _ hk => trivial),by repeat (first|(with_reducible first|exact HI0.out|apply IsS89.alloc|apply IsS89.drewN|apply IsS89.drew|apply IsS89.set_1|refine IsS89.far ?_ NB0_207.out _|refine IsS89.far ?_ NB0_212.out _)|exact HI0.out),by repeat (first|(with_reducible first|exact HB.out|apply y_h|apply y_i|apply y_j|refine y_s ?_ (IsS89.ge HI0.out)|refine y_s ?_ GE207.out|refine y_s ?_ GE212.out)|exact HB.out),by repeat (first|(with_reducible first|exact HK.out|apply y_n|apply y_k|apply y_l|apply y_m|refine y_r ?_ GW207.out _|refine y_r ?_ GW212.out _)|exact HK.out)⟩

end Go.Proofs.Ytlfnjkcgefcidaa.PFnPoolLet
