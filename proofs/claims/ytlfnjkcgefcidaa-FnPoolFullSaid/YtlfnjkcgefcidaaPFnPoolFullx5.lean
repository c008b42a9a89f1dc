-- Written by a program of this session over the print's form. Lean checks it.
import Derived.Test.YtlfnjkcgefcidaaPFnPoolFullx0
import Derived.Test.YtlfnjkcgefcidaaPFnPoolFullx3
import Derived.Test.YtlfnjkcgefcidaaPFnPoolFullx4
namespace Go.Proofs.Ytlfnjkcgefcidaa.PFnPoolFull
open Go.RowKit Go.Proofs.YtlfnjkcgefcidaaW.PrintWords Go.Proofs.YtlfnjkcgefcidaaW.PrintLast Go.Proofs.YtlfnjkcgefcidaaW.PrintMore
attribute [local go_sem] max2_int min2_int max_two min_two max_three min_three max_four min_four   -- for this text's walks alone
set_option linter.unusedVariables false
set_option linter.unusedSimpArgs false

/-! ### impl_PoolOf: function 21 -/
def impl_PoolOf.f (k : Nat) (l0_0 : List (S41)) (a0_1 : Int) (a1 : Int) : Option (Int) := (impl_PoolOk.f k l0_0 a0_1).bind fun t119 => (if t119 = true then ((impl_Pool_of.f k l0_0 a0_1 a1).bind fun t120 => (some t120)) else (some 0))
theorem impl_PoolOf.mono : ∀ a0 a1 a2 k, LeO (impl_PoolOf.f k a0 a1 a2) (impl_PoolOf.f (k + 1) a0 a1 a2) := by
 intro a0 a1 a2 k;unfold impl_PoolOf.f
 repeat' first
   | (with_reducible exact impl_PoolOk.mono _ _ _)
   | (with_reducible exact impl_Pool_of.mono _ _ _ _)
   | (with_reducible exact LeO.refl _)
   | (with_reducible exact LeO.none _)
   | (with_reducible refine LeO.ite ?_ ?_)
   | (with_reducible refine LeO.bind ?_ (fun _ => ?_))
   | exact impl_PoolOk.mono _ _ _
   | exact impl_Pool_of.mono _ _ _ _
   | exact LeO.none _
   | refine LeO.ite ?_ ?_
   | refine LeO.bind ?_ (fun _ => ?_)
set_option maxHeartbeats 8000000 in
set_option maxRecDepth 100000 in
theorem impl_PoolOf.calls (k : Nat) (A0_0 : Option Addr) (c0_0 : Nat) (l0_0 : List (S41)) (a0_1 : Int) (a1 : Int) (r : Int) (w : World) (hr0_0 : Kd.C k41 w A0_0 l0_0.length l0_0) (hc0_0 : l0_0.length ≤ c0_0) (h : impl_PoolOf.f k l0_0 a0_1 a1 = some r) :
  Calls Try.prog 21 #[.agg #[.slice A0_0 l0_0.length c0_0, .int .i64 a0_1], .int .i64 a1] w fun e w' => e = .returned (.int .i64 r) ∧ Below w.heap.size w w' := by
 have hu29 := Try.underlying29;have HR0_0 := z_a hr0_0;have HC0_0 := z_a hc0_0;clear hr0_0 hc0_0;have HB := z_a (Below.refl w.heap.size w);have H : ((impl_PoolOk.f k l0_0 a0_1).bind fun t119 => (if t119 = true then ((impl_Pool_of.f k l0_0 a0_1 a1).bind fun t120 => (some t120)) else (some 0))) = some r:=h;clear h;replace H := z_8 H;obtain ⟨t119, A30, H⟩ := H;replace H : (if t119 = true then ((impl_Pool_of.f k l0_0 a0_1 a1).bind fun t120 => (some t120)) else (some 0)) = some r:=H;have A3 := z_a A30;clear A30
 by_cases c4 : t119 = true
 ·subst c4;have H1 : ((impl_Pool_of.f k l0_0 a0_1 a1).bind fun t120 => (some t120)) = some r:=by rw [if_pos rfl] at H;exact H
  clear H;have H := H1;clear H1;replace H := z_8 H;obtain ⟨t120, A50, H⟩ := H;replace H : (some t120) = some r := H;have A5 := z_a A50;clear A50;obtain rfl := Option.some.inj H
  go_enter Try.func21, Try.ntmps21
  go_wp2_with (first|((with_reducible refine gate_dst (N:=2) rfl ?_);refine box_event ?hg (N:=2) ?hd (cs:=#[.slice A0_0 l0_0.length c0_0,.int .i64 a0_1]) (t:=29) ?hr ?_;(case hd => rfl);(case hg => rfl);(case hr => first|(go_simp;done)|(go_simp;rfl));intro gb118 hg w6 hbox hb;have n0_:=z_a (z_f zB hb);have n1_:=z_a (hbox);have n2_:=z_a ((by rw [hg];exact (z_g zB) : w.heap.size ≤ gb118));have n3_:=z_a ((by rw [hg];exact (z_g zB) : w.heap.size ≤ gb118));clear HB;have HB:=n0_;have BK118:=n1_;have GW118:=n2_;have GE118:=n3_;clear n0_ n1_ n2_ n3_;clear hb hbox hg;have hcz7_0 : w6.cell? ⟨gb118,0,none⟩ = some (.slice A0_0 l0_0.length c0_0):=(z_b BK118.out 0).trans rfl;have hcz7_1 : w6.cell? ⟨gb118,1,none⟩ = some (.int .i64 a0_1):=(z_b BK118.out 1).trans rfl;have hfz7_0:=z_4 BK118.out 0;have hfz7_1:=z_4 BK118.out 1)|((with_reducible refine gate_callee (f:=18) rfl ?_);refine goesL_ (some 6) rfl rfl Try.func18 (by kernel_rfl) rfl #[.agg #[.slice A0_0 l0_0.length c0_0,.int .i64 a0_1]] rfl (by (try simp only [z_7,List.map_cons,List.map_nil]);first|done|rfl|(simp only [z_6,z_5];rfl)) ?_;(with_reducible refine (impl_PoolOk.calls k _ _ l0_0 a0_1 true _ ?side1 ?side2 A3.out).mono ?_);(case side1 => repeat (first|exact (Kd.C_below HR0_0.out HB.out)|(with_reducible refine y_o ?_ _)|(with_reducible refine y_p ?_ _)|(with_reducible refine y_q ?_)));(case side2 => exact HC0_0.out);rintro e w8 ⟨rfl,hb⟩;refine ⟨_,rfl,?_⟩;have n0_:=z_a (z_d (g:=gb118) zK hb);have n1_:=z_a (z_f zB hb);clear BK118 HB;have BK118:=n0_;have HB:=n1_;clear n0_ n1_;(try clear hb);(try clear hb2);(try clear hk);(try clear hi);have hcz9_0 : w8.cell? ⟨gb118,0,none⟩ = some (.slice A0_0 l0_0.length c0_0):=(z_b BK118.out 0).trans rfl;have hcz9_1 : w8.cell? ⟨gb118,1,none⟩ = some (.int .i64 a0_1):=(z_b BK118.out 1).trans rfl;have hfz9_0:=z_4 BK118.out 0;have hfz9_1:=z_4 BK118.out 1)|((with_reducible refine gate_callee (f:=48) rfl ?_);refine goesL_ (some 10) rfl rfl Try.func48 (by kernel_rfl) rfl #[.agg #[.slice A0_0 l0_0.length c0_0,.int .i64 a0_1],.int .i64 a1] rfl (by (try simp only [z_7,List.map_cons,List.map_nil]);first|done|rfl|(simp only [z_6,z_5];rfl)) ?_;(with_reducible refine (impl_Pool_of.calls k _ _ l0_0 a0_1 a1 t120 _ ?side1 ?side2 A5.out).mono ?_);(case side1 => repeat (first|exact (Kd.C_below HR0_0.out HB.out)|(with_reducible refine y_o ?_ _)|(with_reducible refine y_p ?_ _)|(with_reducible refine y_q ?_)));(case side2 => exact HC0_0.out);rintro e w10 ⟨rfl,hb⟩;refine ⟨_,rfl,?_⟩;have n0_:=z_a (z_d (g:=gb118) zK hb);have n1_:=z_a (z_f zB hb);clear BK118 HB;have BK118:=n0_;have HB:=n1_;clear n0_ n1_;(try clear hb);(try clear hb2);(try clear hk);(try clear hi)))
  go_ret
  exact ⟨by first|rfl|(simp [errW_none,errW_some] <;> rfl)|(simp [*,errW_none,errW_some] <;> rfl),zB⟩
 replace c4 := Bool.eq_false_iff.mpr c4;subst c4;have H1 : (some 0) = some r:=by rw [if_neg (show ¬ (false = true) by decide)] at H;exact H
 clear H;have H := H1;clear H1;obtain rfl := Option.some.inj H
 go_enter Try.func21, Try.ntmps21
 go_wp2_with (first|((with_reducible refine gate_dst (N:=2) rfl ?_);refine box_event ?hg (N:=2) ?hd (cs:=#[.slice A0_0 l0_0.length c0_0,.int .i64 a0_1]) (t:=29) ?hr ?_;(case hd => rfl);(case hg => rfl);(case hr => first|(go_simp;done)|(go_simp;rfl));intro gb118 hg w11 hbox hb;have n0_:=z_a (z_f zB hb);have n1_:=z_a (hbox);have n2_:=z_a ((by rw [hg];exact (z_g zB) : w.heap.size ≤ gb118));have n3_:=z_a ((by rw [hg];exact (z_g zB) : w.heap.size ≤ gb118));clear HB;have HB:=n0_;have BK118:=n1_;have GW118:=n2_;have GE118:=n3_;clear n0_ n1_ n2_ n3_;clear hb hbox hg;have hcz12_0 : w11.cell? ⟨gb118,0,none⟩ = some (.slice A0_0 l0_0.length c0_0):=(z_b BK118.out 0).trans rfl;have hcz12_1 : w11.cell? ⟨gb118,1,none⟩ = some (.int .i64 a0_1):=(z_b BK118.out 1).trans rfl;have hfz12_0:=z_4 BK118.out 0;have hfz12_1:=z_4 BK118.out 1)|((with_reducible refine gate_callee (f:=18) rfl ?_);refine goesL_ (some 6) rfl rfl Try.func18 (by kernel_rfl) rfl #[.agg #[.slice A0_0 l0_0.length c0_0,.int .i64 a0_1]] rfl (by (try simp only [z_7,List.map_cons,List.map_nil]);first|done|rfl|(simp only [z_6,z_5];rfl)) ?_;(with_reducible refine (impl_PoolOk.calls k _ _ l0_0 a0_1 false _ ?side1 ?side2 A3.out).mono ?_);(case side1 => repeat (first|exact (Kd.C_below HR0_0.out HB.out)|(with_reducible refine y_o ?_ _)|(with_reducible refine y_p ?_ _)|(with_reducible refine y_q ?_)));(case side2 => exact HC0_0.out);rintro e w13 ⟨rfl,hb⟩;refine ⟨_,rfl,?_⟩;have n0_:=z_a (z_d (g:=gb118) zK hb);have n1_:=z_a (z_f zB hb);clear BK118 HB;have BK118:=n0_;have HB:=n1_;clear n0_ n1_;(try clear hb);(try clear hb2);(try clear hk);(try clear hi)))
 go_ret
 exact ⟨by first|rfl|(simp [errW_none,errW_some] <;> rfl)|(simp [*,errW_none,errW_some] <;> rfl),zB⟩

/-! ### impl_clonePool: function 53 -/
def impl_clonePool.f (l0_0 : List (S41)) (a0_1 : Int) : Option ((List (S41)) × Int) := (some (([] : List (S41)) : List (S41))).bind fun y123 => (if y123.length + l0_0.length < 3518437208883 then (some ((y123 ++ l0_0), a0_1)) else (none))
def impl_clonePool.T1 : Bool × List (List Nat × List Nat) := (true, [([], []), ([], []), ([1], [1]), ([0, 2], [0, 2]), ([], []), ([4], [4]), ([3, 5], [3, 5]), ([6, 3, 0, 1, 2, 3, 4, 5, 6], [6])])
def impl_clonePool.B1 : List Nat := [0, 0, 2, 7, 0, 16, 63, 127]
theorem impl_clonePool.tab1 : rtab .any (opsOf Try.f53 1) = impl_clonePool.T1 := by kernel_rfl
theorem impl_clonePool.bits1 : waitsOk impl_clonePool.T1.2 impl_clonePool.B1 = true := by kernel_rfl
set_option maxHeartbeats 8000000 in
set_option maxRecDepth 100000 in
theorem impl_clonePool.calls (A0_0 : Option Addr) (c0_0 : Nat) (l0_0 : List (S41)) (a0_1 : Int) (r1 : List (S41)) (r2 : Int) (w : World) (hr0_0 : Kd.C k41 w A0_0 l0_0.length l0_0) (hc0_0 : l0_0.length ≤ c0_0) (h : impl_clonePool.f l0_0 a0_1 = some (r1, r2)) :
  Calls Try.prog 53 #[.agg #[.slice A0_0 l0_0.length c0_0, .int .i64 a0_1]] w fun e w' => ∃ v0_ : Value, e = .returned (.agg #[v0_, .int .i64 r2]) ∧ Kd.R k41 41 w' w.heap.size (fun _ => True) v0_ r1 ∧ Below w.heap.size w w' := by
 have hu29 := Try.underlying29;have HR0_0 := z_a hr0_0;have HC0_0 := z_a hc0_0;clear hr0_0 hc0_0;have HB := z_a (Below.refl w.heap.size w);have H : ((some (([] : List (S41)) : List (S41))).bind fun y123 => (if y123.length + l0_0.length < 3518437208883 then (some ((y123++l0_0),a0_1)) else (none))) = some (r1,r2):=h;clear h;obtain ⟨y123,hy123⟩ : ∃ y_ : List (S41),y_ = (([] : List (S41))):=⟨_,rfl⟩;replace H : (if y123.length + l0_0.length < 3518437208883 then (some ((y123++l0_0),a0_1)) else (none)) = some (r1,r2):=by first|(rw [hy123];with_reducible exact H)|(have H2_:=(Option.bind_some _ _).symm.trans H;rw [hy123];with_reducible exact H2_)|(have H2_:=(Option.bind_some _ _).symm.trans H;with_reducible exact H2_)|with_reducible exact H|(rw [hy123];exact H)|exact H
 have Ny123 := z_a hy123;clear hy123
 by_cases c2 : y123.length + l0_0.length < 3518437208883
 ·rw [if_pos c2] at H;have LMc2 := z_a c2;clear c2;obtain ⟨y126,hy126⟩ : ∃ y_ : List (S41),y_ = (y123++l0_0):=⟨_,rfl⟩;replace H : (some (y126,a0_1)) = some (r1,r2):=by first|(rw [hy126];with_reducible exact H)|(have H2_:=(Option.bind_some _ _).symm.trans H;rw [hy126];with_reducible exact H2_)|(have H2_:=(Option.bind_some _ _).symm.trans H;with_reducible exact H2_)|with_reducible exact H|(rw [hy126];exact H)|exact H
  have Ny126 := z_a hy126;clear hy126;simp only [Option.some.injEq, Prod.mk.injEq] at H;obtain ⟨rfl, rfl⟩ := H
  go_enter Try.func53, Try.ntmps53
  try go_wp2_with (first|((with_reducible refine gate_dst (N:=1) rfl ?_);refine box_event ?hg (N:=1) ?hd (cs:=#[.slice A0_0 l0_0.length c0_0,.int .i64 a0_1]) (t:=29) ?hr ?_;(case hd => rfl);(case hg => rfl);(case hr => first|(go_simp;done)|(go_simp;rfl));intro gb121 hg w3 hbox hb;have n0_:=z_a (z_f zB hb);have n1_:=z_a (hbox);have n2_:=z_a ((by rw [hg];exact (z_g zB) : w.heap.size ≤ gb121));have n3_:=z_a ((by rw [hg];exact (z_g zB) : w.heap.size ≤ gb121));clear HB;have HB:=n0_;have BK121:=n1_;have GW121:=n2_;have GE121:=n3_;clear n0_ n1_ n2_ n3_;clear hb hbox hg)|((with_reducible refine gate_dst (N:=2) rfl ?_);refine box_event ?hg (N:=2) ?hd (cs:=#[.slice none 0 0,.int .i64 0]) (t:=29) ?hr ?_;(case hd => rfl);(case hg => rfl);(case hr => first|(go_simp;done)|(go_simp;rfl));intro gb122 hg w4 hbox hb;have n0_:=z_a (z_d (g:=gb121) zK hb);have n1_:=z_a (z_f zB hb);have n2_:=z_a (hbox);have n3_:=z_a ((by rw [hg];exact (z_g zB) : w.heap.size ≤ gb122));have n4_:=z_a ((by rw [hg];exact (z_g zB) : w.heap.size ≤ gb122));have n5_:=z_a ((by rw [hg];exact Nat.ne_of_lt (blk_lt (g:=gb121) (o:=.cells #[.slice A0_0 l0_0.length c0_0,.int .i64 a0_1] 29 (0,0)) zK) : gb121 ≠ gb122));have n6_:=z_a ((by rw [hg];exact Nat.ne_of_gt (blk_lt (g:=gb121) (o:=.cells #[.slice A0_0 l0_0.length c0_0,.int .i64 a0_1] 29 (0,0)) zK) : gb122 ≠ gb121));clear BK121 HB;have BK121:=n0_;have HB:=n1_;have BK122:=n2_;have GW122:=n3_;have GE122:=n4_;have NB121_122:=n5_;have NB122_121:=n6_;clear n0_ n1_ n2_ n3_ n4_ n5_ n6_;clear hb hbox hg))
  have n0_ := z_a (y_c BK121.out);have n1_ := z_a (y_c BK122.out);have n2_ := z_a (y_j HB.out);clear BK121;clear BK122;clear HB;have BK121 := n0_;have BK122 := n1_;have HB := n2_;clear n0_ n1_ n2_;refine start_ (n:=8) (S:=fun w' => w'.cell? ⟨gb121,0,none⟩ = some (.slice A0_0 l0_0.length c0_0) ∧ w'.cell? ⟨gb121,1,none⟩ = some (.int .i64 a0_1)) (ds:=[]) #[false,false,false,false,false,false,false,false] (by kernel_rfl) rfl rfl ⟨(z_b BK121.out 0).trans rfl,(z_b BK121.out 1).trans rfl⟩ (fun hHeld => ?_);refine with_tabW impl_clonePool.tab1 impl_clonePool.bits1 (fun HT_ HW_ => ?_);generalize w4.drew = w5 at BK121 BK122 HB hHeld ⊢;refine pure_ (i:=1) (N:=some 4) (v:=?_) (a':=?_) (Mb 8 2) rfl rfl (any_of HT_.out (by kernel_rfl)) (fun _ _ _ h => h) (Or.inl ⟨by rfl,?_⟩) ?_ ?_;rotate_left
  ·intro w';go_simp;with_reducible rfl
  rotate_left
  ·simp only [Act.put,z_1,z_2,z_3,i64_w,i32_w];rfl
  refine pure_ (i:=4) (N:=some 7) (v:=?_) (a':=?_) (Mb 8 18) rfl rfl (any_of HT_.out (by kernel_rfl)) (fun _ _ _ h => h) (Or.inl ⟨by rfl,?_⟩) ?_ ?_;rotate_left
  ·intro w';go_simp;with_reducible rfl
  rotate_left
  ·simp only [Act.put,z_1,z_2,z_3,i64_w,i32_w];rfl
  refine take_ (i:=2) (N:=some 5) (v:=?_) (a':=?_) (Mb 8 22) rfl rfl (take_ofW HT_.out HW_.out (by kernel_rfl)) (fun _ _ _ h => h) (Or.inl ⟨by rfl,?_⟩) hHeld ?_ ?_;rotate_left
  ·rintro w' ⟨s0, s1⟩;go_simp;with_reducible rfl
  rotate_left
  ·simp only [Act.put,z_1,z_2,z_3,i64_w,i32_w];rfl
  refine take_ (i:=5) (N:=some 8) (v:=?_) (a':=?_) (Mb 8 54) rfl rfl (take_ofW HT_.out HW_.out (by kernel_rfl)) (fun _ _ _ h => h) (Or.inl ⟨by rfl,?_⟩) hHeld ?_ ?_;rotate_left
  ·rintro w' ⟨s0, s1⟩;go_simp;with_reducible rfl
  rotate_left
  ·simp only [Act.put,z_1,z_2,z_3,i64_w,i32_w];rfl
  refine one_ (i:=0) (N:=some 3) (Mb 8 55) rfl rfl (one_of HT_.out (by kernel_rfl)) (by decide) (fun K hK => ?_);refine Kd.R_lit_step k41 _ 41 ?hg (N:=3) ?hd (xs:=([] : List (S41))) (inner:=[]) (ok:=fun _ => True) (okp:=fun _ => True) ?hr ?hp (fun _ hk => hk) trivial (Below.refl _ _) (Nat.le_refl _) (by simp) ?_;(case hd => rfl);(case hg => rfl);(case hr => first|(go_simp;done)|(go_simp;rfl));(case hp => exact (Reps.none _ _));intro v124 w6 ho7 hb hg_ hnew_;clear hg_ hnew_
  (first|rw [← Ny123.out] at ho7|(simp only [Int.reduceToNat] at ho7;rw [← Ny123.out] at ho7))
  have n0_:=z_a (Kd.R_lower ho7 (z_g zB));have n1_:=z_a (z_d (g:=gb121) zK hb);have n2_:=z_a (z_d (g:=gb122) zK hb);have n3_:=z_a (z_f zB hb);clear BK121;clear BK122;clear HB;have HO125 := n0_;have BK121 := n1_;have BK122 := n2_;have HB := n3_;clear n0_ n1_ n2_ n3_;clear hb ho7;refine hK.out _ _ ⟨(z_b BK121.out 0).trans rfl,(z_b BK121.out 1).trans rfl⟩ (fun hHeld => ?_);clear hK K;refine norm_ (a' := ?_) ?_ ?_;rotate_left
  ·show Act.put _ (some 3) _ = _;simp only [Act.put,z_1,z_2,z_3,i64_w,i32_w];rfl
  refine one_ (i:=3) (N:=some 6) (Mb 8 63) rfl rfl (one_of HT_.out (by kernel_rfl)) (by decide) (fun K hK => ?_);refine Kd.R_append_rows_step k41 (w0:=w) w.heap.size (by rfl) (.tmp 3) (.tmp 5) 27 41 (.agg #[(.int .i64 0),(.int .i64 0),(.int .i64 0),(.int .i64 0),(.bool false)]) 40 rfl Try.underlying27 info41 rfl (by decide) (by omega) v124 y123 l0_0 _ _ _ (fun _ => True) (fun _ => False) rfl rfl ?aO ?aR (fun _ _ h => h) (fun _ h => h.elim) ?aF ?aB ?aS ?aL ?_
  (case aR => repeat (first|exact (Kd.C_below HR0_0.out HB.out)|(with_reducible refine y_o ?_ _)|(with_reducible refine y_p ?_ _)|(with_reducible refine y_q ?_)))
  (case aB => exact zB)
  (case aF => exact (fun _ _ => trivial))
  (case aO => exact (by (with_reducible repeat (first|apply y_e|apply y_f|apply y_g));exact HO125.out))
  (case aS => exact (z_g zB))
  (case aL => have := LMc2.out; omega)
  intro v127 w8 ho hb hg hat;rw [← Ny126.out] at ho;have n0_:=z_a (blk_grown (g:=gb121) zK hg (Kd.R_ne HO125.out BK121.out (by decide)));have n1_:=z_a (blk_grown (g:=gb122) zK hg (Kd.R_ne HO125.out BK122.out (by decide)));have n2_ := z_a (hb);have n3_ := z_a (ho);clear BK121;clear BK122;clear HB;clear HO125;have BK121 := n0_;have BK122 := n1_;have HB := n2_;have HO128 := n3_;clear n0_ n1_ n2_ n3_;clear ho hb hg hat;obtain ⟨Ao9, co9, eo9⟩ := Kd.R_slice HO128.out
  (first|subst eo9|(injection eo9 with f1_ f2_ f3_;have f4_:=f1_.symm;have f5_:=f3_.symm;clear f1_ f2_ f3_;subst f4_;subst f5_))
  refine hK.out _ _ ⟨(z_b BK121.out 0).trans rfl,(z_b BK121.out 1).trans rfl⟩ (fun hHeld => ?_);clear hK K;refine norm_ (a' := ?_) ?_ ?_;rotate_left
  ·show Act.put _ (some 6) _ = _;simp only [Act.put,z_1,z_2,z_3,i64_w,i32_w];rfl
  refine pure_ (i:=6) (N:=some 9) (v:=?_) (a':=?_) (Mb 8 127) rfl rfl (any_of HT_.out (by kernel_rfl)) (fun _ _ _ h => h) (Or.inl ⟨by rfl,?_⟩) ?_ ?_;rotate_left
  ·intro w';go_simp;with_reducible rfl
  rotate_left
  ·simp only [Act.put,z_1,z_2,z_3,i64_w,i32_w];rfl
  refine one_ (i:=7) (N:=none) (Mb 8 255) rfl rfl (one_of HT_.out (by kernel_rfl)) (by decide) (fun K hK => ?_);have hs10 : w8.cell? ⟨gb122,0,none⟩ = some (.slice none 0 0):=(z_b BK122.out 0).trans rfl;have hfs10 := z_4 BK122.out 0;have hns10_0 := NB121_122.out;have hms10_0 := NB122_121.out;have hs11 : w8.cell? ⟨gb122,1,none⟩ = some (.int .i64 0):=(z_b BK122.out 1).trans rfl;have hfs11 := z_4 BK122.out 1;have hns11_0 := NB121_122.out;have hms11_0 := NB122_121.out;refine skip_ (w1 := ?_) (by rfl) rfl ?_ ?_;rotate_left
  ·go_simp;rfl
  refine hK.out _ _ ⟨((cell_far (p:=⟨gb122,_,none⟩) NB121_122.out _).trans (((cell_far (p:=⟨gb122,_,none⟩) NB121_122.out _).trans (hHeld.1)))),((cell_far (p:=⟨gb122,_,none⟩) NB121_122.out _).trans (((cell_far (p:=⟨gb122,_,none⟩) NB121_122.out _).trans (hHeld.2))))⟩ (fun hHeld => ?_);clear hK K;refine done_ (done_of HT_.out (by kernel_rfl)) ?_
  try go_wp2
  refine bodyPost_ret (results_cell_row rfl _ _ gb122 29 #[.slice Ao9 y126.length co9,.int .i64 a0_1] (0,0) _ rfl (by (with_reducible repeat (first|refine y_b ?_ _|refine y_c ?_|refine y_d ?_ _));refine blk_put (cs:=#[.slice Ao9 y126.length co9,.int .i64 0]) ?_ 1 _ rfl;(with_reducible repeat (first|refine y_b ?_ _|refine y_c ?_|refine y_d ?_ _));refine blk_put (cs:=#[.slice none 0 0,.int .i64 0]) ?_ 0 _ rfl;(with_reducible repeat (first|refine y_b ?_ _|refine y_c ?_|refine y_d ?_ _));exact BK122.out) Try.underlying29 rfl (by kernel_rfl)) rfl ?_;exact ⟨_,by first|rfl|(simp [errW_none,errW_some] <;> rfl)|(simp [*,errW_none,errW_some] <;> rfl),by (with_reducible repeat (first|apply y_e|apply y_f|apply y_g));exact y_t (Kd.R_far (p:=⟨gb122,1,none⟩) (Kd.R_far (p:=⟨gb122,0,none⟩) (Kd.R_types HO128.out BK122.out (by decide)) (fun _ hk => hk.2) (.slice Ao9 y126.length co9)) (fun _ hk => hk.2) (.int .i64 a0_1)) (fun _ hk => trivial),zB⟩
 rw [if_neg c2] at H;exact absurd H (by simp)

end Go.Proofs.Ytlfnjkcgefcidaa.PFnPoolFull
