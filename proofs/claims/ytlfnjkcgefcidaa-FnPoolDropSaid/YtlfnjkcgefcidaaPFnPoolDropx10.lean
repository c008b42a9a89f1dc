-- Written by a program of this session over the print's form. Lean checks it.
import Derived.Test.YtlfnjkcgefcidaaPFnPoolDropx0
import Derived.Test.YtlfnjkcgefcidaaPFnPoolDropx9
namespace Go.Proofs.Ytlfnjkcgefcidaa.PFnPoolDrop
open Go.RowKit Go.Proofs.YtlfnjkcgefcidaaW.PrintWords Go.Proofs.YtlfnjkcgefcidaaW.PrintLast Go.Proofs.YtlfnjkcgefcidaaW.PrintMore
attribute [local go_sem] max2_int min2_int max_two min_two max_three min_three max_four min_four   -- for this text's walks alone
set_option linter.unusedVariables false
set_option linter.unusedSimpArgs false

/-! ### spec_l10Drop: function 57 -/
def spec_l10Drop.l0 : Nat → Int → Int → List (S41) → Int → Option ((List (S41)) × Int)
 | 0, _, _, _, _ => none
 | k + 1, x1, x6, x155000, x155001 => if x6 < (x155000.length : Int) then (if 0 ≤ x6 then (if ((rd_T41 x155000 x6).f1) = x1 then (if ((rd_T41 x155000 x6).f3) = 0 then (spec_l10Drop.l0 k x1 (wrap64 (x6 + 1)) (x155000.set (x6 : Int).toNat (⟨0, 0, 0, 0, false⟩ : S41)) x155001) else (spec_l10Drop.l0 k x1 (wrap64 (x6 + 1)) x155000 x155001)) else (spec_l10Drop.l0 k x1 (wrap64 (x6 + 1)) x155000 x155001)) else (none)) else (some (x155000, x155001))
def spec_l10Drop.f (k : Nat) (l0_0 : List (S41)) (a0_1 : Int) (a1 : Int) : Option ((List (S41)) × Int) := (spec_l10Copy.f l0_0 a0_1).bind fun bt150 => (spec_l10Drop.l0 k a1 0 bt150.1 bt150.2)
theorem spec_l10Drop.mono_l : ∀ k, (∀ y0 y1 y2 y3, LeO (spec_l10Drop.l0 k y0 y1 y2 y3) (spec_l10Drop.l0 (k + 1) y0 y1 y2 y3))
 | 0 => fun _ _ _ _ r h => by simp [spec_l10Drop.l0] at h
 | k + 1 => by
  have ih0 := spec_l10Drop.mono_l k
  ·intro y0 y1 y2 y3
   unfold spec_l10Drop.l0
   repeat' first
   | (with_reducible exact ih0 _ _ _ _)
   | (with_reducible exact LeO.refl _)
   | (with_reducible exact LeO.none _)
   | (with_reducible refine LeO.ite ?_ ?_)
   | (with_reducible refine LeO.bind ?_ (fun _ => ?_))
   | exact ih0 _ _ _ _
   | exact LeO.none _
   | refine LeO.ite ?_ ?_
   | refine LeO.bind ?_ (fun _ => ?_)
theorem spec_l10Drop.mono : ∀ a0 a1 a2 k, LeO (spec_l10Drop.f k a0 a1 a2) (spec_l10Drop.f (k + 1) a0 a1 a2) := by
 intro a0 a1 a2 k;have ih0 := spec_l10Drop.mono_l k;unfold spec_l10Drop.f
 repeat' first
   | (with_reducible exact ih0 _ _ _ _)
   | (with_reducible exact LeO.refl _)
   | (with_reducible exact LeO.none _)
   | (with_reducible refine LeO.ite ?_ ?_)
   | (with_reducible refine LeO.bind ?_ (fun _ => ?_))
   | exact ih0 _ _ _ _
   | exact LeO.none _
   | refine LeO.ite ?_ ?_
   | refine LeO.bind ?_ (fun _ => ?_)
set_option maxHeartbeats 8000000 in
set_option maxRecDepth 100000 in
theorem spec_l10Drop.calls (k : Nat) (A0_0 : Option Addr) (c0_0 : Nat) (l0_0 : List (S41)) (a0_1 : Int) (a1 : Int) (r1 : List (S41)) (r2 : Int) (w : World) (hr0_0 : Kd.C k41 w A0_0 l0_0.length l0_0) (hc0_0 : l0_0.length ≤ c0_0) (h : spec_l10Drop.f k l0_0 a0_1 a1 = some (r1, r2)) :
  Calls Try.prog 57 #[.agg #[.slice A0_0 l0_0.length c0_0, .int .i64 a0_1], .int .i64 a1] w fun e w' => ∃ v0_ : Value, e = .returned (.agg #[v0_, .int .i64 r2]) ∧ Kd.R k41 41 w' w.heap.size (fun _ => True) v0_ r1 ∧ Below w.heap.size w w' := by
 have hu29 := Try.underlying29;have hu41 := Try.underlying41;have HR0_0 := z_a hr0_0;have HC0_0 := z_a hc0_0;clear hr0_0 hc0_0;have HB := z_a (Below.refl w.heap.size w);have H : ((spec_l10Copy.f l0_0 a0_1).bind fun bt150 => (spec_l10Drop.l0 k a1 0 bt150.1 bt150.2)) = some (r1,r2):=h;clear h;replace H := z_8 H;obtain ⟨⟨t150, t153⟩, A30, H⟩ := H;replace H : (spec_l10Drop.l0 k a1 0 t150 t153) = some (r1,r2):=H;have A3 := z_a A30;clear A30;have H' := z_a H;clear H
 go_enter Try.func57, Try.ntmps57
 go_wp2_with (first|((with_reducible refine gate_dst (N:=2) rfl ?_);refine box_event ?hg (N:=2) ?hd (cs:=#[.slice A0_0 l0_0.length c0_0,.int .i64 a0_1]) (t:=29) ?hr ?_;(case hd => rfl);(case hg => rfl);(case hr => first|(go_simp;done)|(go_simp;rfl));intro gb148 hg w4 hbox hb;have n0_:=z_a (z_f zB hb);have n1_:=z_a (hbox);have n2_:=z_a ((by rw [hg];exact (z_g zB) : w.heap.size ≤ gb148));have n3_:=z_a ((by rw [hg];exact (z_g zB) : w.heap.size ≤ gb148));clear HB;have HB:=n0_;have BK148:=n1_;have GW148:=n2_;have GE148:=n3_;clear n0_ n1_ n2_ n3_;clear hb hbox hg)|((with_reducible refine gate_dst (N:=4) rfl ?_);refine box_event ?hg (N:=4) ?hd (cs:=#[.slice none 0 0,.int .i64 0]) (t:=29) ?hr ?_;(case hd => rfl);(case hg => rfl);(case hr => first|(go_simp;done)|(go_simp;rfl));intro gb149 hg w5 hbox hb;have n0_:=z_a (z_d (g:=gb148) zK hb);have n1_:=z_a (z_f zB hb);have n2_:=z_a (hbox);have n3_:=z_a ((by rw [hg];exact (z_g zB) : w.heap.size ≤ gb149));have n4_:=z_a ((by rw [hg];exact (z_g zB) : w.heap.size ≤ gb149));have n5_:=z_a ((by rw [hg];exact Nat.ne_of_lt (blk_lt (g:=gb148) (o:=.cells #[.slice A0_0 l0_0.length c0_0,.int .i64 a0_1] 29 (0,0)) zK) : gb148 ≠ gb149));have n6_:=z_a ((by rw [hg];exact Nat.ne_of_gt (blk_lt (g:=gb148) (o:=.cells #[.slice A0_0 l0_0.length c0_0,.int .i64 a0_1] 29 (0,0)) zK) : gb149 ≠ gb148));clear BK148 HB;have BK148:=n0_;have HB:=n1_;have BK149:=n2_;have GW149:=n3_;have GE149:=n4_;have NB148_149:=n5_;have NB149_148:=n6_;clear n0_ n1_ n2_ n3_ n4_ n5_ n6_;clear hb hbox hg;have hnb6:=NB148_149.out;have hnc6:=NB149_148.out;have hcz7_0 : w5.cell? ⟨gb148,0,none⟩ = some (.slice A0_0 l0_0.length c0_0):=(z_b BK148.out 0).trans rfl;have hcz7_1 : w5.cell? ⟨gb148,1,none⟩ = some (.int .i64 a0_1):=(z_b BK148.out 1).trans rfl;have hfz7_0:=z_4 BK148.out 0;have hfz7_1:=z_4 BK148.out 1)|((with_reducible refine gate_callee (f:=54) rfl ?_);refine goesL_ (some 8) rfl rfl Try.func54 (by kernel_rfl) rfl #[.agg #[.slice A0_0 l0_0.length c0_0,.int .i64 a0_1]] rfl (by (try simp only [z_7,List.map_cons,List.map_nil]);first|done|rfl|(simp only [z_6,z_5];rfl)) ?_;(with_reducible refine (spec_l10Copy.calls _ _ l0_0 a0_1 t150 t153 _ ?side1 ?side2 A3.out).mono ?_);(case side1 => repeat (first|exact (Kd.C_below HR0_0.out HB.out)|(with_reducible refine y_o ?_ _)|(with_reducible refine y_p ?_ _)|(with_reducible refine y_q ?_)));(case side2 => exact HC0_0.out);rintro e w8 ⟨v151,rfl,ho0,hb⟩;refine ⟨_,rfl,?_⟩;have n0_:=z_a (Kd.R_lower ho0 (z_g zB));have n1_:=z_a (z_d (g:=gb148) zK hb);have n2_:=z_a (z_d (g:=gb149) zK hb);have n3_:=z_a (z_f zB hb);clear BK148 BK149 HB;have HO152:=n0_;have BK148:=n1_;have BK149:=n2_;have HB:=n3_;clear n0_ n1_ n2_ n3_;(try clear hb);(try clear hb2);(try clear hk);(try clear hi);(try clear ho0))|((with_reducible refine gate_dst (N:=5) rfl ?_);refine box_event ?hg (N:=5) ?hd (cs:=#[.slice none 0 0,.int .i64 0]) (t:=29) ?hr ?_;(case hd => rfl);(case hg => rfl);(case hr => first|(go_simp;done)|(go_simp;rfl));intro gb154 hg w9 hbox hb;have n0_:=z_a (Kd.R_below (by (with_reducible repeat (first|apply y_e|apply y_f|apply y_g));exact HO152.out) hb);have n1_:=z_a (z_d (g:=gb148) zK hb);have n2_:=z_a (z_d (g:=gb149) zK hb);have n3_:=z_a (z_f zB hb);have n4_:=z_a (hbox);have n5_:=z_a ((by rw [hg];exact (z_g zB) : w.heap.size ≤ gb154));have n6_:=z_a ((by rw [hg];exact (z_g zB) : w.heap.size ≤ gb154));have n7_:=z_a ((by rw [hg];exact Nat.ne_of_lt (blk_lt (g:=gb148) (o:=.cells #[.slice A0_0 l0_0.length c0_0,.int .i64 a0_1] 29 (0,0)) zK) : gb148 ≠ gb154));have n8_:=z_a ((by rw [hg];exact Nat.ne_of_gt (blk_lt (g:=gb148) (o:=.cells #[.slice A0_0 l0_0.length c0_0,.int .i64 a0_1] 29 (0,0)) zK) : gb154 ≠ gb148));have n9_:=z_a ((by rw [hg];exact Nat.ne_of_lt (blk_lt (g:=gb149) (o:=.cells #[.slice none 0 0,.int .i64 0] 29 (0,0)) zK) : gb149 ≠ gb154));have n10_:=z_a ((by rw [hg];exact Nat.ne_of_gt (blk_lt (g:=gb149) (o:=.cells #[.slice none 0 0,.int .i64 0] 29 (0,0)) zK) : gb154 ≠ gb149));clear HO152 BK148 BK149 HB;have HO152:=n0_;have BK148:=n1_;have BK149:=n2_;have HB:=n3_;have BK154:=n4_;have GW154:=n5_;have GE154:=n6_;have NB148_154:=n7_;have NB154_148:=n8_;have NB149_154:=n9_;have NB154_149:=n10_;clear n0_ n1_ n2_ n3_ n4_ n5_ n6_ n7_ n8_ n9_ n10_;clear hb hbox hg;obtain ⟨Ao10,co10,eo10⟩:=Kd.R_slice HO152.out;subst eo10;have hnb11:=NB154_148.out;have hnc11:=NB148_154.out;have hnb12:=NB154_149.out;have hnc12:=NB149_154.out;have hcz13_0 : w9.cell? ⟨gb154,0,none⟩ = some (.slice none 0 0):=(z_b BK154.out 0).trans rfl;have hcz13_1 : w9.cell? ⟨gb154,1,none⟩ = some (.int .i64 0):=(z_b BK154.out 1).trans rfl;have hfz13_0:=z_4 BK154.out 0;have hfz13_1:=z_4 BK154.out 1))
 go_loopg [6] k (fun kq v6 w' => ∃ (x6_1 : Int) (x155000_1 : List (S41)) (u155000 : Value),v6 = .int .i64 x6_1 ∧ Aside0 (spec_l10Drop.l0 kq a1 x6_1 x155000_1 t153 = some (r1,r2)) ∧ Aside0 (kq ≤ k) ∧ Aside0 (Kd.R k41 41 w' w.heap.size (fun _ => True) u155000 x155000_1) ∧ Aside0 (w'.heap[gb148]? = some (.cells #[(.slice A0_0 l0_0.length c0_0),.int .i64 a0_1] 29 (0,0))) ∧ Aside0 (w'.heap[gb149]? = some (.cells #[(.slice none 0 0),.int .i64 0] 29 (0,0))) ∧ Aside0 (w'.heap[gb154]? = some (.cells #[u155000,.int .i64 t153] 29 (0,0))) ∧ Aside0 (Below w.heap.size w w'))
 case atStart => exact ⟨(0),(t150),(.slice Ao10 t150.length co10),(by first|rfl|(simp;done)|(simp [*];done)),H',⟨Nat.le_refl _⟩,⟨by (with_reducible repeat (first|apply y_e|apply y_f|apply y_g));exact y_t (Kd.R_far (p:=⟨gb154,1,none⟩) (Kd.R_far (p:=⟨gb154,0,none⟩) (Kd.R_types HO152.out BK154.out (by decide)) (fun _ hk => hk.2) (.slice Ao10 t150.length co10)) (fun _ hk => hk.2) (.int .i64 t153)) (fun _ hk => trivial)⟩,⟨by (with_reducible repeat (first|refine y_b ?_ _|refine y_c ?_|refine y_d ?_ _));refine blk_far ?_ NB148_154.out _;(with_reducible repeat (first|refine y_b ?_ _|refine y_c ?_|refine y_d ?_ _));refine blk_far ?_ NB148_154.out _;(with_reducible repeat (first|refine y_b ?_ _|refine y_c ?_|refine y_d ?_ _));exact BK148.out⟩,⟨by (with_reducible repeat (first|refine y_b ?_ _|refine y_c ?_|refine y_d ?_ _));refine blk_far ?_ NB149_154.out _;(with_reducible repeat (first|refine y_b ?_ _|refine y_c ?_|refine y_d ?_ _));refine blk_far ?_ NB149_154.out _;(with_reducible repeat (first|refine y_b ?_ _|refine y_c ?_|refine y_d ?_ _));exact BK149.out⟩,⟨by (with_reducible repeat (first|refine y_b ?_ _|refine y_c ?_|refine y_d ?_ _));refine blk_put (cs:=#[.slice Ao10 t150.length co10,.int .i64 0]) ?_ 1 _ rfl;(with_reducible repeat (first|refine y_b ?_ _|refine y_c ?_|refine y_d ?_ _));refine blk_put (cs:=#[.slice none 0 0,.int .i64 0]) ?_ 0 _ rfl;(with_reducible repeat (first|refine y_b ?_ _|refine y_c ?_|refine y_d ?_ _));exact BK154.out⟩,⟨zB⟩⟩
 case round =>
  clear H'
  try clear c1
  try clear p2
  try clear c5
  try clear c6
  try clear c11
  try clear c12
  try clear hcz13_0
  try clear hcz13_1
  try clear hcz7_0
  try clear hcz7_1
  try clear hfz13_0
  try clear hfz13_1
  try clear hfz7_0
  try clear hfz7_1
  obtain ⟨x6_1,x155000_1,u155000,rfl,HA,HK1,HO_155000,BK148,BK149,BK154,HB⟩:=hrel;cases gk with
  | zero => exact absurd HA.out (by simp [spec_l10Drop.l0])
  | succ k1 =>
   have H := HA.out;clear HA;simp only [spec_l10Drop.l0] at H
   by_cases c14 : x6_1 < (x155000_1.length : Int)
   ·rw [if_pos c14] at H;have c14b0 : decide (x6_1 < (x155000_1.length : Int)) = true:=z_e c14;clear c14
    by_cases c15 : 0 ≤ x6_1
    ·rw [if_pos c15] at H;have c15b0 : decide (0 ≤ x6_1) = true := z_e c15;clear c15
     by_cases c16 : ((rd_T41 x155000_1 x6_1).f1) = a1
     ·rw [if_pos c16] at H;have c16b0 : (((rd_T41 x155000_1 x6_1).f1) == a1) = true:=beq_iff_eq.mpr c16;have c16b1 : (((rd_T41 x155000_1 x6_1).f1) != a1) = false:=bne_eq_false_iff_eq.mpr c16;clear c16
      by_cases c17 : ((rd_T41 x155000_1 x6_1).f3) = 0
      ·rw [if_pos c17] at H;have c17b0 : (((rd_T41 x155000_1 x6_1).f3) == 0) = true:=beq_iff_eq.mpr c17;have c17b1 : (((rd_T41 x155000_1 x6_1).f3) != 0) = false:=bne_eq_false_iff_eq.mpr c17;clear c17;obtain ⟨y157,hy157⟩ : ∃ y_ : List (S41),y_ = (x155000_1.set (x6_1 : Int).toNat (⟨0,0,0,0,false⟩ : S41)):=⟨_,rfl⟩;replace H : (spec_l10Drop.l0 k1 a1 (wrap64 (x6_1 + 1)) y157 t153) = some (r1,r2):=by first|(rw [hy157];with_reducible exact H)|(have H2_:=(Option.bind_some _ _).symm.trans H;rw [hy157];with_reducible exact H2_)|(have H2_:=(Option.bind_some _ _).symm.trans H;with_reducible exact H2_)|with_reducible exact H|(rw [hy157];exact H)|exact H
       have Ny157 := z_a hy157;clear hy157;have H' := z_a H;clear H;have hnb19 := NB154_148.out;have hnc19 := NB148_154.out;have hnb20 := NB154_149.out;have hnc20 := NB149_154.out;have hcz21_0 : wr.cell? ⟨gb154,0,none⟩ = some (u155000):=(z_b BK154.out 0).trans rfl;have hcz21_1 : wr.cell? ⟨gb154,1,none⟩ = some (.int .i64 t153):=(z_b BK154.out 1).trans rfl;have hfz21_0 := z_4 BK154.out 0;have hfz21_1 := z_4 BK154.out 1;obtain ⟨Ao22, co22, eo22⟩ := Kd.R_slice HO_155000.out;subst eo22;have p155 : 0 ≤ (x6_1 : Int):=z_9 (by first|(with_reducible assumption)|assumption);have q155 : x6_1 < (x155000_1.length : Int):=z_9 (by first|(with_reducible assumption)|assumption);obtain ⟨ad155,e155,hx155_0,hx155_1,hx155_2,hx155_3,hx155_4⟩:=at_T41 (Kd.R_reads' HO_155000.out).2.2 x6_1 p155 q155;cases e155;replace p155 := eq_true p155;replace q155 := eq_true q155;have p156 : 0 ≤ (x6_1 : Int):=z_9 (by first|(with_reducible assumption)|assumption);have q156 : x6_1 < (x155000_1.length : Int):=z_9 (by first|(with_reducible assumption)|assumption);obtain ⟨ad156,e156,hx156_0,hx156_1,hx156_2,hx156_3,hx156_4⟩:=at_T41 (Kd.R_reads' HO_155000.out).2.2 x6_1 p156 q156;obtain rfl : ad155 = ad156 := (by injection e156);replace p156 := eq_true p156;replace q156 := eq_true q156;have p18 : 0 ≤ (x6_1 : Int):=z_9 (by first|(with_reducible assumption)|assumption);have q18 : (x6_1 : Int) < ((x155000_1.length : Int) : Int):=z_9 (by first|(with_reducible assumption)|assumption)
       obtain ⟨go18,co18,eo18,gb18,gl18,cl18,HG18⟩:=Kd.R_form HO_155000.out (by omega)
       (first|cases eo18|(injection eo18 with ea_ en_ ec_;(first|subst ea_|(injection ea_ with ea_;subst ea_));subst ec_;clear en_))
       have GB18 := z_a gb18;have GG18 := z_a HG18;clear gb18 gl18 HG18
       (first | simp only [add_plain] at hx155_0 | skip)
       (first | simp only [add_plain] at hx155_1 | skip)
       (first | simp only [add_plain] at hx155_2 | skip)
       (first | simp only [add_plain] at hx155_3 | skip)
       (first | simp only [add_plain] at hx155_4 | skip)
       (first | simp only [add_plain] at hx156_0 | skip)
       (first | simp only [add_plain] at hx156_1 | skip)
       (first | simp only [add_plain] at hx156_2 | skip)
       (first | simp only [add_plain] at hx156_3 | skip)
       (first | simp only [add_plain] at hx156_4 | skip)
       obtain ⟨ce18,hcl18,hM18,hcc18,hfr18⟩:=Kd.R_elem HO_155000.out z41 (x6_1 : Int) p18 q18;obtain rfl := k41_openM hM18;have hx18_0 : wr.cell? ⟨go18,(x6_1 : Int).toNat * 5,none⟩ = some (.int .i64 ((rd_T41 x155000_1 x6_1).f0)):=hcc18 0 _ rfl;have hx18_1 : wr.cell? ⟨go18,(x6_1 : Int).toNat * 5 + 1,none⟩ = some (.int .i64 ((rd_T41 x155000_1 x6_1).f1)):=hcc18 1 _ rfl;have hx18_2 : wr.cell? ⟨go18,(x6_1 : Int).toNat * 5 + 2,none⟩ = some (.int .i64 ((rd_T41 x155000_1 x6_1).f2)):=hcc18 2 _ rfl;have hx18_3 : wr.cell? ⟨go18,(x6_1 : Int).toNat * 5 + 3,none⟩ = some (.int .i64 ((rd_T41 x155000_1 x6_1).f3)):=hcc18 3 _ rfl;have hx18_4 : wr.cell? ⟨go18,(x6_1 : Int).toNat * 5 + 4,none⟩ = some (.bool ((rd_T41 x155000_1 x6_1).f4)):=hcc18 4 _ rfl;have hf18_0 : wr.frozen? ⟨go18,(x6_1 : Int).toNat * 5,none⟩ = false:=hfr18 0;have hf18_1 : wr.frozen? ⟨go18,(x6_1 : Int).toNat * 5 + 1,none⟩ = false:=hfr18 1;have hf18_2 : wr.frozen? ⟨go18,(x6_1 : Int).toNat * 5 + 2,none⟩ = false:=hfr18 2;have hf18_3 : wr.frozen? ⟨go18,(x6_1 : Int).toNat * 5 + 3,none⟩ = false:=hfr18 3;have hf18_4 : wr.frozen? ⟨go18,(x6_1 : Int).toNat * 5 + 4,none⟩ = false:=hfr18 4;clear hcl18 hcc18 hfr18 hM18;replace p18 := eq_true p18;replace q18 := eq_true q18;have HX23:=z_a (show Kd.R k41 41 wr w.heap.size (fun _ => True) (.slice (some ⟨go18,0,none⟩) x155000_1.length co22) x155000_1 from (by (with_reducible repeat (first|apply y_e|apply y_f|apply y_g));exact HO_155000.out))
       obtain ⟨ce23,hcl23,hM23,hcc23,hfr23⟩:=Kd.R_elem HX23.out z41 (x6_1 : Int) (z_9 (by first|(with_reducible assumption)|assumption)) (by have h_ : (x6_1 : Int) < ((x155000_1.length : Int) : Int):=z_9 (by first|(with_reducible assumption)|assumption);first|exact h_|(have e_:=(Kd.R_reads' HO_155000.out).1;omega)|simpa using h_);obtain rfl := k41_openM hM23;have HP23:=Kd.R_seg HX23.out (x6_1 : Int) (z_9 (by first|(with_reducible assumption)|assumption)) (by have h_ : (x6_1 : Int) < ((x155000_1.length : Int) : Int):=z_9 (by first|(with_reducible assumption)|assumption);first|exact h_|(have e_:=(Kd.R_reads' HO_155000.out).1;omega)|simpa using h_) (seg:=[.int .i64 0,.int .i64 0,.int .i64 0,.int .i64 0,.bool false]) (j:=0) hcl23 hcc23 (show 5 ≤ 5 from by decide) (x':=(⟨0,0,0,0,false⟩ : S41)) (k41_mkM _ _ _ (⟨0,0,0,0,false⟩ : S41) ) (fun _ hk => hk);have hx23_0 := hcc23 0 _ rfl
       (try simp only [show (k41).sz = 5 from rfl,Nat.mul_one,Nat.add_zero] at hx23_0)
       have hf23_0 := hfr23 0
       (try simp only [show (k41).sz = 5 from rfl,Nat.mul_one,Nat.add_zero] at hf23_0)
       have hx23_1 := hcc23 1 _ rfl
       (try simp only [show (k41).sz = 5 from rfl,Nat.mul_one,Nat.add_zero] at hx23_1)
       have hf23_1 := hfr23 1
       (try simp only [show (k41).sz = 5 from rfl,Nat.mul_one,Nat.add_zero] at hf23_1)
       have hx23_2 := hcc23 2 _ rfl
       (try simp only [show (k41).sz = 5 from rfl,Nat.mul_one,Nat.add_zero] at hx23_2)
       have hf23_2 := hfr23 2
       (try simp only [show (k41).sz = 5 from rfl,Nat.mul_one,Nat.add_zero] at hf23_2)
       have hx23_3 := hcc23 3 _ rfl
       (try simp only [show (k41).sz = 5 from rfl,Nat.mul_one,Nat.add_zero] at hx23_3)
       have hf23_3 := hfr23 3
       (try simp only [show (k41).sz = 5 from rfl,Nat.mul_one,Nat.add_zero] at hf23_3)
       have hx23_4 := hcc23 4 _ rfl
       (try simp only [show (k41).sz = 5 from rfl,Nat.mul_one,Nat.add_zero] at hx23_4)
       have hf23_4 := hfr23 4
       (try simp only [show (k41).sz = 5 from rfl,Nat.mul_one,Nat.add_zero] at hf23_4)
       clear hcl23 hcc23 hfr23 hM23
       go_wp2_with (first|((with_reducible refine gate_store (t:=41) (p:=37) rfl ?_);refine store_event (t:=41) (p:=37) (v:=?vo_w24) (w1:=(((((wr.setCell ⟨go18,(x6_1 : Int).toNat * 5,none⟩ (.int .i64 0)).setCell ⟨go18,(x6_1 : Int).toNat * 5 + 1,none⟩ (.int .i64 0)).setCell ⟨go18,(x6_1 : Int).toNat * 5 + 2,none⟩ (.int .i64 0)).setCell ⟨go18,(x6_1 : Int).toNat * 5 + 3,none⟩ (.int .i64 0)).setCell ⟨go18,(x6_1 : Int).toNat * 5 + 4,none⟩ (.bool false))) ?hg ?ho ?hn ?hr ?_;(case ho => rfl);(case hg => rfl);(case hn => rfl);(case hr => first|(go_simp;done)|(go_simp;rfl));intro w24 hw;have hg : wr.grownBy w24 (some go18):=(by rw [hw];exact HP23.2);have hp_ : Kd.R k41 41 w24 w.heap.size (fun _ => True) (.slice (some ⟨go18,0,none⟩) x155000_1.length co22) y157:=(by rw [hw,Ny157.out];exact HP23.1);clear HP23;have n0_:=z_a (hp_);have n1_:=z_a (blk_grown (g:=gb148) zK hg (Kd.R_ne HO_155000.out BK148.out (by decide)));have n2_:=z_a (blk_grown (g:=gb149) zK hg (Kd.R_ne HO_155000.out BK149.out (by decide)));have n3_:=z_a (blk_grown (g:=gb154) zK hg (Kd.R_ne HO_155000.out BK154.out (by decide)));have n4_:=z_a ((by rw [hw];exact y_s (y_s (y_s (y_s (y_s (HB.out) GB18.out) GB18.out) GB18.out) GB18.out) GB18.out : Below w.heap.size w w24));clear HO_155000 BK148 BK149 BK154 HB;have HO_155000:=n0_;have BK148:=n1_;have BK149:=n2_;have BK154:=n3_;have HB:=n4_;clear n0_ n1_ n2_ n3_ n4_;clear hg hw hp_))
       go_roundg k1
       case measure => have := HK1.out; omega
       case rel => exact ⟨(wrap64 (x6_1 + 1)),(y157),(.slice (some ⟨go18,0,none⟩) x155000_1.length co22),(by first|rfl|(simp;done)|(simp [*];done)),H',⟨by have:=HK1.out;omega⟩,⟨by (with_reducible repeat (first|apply y_e|apply y_f|apply y_g));exact HO_155000.out⟩,⟨by (with_reducible repeat (first|refine y_b ?_ _|refine y_c ?_|refine y_d ?_ _));exact BK148.out⟩,⟨by (with_reducible repeat (first|refine y_b ?_ _|refine y_c ?_|refine y_d ?_ _));exact BK149.out⟩,⟨by (with_reducible repeat (first|refine y_b ?_ _|refine y_c ?_|refine y_d ?_ _));exact BK154.out⟩,⟨zB⟩⟩
      ·rw [if_neg c17] at H;have c17b0 : (((rd_T41 x155000_1 x6_1).f3) == 0) = false:=beq_eq_false_iff_ne.mpr c17;have c17b1 : (((rd_T41 x155000_1 x6_1).f3) != 0) = true:=bne_iff_ne.mpr c17;have H' := z_a H;clear H;have hnb25 := NB154_148.out;have hnc25 := NB148_154.out;have hnb26 := NB154_149.out;have hnc26 := NB149_154.out;have hcz27_0 : wr.cell? ⟨gb154,0,none⟩ = some (u155000):=(z_b BK154.out 0).trans rfl;have hcz27_1 : wr.cell? ⟨gb154,1,none⟩ = some (.int .i64 t153):=(z_b BK154.out 1).trans rfl;have hfz27_0 := z_4 BK154.out 0;have hfz27_1 := z_4 BK154.out 1;obtain ⟨Ao28, co28, eo28⟩ := Kd.R_slice HO_155000.out;subst eo28;have p155 : 0 ≤ (x6_1 : Int):=z_9 (by first|(with_reducible assumption)|assumption);have q155 : x6_1 < (x155000_1.length : Int):=z_9 (by first|(with_reducible assumption)|assumption);obtain ⟨ad155,e155,hx155_0,hx155_1,hx155_2,hx155_3,hx155_4⟩:=at_T41 (Kd.R_reads' HO_155000.out).2.2 x6_1 p155 q155;cases e155;replace p155 := eq_true p155;replace q155 := eq_true q155;have p156 : 0 ≤ (x6_1 : Int):=z_9 (by first|(with_reducible assumption)|assumption);have q156 : x6_1 < (x155000_1.length : Int):=z_9 (by first|(with_reducible assumption)|assumption);obtain ⟨ad156,e156,hx156_0,hx156_1,hx156_2,hx156_3,hx156_4⟩:=at_T41 (Kd.R_reads' HO_155000.out).2.2 x6_1 p156 q156;obtain rfl : ad155 = ad156 := (by injection e156);replace p156 := eq_true p156;replace q156 := eq_true q156
       go_wp2
       go_roundg k1
       case measure => have := HK1.out; omega
       case rel => exact ⟨(wrap64 (x6_1 + 1)),(x155000_1),(.slice (some ad155) x155000_1.length co28),(by first|rfl|(simp;done)|(simp [*];done)),H',⟨by have:=HK1.out;omega⟩,⟨by (with_reducible repeat (first|apply y_e|apply y_f|apply y_g));exact HO_155000.out⟩,⟨by (with_reducible repeat (first|refine y_b ?_ _|refine y_c ?_|refine y_d ?_ _));exact BK148.out⟩,⟨by (with_reducible repeat (first|refine y_b ?_ _|refine y_c ?_|refine y_d ?_ _));exact BK149.out⟩,⟨by (with_reducible repeat (first|refine y_b ?_ _|refine y_c ?_|refine y_d ?_ _));exact BK154.out⟩,⟨zB⟩⟩
     ·rw [if_neg c16] at H;have c16b0 : (((rd_T41 x155000_1 x6_1).f1) == a1) = false:=beq_eq_false_iff_ne.mpr c16;have c16b1 : (((rd_T41 x155000_1 x6_1).f1) != a1) = true:=bne_iff_ne.mpr c16;have H' := z_a H;clear H;have hnb29 := NB154_148.out;have hnc29 := NB148_154.out;have hnb30 := NB154_149.out;have hnc30 := NB149_154.out;have hcz31_0 : wr.cell? ⟨gb154,0,none⟩ = some (u155000):=(z_b BK154.out 0).trans rfl;have hcz31_1 : wr.cell? ⟨gb154,1,none⟩ = some (.int .i64 t153):=(z_b BK154.out 1).trans rfl;have hfz31_0 := z_4 BK154.out 0;have hfz31_1 := z_4 BK154.out 1;obtain ⟨Ao32, co32, eo32⟩ := Kd.R_slice HO_155000.out;subst eo32;have p155 : 0 ≤ (x6_1 : Int):=z_9 (by first|(with_reducible assumption)|assumption);have q155 : x6_1 < (x155000_1.length : Int):=z_9 (by first|(with_reducible assumption)|assumption);obtain ⟨ad155,e155,hx155_0,hx155_1,hx155_2,hx155_3,hx155_4⟩:=at_T41 (Kd.R_reads' HO_155000.out).2.2 x6_1 p155 q155;cases e155;replace p155 := eq_true p155;replace q155 := eq_true q155
      go_wp2
      go_roundg k1
      case measure => have := HK1.out; omega
      case rel => exact ⟨(wrap64 (x6_1 + 1)),(x155000_1),(.slice (some ad155) x155000_1.length co32),(by first|rfl|(simp;done)|(simp [*];done)),H',⟨by have:=HK1.out;omega⟩,⟨by (with_reducible repeat (first|apply y_e|apply y_f|apply y_g));exact HO_155000.out⟩,⟨by (with_reducible repeat (first|refine y_b ?_ _|refine y_c ?_|refine y_d ?_ _));exact BK148.out⟩,⟨by (with_reducible repeat (first|refine y_b ?_ _|refine y_c ?_|refine y_d ?_ _));exact BK149.out⟩,⟨by (with_reducible repeat (first|refine y_b ?_ _|refine y_c ?_|refine y_d ?_ _));exact BK154.out⟩,⟨zB⟩⟩
    ·rw [if_neg c15] at H;exact absurd H (by simp)
   ·rw [if_neg c14] at H;have c14b0 : decide (x6_1 < (x155000_1.length : Int)) = false:=decide_eq_false c14;clear c14;simp only [Option.some.injEq, Prod.mk.injEq] at H;obtain ⟨rfl, rfl⟩ := H;have hnb33 := NB154_148.out;have hnc33 := NB148_154.out;have hnb34 := NB154_149.out;have hnc34 := NB149_154.out;have hcz35_0 : wr.cell? ⟨gb154,0,none⟩ = some (u155000):=(z_b BK154.out 0).trans rfl;have hcz35_1 : wr.cell? ⟨gb154,1,none⟩ = some (.int .i64 t153):=(z_b BK154.out 1).trans rfl;have hfz35_0 := z_4 BK154.out 0;have hfz35_1 := z_4 BK154.out 1;obtain ⟨Ao36, co36, eo36⟩ := Kd.R_slice HO_155000.out;subst eo36;have hnb37 := NB149_148.out;have hnc37 := NB148_149.out;have hcz38_0 : wr.cell? ⟨gb149,0,none⟩ = some (.slice none 0 0):=(z_b BK149.out 0).trans rfl;have hcz38_1 : wr.cell? ⟨gb149,1,none⟩ = some (.int .i64 0):=(z_b BK149.out 1).trans rfl;have hfz38_0 := z_4 BK149.out 0;have hfz38_1 := z_4 BK149.out 1
    go_wp2
    refine bodyPost_ret (results_cell_row rfl _ _ gb149 29 #[.slice Ao36 x155000_1.length co36,.int .i64 t153] (0,0) _ rfl (by (with_reducible repeat (first|refine y_b ?_ _|refine y_c ?_|refine y_d ?_ _));refine blk_put (cs:=#[.slice Ao36 x155000_1.length co36,.int .i64 0]) ?_ 1 _ rfl;(with_reducible repeat (first|refine y_b ?_ _|refine y_c ?_|refine y_d ?_ _));refine blk_put (cs:=#[.slice none 0 0,.int .i64 0]) ?_ 0 _ rfl;(with_reducible repeat (first|refine y_b ?_ _|refine y_c ?_|refine y_d ?_ _));exact BK149.out) Try.underlying29 rfl (by kernel_rfl)) rfl ?_;exact ⟨_,by first|rfl|(simp [errW_none,errW_some] <;> rfl)|(simp [*,errW_none,errW_some] <;> rfl),by (with_reducible repeat (first|apply y_e|apply y_f|apply y_g));exact y_t (Kd.R_far (p:=⟨gb149,1,none⟩) (Kd.R_far (p:=⟨gb149,0,none⟩) (Kd.R_types HO_155000.out BK149.out (by decide)) (fun _ hk => hk.2) (.slice Ao36 x155000_1.length co36)) (fun _ hk => hk.2) (.int .i64 t153)) (fun _ hk => trivial),zB⟩

end Go.Proofs.Ytlfnjkcgefcidaa.PFnPoolDrop
