-- Written by a program of this session over the print's form. Lean checks it.
import Derived.Test.YtlfnjkcgefcidaaPFnPoolDropx0
namespace Go.Proofs.Ytlfnjkcgefcidaa.PFnPoolDrop
open Go.RowKit Go.Proofs.YtlfnjkcgefcidaaW.PrintWords Go.Proofs.YtlfnjkcgefcidaaW.PrintLast Go.Proofs.YtlfnjkcgefcidaaW.PrintMore
attribute [local go_sem] max2_int min2_int max_two min_two max_three min_three max_four min_four   -- for this text's walks alone
set_option linter.unusedVariables false
set_option linter.unusedSimpArgs false

/-! ### spec_l10New: function 61 -/
def spec_l10New.f  : Option ((List (S41)) × Int) := if 8 ≤ 7036874417766 then (some ((List.replicate 8 z41), 0)) else (none)
set_option maxHeartbeats 8000000 in
set_option maxRecDepth 100000 in
theorem spec_l10New.calls  (r1 : List (S41)) (r2 : Int) (w : World) (h : spec_l10New.f  = some (r1, r2)) :
  Calls Try.prog 61 #[] w fun e w' => ∃ v0_ : Value, e = .returned (.agg #[v0_, .int .i64 r2]) ∧ Kd.R k41 41 w' w.heap.size (fun _ => True) v0_ r1 ∧ Below w.heap.size w w' := by
 have hu29 := Try.underlying29;have HB := z_a (Below.refl w.heap.size w);have H : (if 8 ≤ 7036874417766 then (some ((List.replicate 8 z41),0)) else (none)) = some (r1,r2):=h;clear h
 by_cases c1 : 8 ≤ 7036874417766
 ·rw [if_pos c1] at H;have c1b0 := eq_true c1;have c1b1 : decide (8 ≤ 7036874417766) = true:=z_e c1;clear c1;obtain ⟨y240,hy240⟩ : ∃ y_ : List (S41),y_ = (List.replicate 8 z41):=⟨_,rfl⟩;replace H : (some (y240,0)) = some (r1,r2):=by first|(rw [hy240];with_reducible exact H)|(have H2_:=(Option.bind_some _ _).symm.trans H;rw [hy240];with_reducible exact H2_)|(have H2_:=(Option.bind_some _ _).symm.trans H;with_reducible exact H2_)|with_reducible exact H|(rw [hy240];exact H)|exact H
  have Ny240 := z_a hy240;clear hy240;simp only [Option.some.injEq, Prod.mk.injEq] at H;obtain ⟨rfl, rfl⟩ := H
  go_enter Try.func61, Try.ntmps61
  go_wp2_with (first|((with_reducible refine gate_dst (N:=0) rfl ?_);refine box_event ?hg (N:=0) ?hd (cs:=#[.slice none 0 0,.int .i64 0]) (t:=29) ?hr ?_;(case hd => rfl);(case hg => rfl);(case hr => first|(go_simp;done)|(go_simp;rfl));intro gb239 hg w2 hbox hb;have n0_:=z_a (z_f zB hb);have n1_:=z_a (hbox);have n2_:=z_a ((by rw [hg];exact (z_g zB) : w.heap.size ≤ gb239));have n3_:=z_a ((by rw [hg];exact (z_g zB) : w.heap.size ≤ gb239));clear HB;have HB:=n0_;have BK239:=n1_;have GW239:=n2_;have GE239:=n3_;clear n0_ n1_ n2_ n3_;clear hb hbox hg)|((with_reducible refine gate_dst (N:=1) rfl ?_);refine Kd.R_make k41 _ 41 rfl (N:=1) rfl 27 _ _ rfl 8 rfl rfl Try.underlying27 (.agg #[(.int .i64 0),(.int .i64 0),(.int .i64 0),(.int .i64 0),(.bool false)]) 40 info41 rfl (by decide) (by omega) z41 (ok:=fun _ => True) (okp:=fun _ => True) (k41_mkM _ _ _ z41 ) (fun _ hk => hk) trivial (by omega) (by omega) (Below.refl _ _) (Nat.le_refl _) ?_;intro v241 w3 ho4 hb hg_ hnew_;clear hg_ hnew_;(first|rw [← Ny240.out] at ho4|(simp only [Int.reduceToNat] at ho4;rw [← Ny240.out] at ho4));have n0_:=z_a (Kd.R_lower ho4 (z_g zB));have n1_:=z_a (z_d (g:=gb239) zK hb);have n2_:=z_a (z_f zB hb);clear BK239 HB;have HO242:=n0_;have BK239:=n1_;have HB:=n2_;clear n0_ n1_ n2_;clear hb ho4;obtain ⟨Ao5,co5,eo5⟩:=Kd.R_slice HO242.out;subst eo5;have hcz6_0 : w3.cell? ⟨gb239,0,none⟩ = some (.slice none 0 0):=(z_b BK239.out 0).trans rfl;have hcz6_1 : w3.cell? ⟨gb239,1,none⟩ = some (.int .i64 0):=(z_b BK239.out 1).trans rfl;have hfz6_0:=z_4 BK239.out 0;have hfz6_1:=z_4 BK239.out 1))
  refine bodyPost_ret (results_cell_row rfl _ _ gb239 29 #[.slice Ao5 y240.length co5,.int .i64 0] (0,0) _ rfl (by (with_reducible repeat (first|refine y_b ?_ _|refine y_c ?_|refine y_d ?_ _));refine blk_put (cs:=#[.slice Ao5 y240.length co5,.int .i64 0]) ?_ 1 _ rfl;(with_reducible repeat (first|refine y_b ?_ _|refine y_c ?_|refine y_d ?_ _));refine blk_put (cs:=#[.slice none 0 0,.int .i64 0]) ?_ 0 _ rfl;(with_reducible repeat (first|refine y_b ?_ _|refine y_c ?_|refine y_d ?_ _));exact BK239.out) Try.underlying29 rfl (by kernel_rfl)) rfl ?_;exact ⟨_,by first|rfl|(simp [errW_none,errW_some] <;> rfl)|(simp [*,errW_none,errW_some] <;> rfl),by (with_reducible repeat (first|apply y_e|apply y_f|apply y_g));exact y_t (Kd.R_far (p:=⟨gb239,1,none⟩) (Kd.R_far (p:=⟨gb239,0,none⟩) (Kd.R_types HO242.out BK239.out (by decide)) (fun _ hk => hk.2) (.slice Ao5 y240.length co5)) (fun _ hk => hk.2) (.int .i64 0)) (fun _ hk => trivial),zB⟩
 rw [if_neg c1] at H;exact absurd H (by simp)

end Go.Proofs.Ytlfnjkcgefcidaa.PFnPoolDrop
