-- Written by a program of this session over the print's form. Lean checks it.
import Derived.Test.YtlfnjkcgefcidaaPFnExactPoolTakex0
import Derived.Test.YtlfnjkcgefcidaaPFnExactPoolTakex13
namespace Go.Proofs.Ytlfnjkcgefcidaa.PFnExactPoolTake
open Go.RowKit Go.Proofs.YtlfnjkcgefcidaaW.PrintWords Go.Proofs.YtlfnjkcgefcidaaW.PrintLast Go.Proofs.YtlfnjkcgefcidaaW.PrintMore
attribute [local go_sem] max2_int min2_int max_two min_two max_three min_three max_four min_four   -- for this text's walks alone
set_option linter.unusedVariables false
set_option linter.unusedSimpArgs false

/-! ### spec_l10Victim: function 77 -/
mutual
def spec_l10Victim.l0 : Nat → Int → Bool → Int → List (S41) → Int → Option ((List (S41)) × Int × Int)
 | 0, _, _, _, _, _ => none
 | k + 1, x1, x6, x7, x231000, x231001 => if x7 < 17 then (if 0 ≤ x231001 then (if x231001 < (x231000.length : Int) then (if x6 = true then (if ((rd_T41 x231000 x231001).f1) = 0 then (spec_l10Victim.j1 k x1 x6 x7 x231001 true x231000 (Int.tmod (wrap64 (x231001 + 1)) 8) ((rd_T41 x231000 x231001).f0) ((rd_T41 x231000 x231001).f1) ((rd_T41 x231000 x231001).f2) ((rd_T41 x231000 x231001).f3) ((rd_T41 x231000 x231001).f4)) else (spec_l10Victim.j1 k x1 x6 x7 x231001 (((rd_T41 x231000 x231001).f0) != x1) x231000 (Int.tmod (wrap64 (x231001 + 1)) 8) ((rd_T41 x231000 x231001).f0) ((rd_T41 x231000 x231001).f1) ((rd_T41 x231000 x231001).f2) ((rd_T41 x231000 x231001).f3) ((rd_T41 x231000 x231001).f4))) else (spec_l10Victim.j1 k x1 x6 x7 x231001 false x231000 (Int.tmod (wrap64 (x231001 + 1)) 8) ((rd_T41 x231000 x231001).f0) ((rd_T41 x231000 x231001).f1) ((rd_T41 x231000 x231001).f2) ((rd_T41 x231000 x231001).f3) ((rd_T41 x231000 x231001).f4))) else (none)) else (none)) else (some (x231000, x231001, (-1)))
def spec_l10Victim.j1 : Nat → Int → Bool → Int → Int → Bool → List (S41) → Int → Int → Int → Int → Int → Bool → Option ((List (S41)) × Int × Int)
 | 0, _, _, _, _, _, _, _, _, _, _, _, _ => none
 | k + 1, x1, x6, x7, x8, x31, x231000, x231001, x235000, x235001, x235002, x235003, x235004 => if x31 = true then (spec_l10Victim.l0 k x1 x6 (wrap64 (x7 + 1)) x231000 x231001) else (if x235003 > 0 then (spec_l10Victim.l0 k x1 x6 (wrap64 (x7 + 1)) x231000 x231001) else (if x235004 = true then (if 0 ≤ x8 then (if x8 < (x231000.length : Int) then (spec_l10Victim.l0 k x1 x6 (wrap64 (x7 + 1)) (x231000.set (x8 : Int).toNat (⟨(rd_T41 x231000 x8).f0, (rd_T41 x231000 x8).f1, (rd_T41 x231000 x8).f2, (rd_T41 x231000 x8).f3, false⟩ : S41)) x231001) else (none)) else (none)) else (some (x231000, x231001, x8))))
end
def spec_l10Victim.f (k : Nat) (l0_0 : List (S41)) (a0_1 : Int) (a1 : Int) : Option ((List (S41)) × Int × Int) := (spec_l10Of.f k l0_0 a0_1 a1).bind fun t232 => (spec_l10Victim.l0 k a1 (decide (t232 ≥ 5)) 0 l0_0 a0_1)
theorem spec_l10Victim.mono_l : ∀ k, (∀ y0 y1 y2 y3 y4, LeO (spec_l10Victim.l0 k y0 y1 y2 y3 y4) (spec_l10Victim.l0 (k + 1) y0 y1 y2 y3 y4)) ∧ (∀ y0 y1 y2 y3 y4 y5 y6 y7 y8 y9 y10 y11, LeO (spec_l10Victim.j1 k y0 y1 y2 y3 y4 y5 y6 y7 y8 y9 y10 y11) (spec_l10Victim.j1 (k + 1) y0 y1 y2 y3 y4 y5 y6 y7 y8 y9 y10 y11))
 | 0 => ⟨fun _ _ _ _ _ r h => by simp [spec_l10Victim.l0] at h, fun _ _ _ _ _ _ _ _ _ _ _ _ r h => by simp [spec_l10Victim.j1] at h⟩
 | k + 1 => by
  obtain ⟨ih0, ih1⟩ := spec_l10Victim.mono_l k
  refine ⟨?_, ?_⟩
  ·intro y0 y1 y2 y3 y4
   unfold spec_l10Victim.l0
   repeat' first
   | (with_reducible exact ih0 _ _ _ _ _)
   | (with_reducible exact ih1 _ _ _ _ _ _ _ _ _ _ _ _)
   | (with_reducible exact spec_l10Of.mono _ _ _ _)
   | (with_reducible exact LeO.refl _)
   | (with_reducible exact LeO.none _)
   | (with_reducible refine LeO.ite ?_ ?_)
   | (with_reducible refine LeO.bind ?_ (fun _ => ?_))
   | exact ih0 _ _ _ _ _
   | exact ih1 _ _ _ _ _ _ _ _ _ _ _ _
   | exact spec_l10Of.mono _ _ _ _
   | exact LeO.none _
   | refine LeO.ite ?_ ?_
   | refine LeO.bind ?_ (fun _ => ?_)
  ·intro y0 y1 y2 y3 y4 y5 y6 y7 y8 y9 y10 y11
   unfold spec_l10Victim.j1
   repeat' first
   | (with_reducible exact ih0 _ _ _ _ _)
   | (with_reducible exact ih1 _ _ _ _ _ _ _ _ _ _ _ _)
   | (with_reducible exact spec_l10Of.mono _ _ _ _)
   | (with_reducible exact LeO.refl _)
   | (with_reducible exact LeO.none _)
   | (with_reducible refine LeO.ite ?_ ?_)
   | (with_reducible refine LeO.bind ?_ (fun _ => ?_))
   | exact ih0 _ _ _ _ _
   | exact ih1 _ _ _ _ _ _ _ _ _ _ _ _
   | exact spec_l10Of.mono _ _ _ _
   | exact LeO.none _
   | refine LeO.ite ?_ ?_
   | refine LeO.bind ?_ (fun _ => ?_)
theorem spec_l10Victim.mono : ∀ a0 a1 a2 k, LeO (spec_l10Victim.f k a0 a1 a2) (spec_l10Victim.f (k + 1) a0 a1 a2) := by
 intro a0 a1 a2 k
 obtain ⟨ih0, ih1⟩ := spec_l10Victim.mono_l k
 unfold spec_l10Victim.f
 repeat' first
   | (with_reducible exact ih0 _ _ _ _ _)
   | (with_reducible exact ih1 _ _ _ _ _ _ _ _ _ _ _ _)
   | (with_reducible exact spec_l10Of.mono _ _ _ _)
   | (with_reducible exact LeO.refl _)
   | (with_reducible exact LeO.none _)
   | (with_reducible refine LeO.ite ?_ ?_)
   | (with_reducible refine LeO.bind ?_ (fun _ => ?_))
   | exact ih0 _ _ _ _ _
   | exact ih1 _ _ _ _ _ _ _ _ _ _ _ _
   | exact spec_l10Of.mono _ _ _ _
   | exact LeO.none _
   | refine LeO.ite ?_ ?_
   | refine LeO.bind ?_ (fun _ => ?_)
set_option maxHeartbeats 8000000 in
set_option maxRecDepth 100000 in
theorem spec_l10Victim.calls (k : Nat) (P0_0_ : Nat → Prop) (u9000_ : Value) (l0_0 : List (S41)) (a0_1 : Int) (a1 : Int) (r1 : List (S41)) (r2 : Int) (r3 : Int) (w0 w : World) (hB : Below w0.heap.size w0 w) (ho0_0 : Kd.R k41 41 w w0.heap.size P0_0_ u9000_ l0_0) (h : spec_l10Victim.f k l0_0 a0_1 a1 = some (r1, r2, r3)) :
  Calls Try.prog 77 #[.agg #[u9000_, .int .i64 a0_1], .int .i64 a1] w fun e w' => ∃ v0_ : Value, e = .returned (.tuple #[.agg #[v0_, .int .i64 r2], .int .i64 r3]) ∧ Kd.R k41 41 w' w0.heap.size (fun k_ => (P0_0_ k_ ∨ w.heap.size ≤ k_)) v0_ r1 ∧ Below w0.heap.size w0 w' ∧ Kept w w' (fun k_ => P0_0_ k_) := by
 have hu29 := Try.underlying29
 have hu41 := Try.underlying41
 have HO0_0:=Aside0.mk (show Kd.R k41 41 w w0.heap.size (fun k_ => (P0_0_ k_ ∨ w.heap.size ≤ k_)) u9000_ l0_0 from y_o ho0_0 (fun k_ hk => (.inl hk)))
 have HK := Aside0.mk (Kept.refl w (fun k_ => P0_0_ k_))
 have HW0 := Aside0.mk hB.size
 have HB := Aside0.mk hB
 clear hB
 have H : ((spec_l10Of.f k l0_0 a0_1 a1).bind fun t232 => (spec_l10Victim.l0 k a1 (decide (t232 ≥ 5)) 0 l0_0 a0_1)) = some (r1,r2,r3):=h
 clear h
 replace H := Option.bind_eq_some_iff.mp H
 obtain ⟨t232, A30, H⟩ := H
 replace H : (spec_l10Victim.l0 k a1 (decide (t232 ≥ 5)) 0 l0_0 a0_1) = some (r1,r2,r3):=H
 have A3 := Aside0.mk A30
 clear A30
 have H' := Aside0.mk H
 clear H
 obtain ⟨Ao4, co4, eo4⟩ := Kd.R_slice HO0_0.out
 subst eo4
 go_enter Try.func77, Try.ntmps77
 go_wp2_with (first|((with_reducible refine gate_dst (N:=2) rfl ?_);refine box_event ?hg (N:=2) ?hd (cs:=#[.slice Ao4 l0_0.length co4,.int .i64 a0_1]) (t:=29) ?hr ?_;(case hd => rfl);(case hg => rfl);(case hr => first|(go_simp;done)|(go_simp;rfl));intro gb230 hg w5 hbox hb;have n0_:=Aside0.mk (Kd.R_below (by (with_reducible repeat (first|apply y_e|apply y_f|apply y_g));exact HO0_0.out) hb);have n1_:=Aside0.mk (Kept.below (S:=(fun k_ => P0_0_ k_)) (by repeat (first|(with_reducible first|exact HK.out|apply Kept.alloc|apply Kept.drewN|apply Kept.drew)|exact HK.out)) hb);have n2_:=Aside0.mk (below_step (by repeat (first|(with_reducible first|exact HB.out|apply y_h|apply y_i|apply y_j)|exact HB.out)) hb);have n3_:=Aside0.mk (hbox);have n4_:=Aside0.mk ((by rw [hg];exact (by first|exact HK.out.1|exact (show Kept w _ (fun k_ => P0_0_ k_) from by repeat (first|(with_reducible first|exact HK.out|apply Kept.alloc|apply Kept.drewN|apply Kept.drew)|exact HK.out)).1) : w.heap.size ≤ gb230));have n5_:=Aside0.mk ((by rw [hg];exact (below_size (by repeat (first|(with_reducible first|exact HB.out|apply y_h|apply y_i|apply y_j)|exact HB.out))) : w0.heap.size ≤ gb230));clear HO0_0 HK HB;have HO0_0:=n0_;have HK:=n1_;have HB:=n2_;have BK230:=n3_;have GW230:=n4_;have GE230:=n5_;clear n0_ n1_ n2_ n3_ n4_ n5_;clear hb hbox hg)|((with_reducible refine gate_dst (N:=4) rfl ?_);refine box_event ?hg (N:=4) ?hd (cs:=#[.slice none 0 0,.int .i64 0]) (t:=29) ?hr ?_;(case hd => rfl);(case hg => rfl);(case hr => first|(go_simp;done)|(go_simp;rfl));intro gb231 hg w6 hbox hb;have n0_:=Aside0.mk (Kd.R_below (by (with_reducible repeat (first|apply y_e|apply y_f|apply y_g));exact HO0_0.out) hb);have n1_:=Aside0.mk (blk_below (g:=gb230) (o:=.cells #[.slice Ao4 l0_0.length co4,.int .i64 a0_1] 29 (0,0)) (by (with_reducible repeat (first|refine y_b ?_ _|refine y_c ?_|refine y_d ?_ _));exact BK230.out) hb);have n2_:=Aside0.mk (Kept.below (S:=(fun k_ => P0_0_ k_)) (by repeat (first|(with_reducible first|exact HK.out|apply Kept.alloc|apply Kept.drewN|apply Kept.drew|refine Kept.setCell ?_ (.inr GW230.out) _)|exact HK.out)) hb);have n3_:=Aside0.mk (below_step (by repeat (first|(with_reducible first|exact HB.out|apply y_h|apply y_i|apply y_j|refine y_n ?_ GE230.out)|exact HB.out)) hb);have n4_:=Aside0.mk (hbox);have n5_:=Aside0.mk ((by rw [hg];exact (by first|exact HK.out.1|exact (show Kept w _ (fun k_ => P0_0_ k_) from by repeat (first|(with_reducible first|exact HK.out|apply Kept.alloc|apply Kept.drewN|apply Kept.drew|refine Kept.setCell ?_ (.inr GW230.out) _)|exact HK.out)).1) : w.heap.size ≤ gb231));have n6_:=Aside0.mk ((by rw [hg];exact (below_size (by repeat (first|(with_reducible first|exact HB.out|apply y_h|apply y_i|apply y_j|refine y_n ?_ GE230.out)|exact HB.out))) : w0.heap.size ≤ gb231));have n7_:=Aside0.mk ((by rw [hg];exact Nat.ne_of_lt (blk_lt (g:=gb230) (o:=.cells #[.slice Ao4 l0_0.length co4,.int .i64 a0_1] 29 (0,0)) (by (with_reducible repeat (first|refine y_b ?_ _|refine y_c ?_|refine y_d ?_ _));exact BK230.out)) : gb230 ≠ gb231));have n8_:=Aside0.mk ((by rw [hg];exact Nat.ne_of_gt (blk_lt (g:=gb230) (o:=.cells #[.slice Ao4 l0_0.length co4,.int .i64 a0_1] 29 (0,0)) (by (with_reducible repeat (first|refine y_b ?_ _|refine y_c ?_|refine y_d ?_ _));exact BK230.out)) : gb231 ≠ gb230));clear HO0_0 BK230 HK HB;have HO0_0:=n0_;have BK230:=n1_;have HK:=n2_;have HB:=n3_;have BK231:=n4_;have GW231:=n5_;have GE231:=n6_;have NB230_231:=n7_;have NB231_230:=n8_;clear n0_ n1_ n2_ n3_ n4_ n5_ n6_ n7_ n8_;clear hb hbox hg;have hnb7:=NB230_231.out;have hnc7:=NB231_230.out;have hcz8_0 : w6.cell? ⟨gb230,0,none⟩ = some (.slice Ao4 l0_0.length co4):=(blk_cell BK230.out 0).trans rfl;have hcz8_1 : w6.cell? ⟨gb230,1,none⟩ = some (.int .i64 a0_1):=(blk_cell BK230.out 1).trans rfl;have hfz8_0:=blk_frozen BK230.out 0;have hfz8_1:=blk_frozen BK230.out 1)|((with_reducible refine gate_callee (f:=43) rfl ?_);refine goesL_ (some 12) rfl rfl Try.func43 (by kernel_rfl) rfl #[.agg #[.slice Ao4 l0_0.length co4,.int .i64 a0_1],.int .i64 a1] rfl (by (try simp only [List.map_toArray,List.map_cons,List.map_nil]);first|done|rfl|(simp only [List.length_drop,List.length_take];rfl)) ?_;(with_reducible refine (spec_l10Of.calls k _ _ l0_0 a0_1 a1 t232 _ ?side1 ?side2 A3.out).mono ?_);(case side1 => repeat (first|exact (Kd.R_reads' HO0_0.out).2.2|(with_reducible refine y_k ?_ _)|(with_reducible refine y_l ?_ _)|(with_reducible refine y_m ?_)));(case side2 => exact (Kd.R_reads' HO0_0.out).2.1);rintro e w9 ⟨rfl,hb⟩;refine ⟨_,rfl,?_⟩;have n0_:=Aside0.mk (Kd.R_below (by (with_reducible repeat (first|apply y_e|apply y_f|apply y_g));exact HO0_0.out) hb);have n1_:=Aside0.mk (blk_below (g:=gb230) (o:=.cells #[.slice Ao4 l0_0.length co4,.int .i64 a0_1] 29 (0,0)) (by (with_reducible repeat (first|refine y_b ?_ _|refine y_c ?_|refine y_d ?_ _));exact BK230.out) hb);have n2_:=Aside0.mk (blk_below (g:=gb231) (o:=.cells #[.slice none 0 0,.int .i64 0] 29 (0,0)) (by (with_reducible repeat (first|refine y_b ?_ _|refine y_c ?_|refine y_d ?_ _));exact BK231.out) hb);have n3_:=Aside0.mk (Kept.below (S:=(fun k_ => P0_0_ k_)) (by repeat (first|(with_reducible first|exact HK.out|apply Kept.alloc|apply Kept.drewN|apply Kept.drew|refine Kept.setCell ?_ (.inr GW230.out) _|refine Kept.setCell ?_ (.inr GW231.out) _)|exact HK.out)) hb);have n4_:=Aside0.mk (below_step (by repeat (first|(with_reducible first|exact HB.out|apply y_h|apply y_i|apply y_j|refine y_n ?_ GE230.out|refine y_n ?_ GE231.out)|exact HB.out)) hb);clear HO0_0 BK230 BK231 HK HB;have HO0_0:=n0_;have BK230:=n1_;have BK231:=n2_;have HK:=n3_;have HB:=n4_;clear n0_ n1_ n2_ n3_ n4_;(try clear hb);(try clear hb2);(try clear hk);(try clear hi)))
 generalize hbf_ : (decide (t232 ≥ 5)) = bfull_ at *
 (try rw [show decide (5 ≤ t232) = bfull_ from hbf_])
 go_loopg [7] k (fun kq v7 w' => ∃ (x7_1 : Int) (x231000_1 : List (S41)) (x231001_1 : Int) (x232001_1 : Int) (u231000 : Value),v7 = .int .i64 x7_1 ∧ Aside0 (spec_l10Victim.l0 kq a1 bfull_ x7_1 x231000_1 x231001_1 = some (r1,r2,r3)) ∧ Aside0 (kq ≤ k) ∧ Aside0 (Kd.R k41 41 w' w0.heap.size (fun k_ => (P0_0_ k_ ∨ w.heap.size ≤ k_)) u231000 x231000_1) ∧ Aside0 (w'.heap[gb230]? = some (.cells #[u231000,.int .i64 x231001_1] 29 (0,0))) ∧ Aside0 (w'.heap[gb231]? = some (.cells #[(.slice none 0 0),.int .i64 x232001_1] 29 (0,0))) ∧ Aside0 (Kept w w' (fun k_ => P0_0_ k_)) ∧ Aside0 (Below w0.heap.size w0 w'))
 case atStart => exact ⟨(0),(l0_0),(a0_1),(0),(.slice Ao4 l0_0.length co4),(by first|rfl|(simp;done)|(simp [*];done)),H',⟨Nat.le_refl _⟩,⟨by (with_reducible repeat (first|apply y_e|apply y_f|apply y_g));exact HO0_0.out⟩,⟨by (with_reducible repeat (first|refine y_b ?_ _|refine y_c ?_|refine y_d ?_ _));exact BK230.out⟩,⟨by (with_reducible repeat (first|refine y_b ?_ _|refine y_c ?_|refine y_d ?_ _));exact BK231.out⟩,⟨by repeat (first|(with_reducible first|exact HK.out|apply Kept.alloc|apply Kept.drewN|apply Kept.drew|refine Kept.setCell ?_ (.inr GW230.out) _|refine Kept.setCell ?_ (.inr GW231.out) _)|exact HK.out)⟩,⟨by repeat (first|(with_reducible first|exact HB.out|apply y_h|apply y_i|apply y_j|refine y_n ?_ GE230.out|refine y_n ?_ GE231.out)|exact HB.out)⟩⟩
 case round =>
  clear H'
  try clear p2
  try clear c4
  try clear c7
  try clear hcz8_0
  try clear hcz8_1
  try clear hfz8_0
  try clear hfz8_1
  obtain ⟨x7_1,x231000_1,x231001_1,x232001_1,u231000,rfl,HA,HK1,HO_231000,BK230,BK231,HK,HB⟩:=hrel
  cases gk with
  | zero => exact absurd HA.out (by simp [spec_l10Victim.l0])
  | succ k1 =>
   have H := HA.out
   clear HA
   simp only [spec_l10Victim.l0] at H
   by_cases c10 : x7_1 < 17
   ·rw [if_pos c10] at H
    have c10b0 : decide (x7_1 < 17) = true := decide_eq_true c10
    clear c10
    by_cases c11 : 0 ≤ x231001_1
    ·rw [if_pos c11] at H
     have c11b0 : decide (0 ≤ x231001_1) = true:=decide_eq_true c11
     clear c11
     by_cases c12 : x231001_1 < (x231000_1.length : Int)
     ·rw [if_pos c12] at H
      have c12b0 : decide (x231001_1 < (x231000_1.length : Int)) = true:=decide_eq_true c12
      clear c12
      have HC13 := Aside0.mk H
      clear H
      have hnb14 := NB230_231.out
      have hnc14 := NB231_230.out
      have hcz15_0 : wr.cell? ⟨gb230,0,none⟩ = some (u231000):=(blk_cell BK230.out 0).trans rfl
      have hcz15_1 : wr.cell? ⟨gb230,1,none⟩ = some (.int .i64 x231001_1):=(blk_cell BK230.out 1).trans rfl
      have hfz15_0 := blk_frozen BK230.out 0
      have hfz15_1 := blk_frozen BK230.out 1
      obtain ⟨Ao16, co16, eo16⟩ := Kd.R_slice HO_231000.out
      subst eo16
      have p233 : 0 ≤ (x231001_1 : Int):=of_decide_eq_true (by first|(with_reducible assumption)|assumption)
      have q233 : x231001_1 < (x231000_1.length : Int):=of_decide_eq_true (by first|(with_reducible assumption)|assumption)
      obtain ⟨ad233,e233,hx233_0,hx233_1,hx233_2,hx233_3,hx233_4⟩:=at_T41 (Kd.R_reads' HO_231000.out).2.2 x231001_1 p233 q233
      cases e233
      replace p233 := eq_true p233
      replace q233 := eq_true q233
      go_upto_region 9 with (first|((with_reducible refine gate_dst (N:=9) rfl ?_);refine box_event ?hg (N:=9) ?hd (cs:=#[.int .i64 0,.int .i64 0,.int .i64 0,.int .i64 0,.bool false]) (t:=41) ?hr ?_;(case hd => rfl);(case hg => rfl);(case hr => first|(go_simp;done)|(go_simp;rfl));intro gb234 hg w17 hbox hb;have n0_:=Aside0.mk (Kd.R_below (Kd.R_elderB (by (with_reducible repeat (first|apply y_e|apply y_f|apply y_g));exact HO_231000.out) gb234 (Nat.le_of_eq hg.symm)) hb);have n1_:=Aside0.mk (blk_below (g:=gb230) (o:=.cells #[.slice (some ad233) x231000_1.length co16,.int .i64 x231001_1] 29 (0,0)) (by (with_reducible repeat (first|refine y_b ?_ _|refine y_c ?_|refine y_d ?_ _));exact BK230.out) hb);have n2_:=Aside0.mk (blk_below (g:=gb231) (o:=.cells #[.slice none 0 0,.int .i64 x232001_1] 29 (0,0)) (by (with_reducible repeat (first|refine y_b ?_ _|refine y_c ?_|refine y_d ?_ _));exact BK231.out) hb);have n3_:=Aside0.mk (Kept.below (S:=(fun k_ => P0_0_ k_)) (by repeat (first|(with_reducible first|exact HK.out|apply Kept.alloc|apply Kept.drewN|apply Kept.drew|refine Kept.setCell ?_ (.inr GW230.out) _|refine Kept.setCell ?_ (.inr GW231.out) _)|exact HK.out)) hb);have n4_:=Aside0.mk (below_step (by repeat (first|(with_reducible first|exact HB.out|apply y_h|apply y_i|apply y_j|refine y_n ?_ GE230.out|refine y_n ?_ GE231.out)|exact HB.out)) hb);have n5_:=Aside0.mk (hbox);have n6_:=Aside0.mk ((by rw [hg];exact (by first|exact HK.out.1|exact (show Kept w _ (fun k_ => P0_0_ k_) from by repeat (first|(with_reducible first|exact HK.out|apply Kept.alloc|apply Kept.drewN|apply Kept.drew|refine Kept.setCell ?_ (.inr GW230.out) _|refine Kept.setCell ?_ (.inr GW231.out) _)|exact HK.out)).1) : w.heap.size ≤ gb234));have n7_:=Aside0.mk ((by rw [hg];exact (below_size (by repeat (first|(with_reducible first|exact HB.out|apply y_h|apply y_i|apply y_j|refine y_n ?_ GE230.out|refine y_n ?_ GE231.out)|exact HB.out))) : w0.heap.size ≤ gb234));have n8_:=Aside0.mk ((by rw [hg];exact Nat.ne_of_lt (blk_lt (g:=gb230) (o:=.cells #[.slice (some ad233) x231000_1.length co16,.int .i64 x231001_1] 29 (0,0)) (by (with_reducible repeat (first|refine y_b ?_ _|refine y_c ?_|refine y_d ?_ _));exact BK230.out)) : gb230 ≠ gb234));have n9_:=Aside0.mk ((by rw [hg];exact Nat.ne_of_gt (blk_lt (g:=gb230) (o:=.cells #[.slice (some ad233) x231000_1.length co16,.int .i64 x231001_1] 29 (0,0)) (by (with_reducible repeat (first|refine y_b ?_ _|refine y_c ?_|refine y_d ?_ _));exact BK230.out)) : gb234 ≠ gb230));have n10_:=Aside0.mk ((by rw [hg];exact Nat.ne_of_lt (blk_lt (g:=gb231) (o:=.cells #[.slice none 0 0,.int .i64 x232001_1] 29 (0,0)) (by (with_reducible repeat (first|refine y_b ?_ _|refine y_c ?_|refine y_d ?_ _));exact BK231.out)) : gb231 ≠ gb234));have n11_:=Aside0.mk ((by rw [hg];exact Nat.ne_of_gt (blk_lt (g:=gb231) (o:=.cells #[.slice none 0 0,.int .i64 x232001_1] 29 (0,0)) (by (with_reducible repeat (first|refine y_b ?_ _|refine y_c ?_|refine y_d ?_ _));exact BK231.out)) : gb234 ≠ gb231));clear HO_231000 BK230 BK231 HK HB;have HO_231000:=n0_;have BK230:=n1_;have BK231:=n2_;have HK:=n3_;have HB:=n4_;have BK234:=n5_;have GW234:=n6_;have GE234:=n7_;have NB230_234:=n8_;have NB234_230:=n9_;have NB231_234:=n10_;have NB234_231:=n11_;clear n0_ n1_ n2_ n3_ n4_ n5_ n6_ n7_ n8_ n9_ n10_ n11_;clear hb hbox hg;have hnb18:=NB234_230.out;have hnc18:=NB230_234.out;have hnb19:=NB234_231.out;have hnc19:=NB231_234.out;have hcz20_0 : w17.cell? ⟨gb234,0,none⟩ = some (.int .i64 0):=(blk_cell BK234.out 0).trans rfl;have hcz20_1 : w17.cell? ⟨gb234,1,none⟩ = some (.int .i64 0):=(blk_cell BK234.out 1).trans rfl;have hcz20_2 : w17.cell? ⟨gb234,2,none⟩ = some (.int .i64 0):=(blk_cell BK234.out 2).trans rfl;have hcz20_3 : w17.cell? ⟨gb234,3,none⟩ = some (.int .i64 0):=(blk_cell BK234.out 3).trans rfl;have hcz20_4 : w17.cell? ⟨gb234,4,none⟩ = some (.bool false):=(blk_cell BK234.out 4).trans rfl;have hfz20_0:=blk_frozen BK234.out 0;have hfz20_1:=blk_frozen BK234.out 1;have hfz20_2:=blk_frozen BK234.out 2;have hfz20_3:=blk_frozen BK234.out 3;have hfz20_4:=blk_frozen BK234.out 4;have hcz21_0 : w17.cell? ⟨gb230,0,none⟩ = some (.slice (some ad233) x231000_1.length co16):=(blk_cell BK230.out 0).trans rfl;have hcz21_1 : w17.cell? ⟨gb230,1,none⟩ = some (.int .i64 x231001_1):=(blk_cell BK230.out 1).trans rfl;have hfz21_0:=blk_frozen BK230.out 0;have hfz21_1:=blk_frozen BK230.out 1))
      (try simp only [Act.put,List.setIfInBounds_toArray,List.set_cons_zero,List.set_cons_succ])
      go_cut [31] (fun v31 wc => ∃ (kq : Nat) (x31_12 : Bool),v31 = .bool x31_12 ∧ Aside0 (spec_l10Victim.j1 kq a1 bfull_ x7_1 x231001_1 x31_12 x231000_1 (Int.tmod (wrap64 (x231001_1 + 1)) 8) ((rd_T41 x231000_1 x231001_1).f0) ((rd_T41 x231000_1 x231001_1).f1) ((rd_T41 x231000_1 x231001_1).f2) ((rd_T41 x231000_1 x231001_1).f3) ((rd_T41 x231000_1 x231001_1).f4) = some (r1,r2,r3)) ∧ Aside0 (kq ≤ k1) ∧ Aside0 (Kd.R k41 41 wc w0.heap.size (fun k_ => (P0_0_ k_ ∨ w.heap.size ≤ k_) ∧ k_ ≠ gb234) (.slice (some ad233) x231000_1.length co16) x231000_1) ∧ Aside0 (wc.heap[gb230]? = some (.cells #[(.slice (some ad233) x231000_1.length co16),.int .i64 (Int.tmod (wrap64 (x231001_1 + 1)) 8)] 29 (0,0))) ∧ Aside0 (wc.heap[gb231]? = some (.cells #[(.slice none 0 0),.int .i64 x232001_1] 29 (0,0))) ∧ Aside0 (wc.heap[gb234]? = some (.cells #[.int .i64 ((rd_T41 x231000_1 x231001_1).f0),.int .i64 ((rd_T41 x231000_1 x231001_1).f1),.int .i64 ((rd_T41 x231000_1 x231001_1).f2),.int .i64 ((rd_T41 x231000_1 x231001_1).f3),.bool ((rd_T41 x231000_1 x231001_1).f4)] 41 (0,0))) ∧ Aside0 (Kept w wc (fun k_ => P0_0_ k_)) ∧ Aside0 (Below w0.heap.size w0 wc))
      case first =>
       have H := HC13.out
       clear HC13
       by_cases c22 : bfull_ = true
       ·rw [if_pos c22] at H
        have c22s : bfull_ = true := c22
        subst c22s
        clear c22
        (first|rw [c22b0]|(simp only [i64_w,i32_w];rw [c22b0])|skip)
        by_cases c23 : ((rd_T41 x231000_1 x231001_1).f1) = 0
        ·rw [if_pos c23] at H
         have c23b0 : (((rd_T41 x231000_1 x231001_1).f1) == 0) = true:=beq_iff_eq.mpr c23
         have c23b1 : (((rd_T41 x231000_1 x231001_1).f1) != 0) = false:=bne_eq_false_iff_eq.mpr c23
         clear c23
         have H' := Aside0.mk H
         clear H
         have hnb24 := NB234_230.out
         have hnc24 := NB230_234.out
         have hnb25 := NB234_231.out
         have hnc25 := NB231_234.out
         have hcz26_0 : w17.cell? ⟨gb234,0,none⟩ = some (.int .i64 0):=(blk_cell BK234.out 0).trans rfl
         have hcz26_1 : w17.cell? ⟨gb234,1,none⟩ = some (.int .i64 0):=(blk_cell BK234.out 1).trans rfl
         have hcz26_2 : w17.cell? ⟨gb234,2,none⟩ = some (.int .i64 0):=(blk_cell BK234.out 2).trans rfl
         have hcz26_3 : w17.cell? ⟨gb234,3,none⟩ = some (.int .i64 0):=(blk_cell BK234.out 3).trans rfl
         have hcz26_4 : w17.cell? ⟨gb234,4,none⟩ = some (.bool false):=(blk_cell BK234.out 4).trans rfl
         have hfz26_0 := blk_frozen BK234.out 0
         have hfz26_1 := blk_frozen BK234.out 1
         have hfz26_2 := blk_frozen BK234.out 2
         have hfz26_3 := blk_frozen BK234.out 3
         have hfz26_4 := blk_frozen BK234.out 4
         go_wp2
         go_meet
         case rel => exact ⟨_,(true),(by first|rfl|(simp;done)|(simp [*];done)),H',⟨by have:=HK1.out;first|omega|exact Nat.le_refl _⟩,⟨by (with_reducible repeat (first|apply y_e|apply y_f|apply y_g));exact y_o (Kd.R_far (p:=⟨gb230,1,none⟩) (Kd.R_far (p:=⟨gb234,4,none⟩) (Kd.R_far (p:=⟨gb234,3,none⟩) (Kd.R_far (p:=⟨gb234,2,none⟩) (Kd.R_far (p:=⟨gb234,1,none⟩) (Kd.R_far (p:=⟨gb234,0,none⟩) (Kd.R_types (y_o HO_231000.out (fun k_ hk => (⟨hk,hk.2⟩ : _ ∧ k_ ≠ gb234))) BK230.out (by decide)) (fun _ hk => hk.1.2) (.int .i64 ((rd_T41 x231000_1 x231001_1).f0))) (fun _ hk => hk.1.2) (.int .i64 ((rd_T41 x231000_1 x231001_1).f1))) (fun _ hk => hk.1.2) (.int .i64 ((rd_T41 x231000_1 x231001_1).f2))) (fun _ hk => hk.1.2) (.int .i64 ((rd_T41 x231000_1 x231001_1).f3))) (fun _ hk => hk.1.2) (.bool ((rd_T41 x231000_1 x231001_1).f4))) (fun _ hk => hk.2) (.int .i64 (Int.tmod (wrap64 (x231001_1 + 1)) 8))) (fun _ hk => ⟨hk.1.1.1,hk.1.1.2⟩)⟩,⟨by (with_reducible repeat (first|refine y_b ?_ _|refine y_c ?_|refine y_d ?_ _));refine blk_put (cs:=#[.slice (some ad233) x231000_1.length co16,.int .i64 x231001_1]) ?_ 1 _ rfl;(with_reducible repeat (first|refine y_b ?_ _|refine y_c ?_|refine y_d ?_ _));refine blk_far ?_ NB230_234.out _;(with_reducible repeat (first|refine y_b ?_ _|refine y_c ?_|refine y_d ?_ _));refine blk_far ?_ NB230_234.out _;(with_reducible repeat (first|refine y_b ?_ _|refine y_c ?_|refine y_d ?_ _));refine blk_far ?_ NB230_234.out _;(with_reducible repeat (first|refine y_b ?_ _|refine y_c ?_|refine y_d ?_ _));refine blk_far ?_ NB230_234.out _;(with_reducible repeat (first|refine y_b ?_ _|refine y_c ?_|refine y_d ?_ _));refine blk_far ?_ NB230_234.out _;(with_reducible repeat (first|refine y_b ?_ _|refine y_c ?_|refine y_d ?_ _));exact BK230.out⟩,⟨by (with_reducible repeat (first|refine y_b ?_ _|refine y_c ?_|refine y_d ?_ _));refine blk_far ?_ NB231_230.out _;(with_reducible repeat (first|refine y_b ?_ _|refine y_c ?_|refine y_d ?_ _));refine blk_far ?_ NB231_234.out _;(with_reducible repeat (first|refine y_b ?_ _|refine y_c ?_|refine y_d ?_ _));refine blk_far ?_ NB231_234.out _;(with_reducible repeat (first|refine y_b ?_ _|refine y_c ?_|refine y_d ?_ _));refine blk_far ?_ NB231_234.out _;(with_reducible repeat (first|refine y_b ?_ _|refine y_c ?_|refine y_d ?_ _));refine blk_far ?_ NB231_234.out _;(with_reducible repeat (first|refine y_b ?_ _|refine y_c ?_|refine y_d ?_ _));refine blk_far ?_ NB231_234.out _;(with_reducible repeat (first|refine y_b ?_ _|refine y_c ?_|refine y_d ?_ _));exact BK231.out⟩,⟨by (with_reducible repeat (first|refine y_b ?_ _|refine y_c ?_|refine y_d ?_ _));refine blk_far ?_ NB234_230.out _;(with_reducible repeat (first|refine y_b ?_ _|refine y_c ?_|refine y_d ?_ _));refine blk_put (cs:=#[.int .i64 ((rd_T41 x231000_1 x231001_1).f0),.int .i64 ((rd_T41 x231000_1 x231001_1).f1),.int .i64 ((rd_T41 x231000_1 x231001_1).f2),.int .i64 ((rd_T41 x231000_1 x231001_1).f3),.bool false]) ?_ 4 _ rfl;(with_reducible repeat (first|refine y_b ?_ _|refine y_c ?_|refine y_d ?_ _));refine blk_put (cs:=#[.int .i64 ((rd_T41 x231000_1 x231001_1).f0),.int .i64 ((rd_T41 x231000_1 x231001_1).f1),.int .i64 ((rd_T41 x231000_1 x231001_1).f2),.int .i64 0,.bool false]) ?_ 3 _ rfl;(with_reducible repeat (first|refine y_b ?_ _|refine y_c ?_|refine y_d ?_ _));refine blk_put (cs:=#[.int .i64 ((rd_T41 x231000_1 x231001_1).f0),.int .i64 ((rd_T41 x231000_1 x231001_1).f1),.int .i64 0,.int .i64 0,.bool false]) ?_ 2 _ rfl;(with_reducible repeat (first|refine y_b ?_ _|refine y_c ?_|refine y_d ?_ _));refine blk_put (cs:=#[.int .i64 ((rd_T41 x231000_1 x231001_1).f0),.int .i64 0,.int .i64 0,.int .i64 0,.bool false]) ?_ 1 _ rfl;(with_reducible repeat (first|refine y_b ?_ _|refine y_c ?_|refine y_d ?_ _));refine blk_put (cs:=#[.int .i64 0,.int .i64 0,.int .i64 0,.int .i64 0,.bool false]) ?_ 0 _ rfl;(with_reducible repeat (first|refine y_b ?_ _|refine y_c ?_|refine y_d ?_ _));exact BK234.out⟩,⟨by repeat (first|(with_reducible first|exact HK.out|apply Kept.alloc|apply Kept.drewN|apply Kept.drew|refine Kept.setCell ?_ (.inr GW230.out) _|refine Kept.setCell ?_ (.inr GW231.out) _|refine Kept.setCell ?_ (.inr GW234.out) _)|exact HK.out)⟩,⟨by repeat (first|(with_reducible first|exact HB.out|apply y_h|apply y_i|apply y_j|refine y_n ?_ GE230.out|refine y_n ?_ GE231.out|refine y_n ?_ GE234.out)|exact HB.out)⟩⟩
        ·rw [if_neg c23] at H
         have c23b0 : (((rd_T41 x231000_1 x231001_1).f1) == 0) = false:=beq_eq_false_iff_ne.mpr c23
         have c23b1 : (((rd_T41 x231000_1 x231001_1).f1) != 0) = true:=bne_iff_ne.mpr c23
         have H' := Aside0.mk H
         clear H
         have hnb27 := NB234_230.out
         have hnc27 := NB230_234.out
         have hnb28 := NB234_231.out
         have hnc28 := NB231_234.out
         have hcz29_0 : w17.cell? ⟨gb234,0,none⟩ = some (.int .i64 0):=(blk_cell BK234.out 0).trans rfl
         have hcz29_1 : w17.cell? ⟨gb234,1,none⟩ = some (.int .i64 0):=(blk_cell BK234.out 1).trans rfl
         have hcz29_2 : w17.cell? ⟨gb234,2,none⟩ = some (.int .i64 0):=(blk_cell BK234.out 2).trans rfl
         have hcz29_3 : w17.cell? ⟨gb234,3,none⟩ = some (.int .i64 0):=(blk_cell BK234.out 3).trans rfl
         have hcz29_4 : w17.cell? ⟨gb234,4,none⟩ = some (.bool false):=(blk_cell BK234.out 4).trans rfl
         have hfz29_0 := blk_frozen BK234.out 0
         have hfz29_1 := blk_frozen BK234.out 1
         have hfz29_2 := blk_frozen BK234.out 2
         have hfz29_3 := blk_frozen BK234.out 3
         have hfz29_4 := blk_frozen BK234.out 4
         go_wp2
         go_meet
         case rel => exact ⟨_,((((rd_T41 x231000_1 x231001_1).f0) != a1)),(by first|rfl|(simp;done)|(simp [*];done)),H',⟨by have:=HK1.out;first|omega|exact Nat.le_refl _⟩,⟨by (with_reducible repeat (first|apply y_e|apply y_f|apply y_g));exact y_o (Kd.R_far (p:=⟨gb230,1,none⟩) (Kd.R_far (p:=⟨gb234,4,none⟩) (Kd.R_far (p:=⟨gb234,3,none⟩) (Kd.R_far (p:=⟨gb234,2,none⟩) (Kd.R_far (p:=⟨gb234,1,none⟩) (Kd.R_far (p:=⟨gb234,0,none⟩) (Kd.R_types (y_o HO_231000.out (fun k_ hk => (⟨hk,hk.2⟩ : _ ∧ k_ ≠ gb234))) BK230.out (by decide)) (fun _ hk => hk.1.2) (.int .i64 ((rd_T41 x231000_1 x231001_1).f0))) (fun _ hk => hk.1.2) (.int .i64 ((rd_T41 x231000_1 x231001_1).f1))) (fun _ hk => hk.1.2) (.int .i64 ((rd_T41 x231000_1 x231001_1).f2))) (fun _ hk => hk.1.2) (.int .i64 ((rd_T41 x231000_1 x231001_1).f3))) (fun _ hk => hk.1.2) (.bool ((rd_T41 x231000_1 x231001_1).f4))) (fun _ hk => hk.2) (.int .i64 (Int.tmod (wrap64 (x231001_1 + 1)) 8))) (fun _ hk => ⟨hk.1.1.1,hk.1.1.2⟩)⟩,⟨by (with_reducible repeat (first|refine y_b ?_ _|refine y_c ?_|refine y_d ?_ _));refine blk_put (cs:=#[.slice (some ad233) x231000_1.length co16,.int .i64 x231001_1]) ?_ 1 _ rfl;(with_reducible repeat (first|refine y_b ?_ _|refine y_c ?_|refine y_d ?_ _));refine blk_far ?_ NB230_234.out _;(with_reducible repeat (first|refine y_b ?_ _|refine y_c ?_|refine y_d ?_ _));refine blk_far ?_ NB230_234.out _;(with_reducible repeat (first|refine y_b ?_ _|refine y_c ?_|refine y_d ?_ _));refine blk_far ?_ NB230_234.out _;(with_reducible repeat (first|refine y_b ?_ _|refine y_c ?_|refine y_d ?_ _));refine blk_far ?_ NB230_234.out _;(with_reducible repeat (first|refine y_b ?_ _|refine y_c ?_|refine y_d ?_ _));refine blk_far ?_ NB230_234.out _;(with_reducible repeat (first|refine y_b ?_ _|refine y_c ?_|refine y_d ?_ _));exact BK230.out⟩,⟨by (with_reducible repeat (first|refine y_b ?_ _|refine y_c ?_|refine y_d ?_ _));refine blk_far ?_ NB231_230.out _;(with_reducible repeat (first|refine y_b ?_ _|refine y_c ?_|refine y_d ?_ _));refine blk_far ?_ NB231_234.out _;(with_reducible repeat (first|refine y_b ?_ _|refine y_c ?_|refine y_d ?_ _));refine blk_far ?_ NB231_234.out _;(with_reducible repeat (first|refine y_b ?_ _|refine y_c ?_|refine y_d ?_ _));refine blk_far ?_ NB231_234.out _;(with_reducible repeat (first|refine y_b ?_ _|refine y_c ?_|refine y_d ?_ _));refine blk_far ?_ NB231_234.out _;(with_reducible repeat (first|refine y_b ?_ _|refine y_c ?_|refine y_d ?_ _));refine blk_far ?_ NB231_234.out _;(with_reducible repeat (first|refine y_b ?_ _|refine y_c ?_|refine y_d ?_ _));exact BK231.out⟩,⟨by (with_reducible repeat (first|refine y_b ?_ _|refine y_c ?_|refine y_d ?_ _));refine blk_far ?_ NB234_230.out _;(with_reducible repeat (first|refine y_b ?_ _|refine y_c ?_|refine y_d ?_ _));refine blk_put (cs:=#[.int .i64 ((rd_T41 x231000_1 x231001_1).f0),.int .i64 ((rd_T41 x231000_1 x231001_1).f1),.int .i64 ((rd_T41 x231000_1 x231001_1).f2),.int .i64 ((rd_T41 x231000_1 x231001_1).f3),.bool false]) ?_ 4 _ rfl;(with_reducible repeat (first|refine y_b ?_ _|refine y_c ?_|refine y_d ?_ _));refine blk_put (cs:=#[.int .i64 ((rd_T41 x231000_1 x231001_1).f0),.int .i64 ((rd_T41 x231000_1 x231001_1).f1),.int .i64 ((rd_T41 x231000_1 x231001_1).f2),.int .i64 0,.bool false]) ?_ 3 _ rfl;(with_reducible repeat (first|refine y_b ?_ _|refine y_c ?_|refine y_d ?_ _));refine blk_put (cs:=#[.int .i64 ((rd_T41 x231000_1 x231001_1).f0),.int .i64 ((rd_T41 x231000_1 x231001_1).f1),.int .i64 0,.int .i64 0,.bool false]) ?_ 2 _ rfl;(with_reducible repeat (first|refine y_b ?_ _|refine y_c ?_|refine y_d ?_ _));refine blk_put (cs:=#[.int .i64 ((rd_T41 x231000_1 x231001_1).f0),.int .i64 0,.int .i64 0,.int .i64 0,.bool false]) ?_ 1 _ rfl;(with_reducible repeat (first|refine y_b ?_ _|refine y_c ?_|refine y_d ?_ _));refine blk_put (cs:=#[.int .i64 0,.int .i64 0,.int .i64 0,.int .i64 0,.bool false]) ?_ 0 _ rfl;(with_reducible repeat (first|refine y_b ?_ _|refine y_c ?_|refine y_d ?_ _));exact BK234.out⟩,⟨by repeat (first|(with_reducible first|exact HK.out|apply Kept.alloc|apply Kept.drewN|apply Kept.drew|refine Kept.setCell ?_ (.inr GW230.out) _|refine Kept.setCell ?_ (.inr GW231.out) _|refine Kept.setCell ?_ (.inr GW234.out) _)|exact HK.out)⟩,⟨by repeat (first|(with_reducible first|exact HB.out|apply y_h|apply y_i|apply y_j|refine y_n ?_ GE230.out|refine y_n ?_ GE231.out|refine y_n ?_ GE234.out)|exact HB.out)⟩⟩
       ·rw [if_neg c22] at H
        have c22s : bfull_ = false := by simpa using c22
        subst c22s
        clear c22
        (first|rw [c22b0]|(simp only [i64_w,i32_w];rw [c22b0])|skip)
        have H' := Aside0.mk H
        clear H
        go_wp2
        go_meet
        case rel => exact ⟨_,(false),(by first|rfl|(simp;done)|(simp [*];done)),H',⟨by have:=HK1.out;first|omega|exact Nat.le_refl _⟩,⟨by (with_reducible repeat (first|apply y_e|apply y_f|apply y_g));exact y_o (Kd.R_far (p:=⟨gb230,1,none⟩) (Kd.R_far (p:=⟨gb234,4,none⟩) (Kd.R_far (p:=⟨gb234,3,none⟩) (Kd.R_far (p:=⟨gb234,2,none⟩) (Kd.R_far (p:=⟨gb234,1,none⟩) (Kd.R_far (p:=⟨gb234,0,none⟩) (Kd.R_types (y_o HO_231000.out (fun k_ hk => (⟨hk,hk.2⟩ : _ ∧ k_ ≠ gb234))) BK230.out (by decide)) (fun _ hk => hk.1.2) (.int .i64 ((rd_T41 x231000_1 x231001_1).f0))) (fun _ hk => hk.1.2) (.int .i64 ((rd_T41 x231000_1 x231001_1).f1))) (fun _ hk => hk.1.2) (.int .i64 ((rd_T41 x231000_1 x231001_1).f2))) (fun _ hk => hk.1.2) (.int .i64 ((rd_T41 x231000_1 x231001_1).f3))) (fun _ hk => hk.1.2) (.bool ((rd_T41 x231000_1 x231001_1).f4))) (fun _ hk => hk.2) (.int .i64 (Int.tmod (wrap64 (x231001_1 + 1)) 8))) (fun _ hk => ⟨hk.1.1.1,hk.1.1.2⟩)⟩,⟨by (with_reducible repeat (first|refine y_b ?_ _|refine y_c ?_|refine y_d ?_ _));refine blk_put (cs:=#[.slice (some ad233) x231000_1.length co16,.int .i64 x231001_1]) ?_ 1 _ rfl;(with_reducible repeat (first|refine y_b ?_ _|refine y_c ?_|refine y_d ?_ _));refine blk_far ?_ NB230_234.out _;(with_reducible repeat (first|refine y_b ?_ _|refine y_c ?_|refine y_d ?_ _));refine blk_far ?_ NB230_234.out _;(with_reducible repeat (first|refine y_b ?_ _|refine y_c ?_|refine y_d ?_ _));refine blk_far ?_ NB230_234.out _;(with_reducible repeat (first|refine y_b ?_ _|refine y_c ?_|refine y_d ?_ _));refine blk_far ?_ NB230_234.out _;(with_reducible repeat (first|refine y_b ?_ _|refine y_c ?_|refine y_d ?_ _));refine blk_far ?_ NB230_234.out _;(with_reducible repeat (first|refine y_b ?_ _|refine y_c ?_|refine y_d ?_ _));exact BK230.out⟩,⟨by (with_reducible repeat (first|refine y_b ?_ _|refine y_c ?_|refine y_d ?_ _));refine blk_far ?_ NB231_230.out _;(with_reducible repeat (first|refine y_b ?_ _|refine y_c ?_|refine y_d ?_ _));refine blk_far ?_ NB231_234.out _;(with_reducible repeat (first|refine y_b ?_ _|refine y_c ?_|refine y_d ?_ _));refine blk_far ?_ NB231_234.out _;(with_reducible repeat (first|refine y_b ?_ _|refine y_c ?_|refine y_d ?_ _));refine blk_far ?_ NB231_234.out _;(with_reducible repeat (first|refine y_b ?_ _|refine y_c ?_|refine y_d ?_ _));refine blk_far ?_ NB231_234.out _;(with_reducible repeat (first|refine y_b ?_ _|refine y_c ?_|refine y_d ?_ _));refine blk_far ?_ NB231_234.out _;(with_reducible repeat (first|refine y_b ?_ _|refine y_c ?_|refine y_d ?_ _));exact BK231.out⟩,⟨by (with_reducible repeat (first|refine y_b ?_ _|refine y_c ?_|refine y_d ?_ _));refine blk_far ?_ NB234_230.out _;(with_reducible repeat (first|refine y_b ?_ _|refine y_c ?_|refine y_d ?_ _));refine blk_put (cs:=#[.int .i64 ((rd_T41 x231000_1 x231001_1).f0),.int .i64 ((rd_T41 x231000_1 x231001_1).f1),.int .i64 ((rd_T41 x231000_1 x231001_1).f2),.int .i64 ((rd_T41 x231000_1 x231001_1).f3),.bool false]) ?_ 4 _ rfl;(with_reducible repeat (first|refine y_b ?_ _|refine y_c ?_|refine y_d ?_ _));refine blk_put (cs:=#[.int .i64 ((rd_T41 x231000_1 x231001_1).f0),.int .i64 ((rd_T41 x231000_1 x231001_1).f1),.int .i64 ((rd_T41 x231000_1 x231001_1).f2),.int .i64 0,.bool false]) ?_ 3 _ rfl;(with_reducible repeat (first|refine y_b ?_ _|refine y_c ?_|refine y_d ?_ _));refine blk_put (cs:=#[.int .i64 ((rd_T41 x231000_1 x231001_1).f0),.int .i64 ((rd_T41 x231000_1 x231001_1).f1),.int .i64 0,.int .i64 0,.bool false]) ?_ 2 _ rfl;(with_reducible repeat (first|refine y_b ?_ _|refine y_c ?_|refine y_d ?_ _));refine blk_put (cs:=#[.int .i64 ((rd_T41 x231000_1 x231001_1).f0),.int .i64 0,.int .i64 0,.int .i64 0,.bool false]) ?_ 1 _ rfl;(with_reducible repeat (first|refine y_b ?_ _|refine y_c ?_|refine y_d ?_ _));refine blk_put (cs:=#[.int .i64 0,.int .i64 0,.int .i64 0,.int .i64 0,.bool false]) ?_ 0 _ rfl;(with_reducible repeat (first|refine y_b ?_ _|refine y_c ?_|refine y_d ?_ _));exact BK234.out⟩,⟨by repeat (first|(with_reducible first|exact HK.out|apply Kept.alloc|apply Kept.drewN|apply Kept.drew|refine Kept.setCell ?_ (.inr GW230.out) _|refine Kept.setCell ?_ (.inr GW231.out) _|refine Kept.setCell ?_ (.inr GW234.out) _)|exact HK.out)⟩,⟨by repeat (first|(with_reducible first|exact HB.out|apply y_h|apply y_i|apply y_j|refine y_n ?_ GE230.out|refine y_n ?_ GE231.out|refine y_n ?_ GE234.out)|exact HB.out)⟩⟩
      case rest =>
       clear HC13
       try clear c1
       try clear c2
       try clear p2
       try clear q2
       try clear hx2
       try clear c4
       try clear p6
       try clear c7
       try clear c10
       try clear c10b0
       try clear c11
       try clear c11b0
       try clear c12
       try clear c12b0
       try clear c14
       try clear c18
       try clear c19
       try clear c22
       try clear c22b0
       try clear c23
       try clear c23b0
       try clear c23b1
       try clear p23
       try clear q23
       try clear hx23
       try clear c24
       try clear c25
       try clear c27
       try clear c28
       try clear hcz15_0
       try clear hcz15_1
       try clear hcz20_0
       try clear hcz20_1
       try clear hcz20_2
       try clear hcz20_3
       try clear hcz20_4
       try clear hcz21_0
       try clear hcz21_1
       try clear hcz26_0
       try clear hcz26_1
       try clear hcz26_2
       try clear hcz26_3
       try clear hcz26_4
       try clear hcz29_0
       try clear hcz29_1
       try clear hcz29_2
       try clear hcz29_3
       try clear hcz29_4
       try clear hcz8_0
       try clear hcz8_1
       try clear hfz15_0
       try clear hfz15_1
       try clear hfz20_0
       try clear hfz20_1
       try clear hfz20_2
       try clear hfz20_3
       try clear hfz20_4
       try clear hfz21_0
       try clear hfz21_1
       try clear hfz26_0
       try clear hfz26_1
       try clear hfz26_2
       try clear hfz26_3
       try clear hfz26_4
       try clear hfz29_0
       try clear hfz29_1
       try clear hfz29_2
       try clear hfz29_3
       try clear hfz29_4
       try clear hfz8_0
       try clear hfz8_1
       try clear hx233_0
       try clear hx233_1
       try clear hx233_2
       try clear hx233_3
       try clear hx233_4
       try clear p2
       try clear p233
       try clear q233
       obtain ⟨kq,x31_12,rfl,HA,HJ12,HO_231000,BK230,BK231,BK234,HK,HB⟩:=hcut
       cases kq with
       | zero => exact absurd HA.out (by simp [spec_l10Victim.j1])
       | succ kj12 =>
        have H := HA.out
        clear HA
        simp only [spec_l10Victim.j1] at H
        by_cases c30 : x31_12 = true
        ·subst c30
         have H1 : (spec_l10Victim.l0 kj12 a1 bfull_ (wrap64 (x7_1 + 1)) x231000_1 (Int.tmod (wrap64 (x231001_1 + 1)) 8)) = some (r1,r2,r3):=by rw [if_pos rfl] at H;exact H
         clear H
         have H := H1
         clear H1
         have H' := Aside0.mk H
         clear H
         go_wp2
         go_roundg kj12
         case measure => have := HK1.out; have := HJ12.out; omega
         case rel => exact ⟨(wrap64 (x7_1 + 1)),(x231000_1),((Int.tmod (wrap64 (x231001_1 + 1)) 8)),(x232001_1),(.slice (some ad233) x231000_1.length co16),(by first|rfl|(simp;done)|(simp [*];done)),H',⟨by have:=HK1.out;have:=HJ12.out;omega⟩,⟨by (with_reducible repeat (first|apply y_e|apply y_f|apply y_g));exact y_o HO_231000.out (fun _ hk => hk.1)⟩,⟨by (with_reducible repeat (first|refine y_b ?_ _|refine y_c ?_|refine y_d ?_ _));exact BK230.out⟩,⟨by (with_reducible repeat (first|refine y_b ?_ _|refine y_c ?_|refine y_d ?_ _));exact BK231.out⟩,⟨by repeat (first|(with_reducible first|exact HK.out|apply Kept.alloc|apply Kept.drewN|apply Kept.drew|refine Kept.setCell ?_ (.inr GW230.out) _|refine Kept.setCell ?_ (.inr GW231.out) _|refine Kept.setCell ?_ (.inr GW234.out) _)|exact HK.out)⟩,⟨by repeat (first|(with_reducible first|exact HB.out|apply y_h|apply y_i|apply y_j|refine y_n ?_ GE230.out|refine y_n ?_ GE231.out|refine y_n ?_ GE234.out)|exact HB.out)⟩⟩
        ·replace c30 := Bool.eq_false_iff.mpr c30
         subst c30
         have H1 : (if ((rd_T41 x231000_1 x231001_1).f3) > 0 then (spec_l10Victim.l0 kj12 a1 bfull_ (wrap64 (x7_1 + 1)) x231000_1 (Int.tmod (wrap64 (x231001_1 + 1)) 8)) else (if ((rd_T41 x231000_1 x231001_1).f4) = true then (if 0 ≤ x231001_1 then (if x231001_1 < (x231000_1.length : Int) then (spec_l10Victim.l0 kj12 a1 bfull_ (wrap64 (x7_1 + 1)) (x231000_1.set (x231001_1 : Int).toNat (⟨(rd_T41 x231000_1 x231001_1).f0,(rd_T41 x231000_1 x231001_1).f1,(rd_T41 x231000_1 x231001_1).f2,(rd_T41 x231000_1 x231001_1).f3,false⟩ : S41)) (Int.tmod (wrap64 (x231001_1 + 1)) 8)) else (none)) else (none)) else (some (x231000_1,(Int.tmod (wrap64 (x231001_1 + 1)) 8),x231001_1)))) = some (r1,r2,r3):=by rw [if_neg (show ¬ (false = true) by decide)] at H;exact H
         clear H
         have H := H1
         clear H1
         by_cases c31 : ((rd_T41 x231000_1 x231001_1).f3) > 0
         ·rw [if_pos c31] at H
          have c31b0 : decide (0 < ((rd_T41 x231000_1 x231001_1).f3)) = true:=decide_eq_true c31
          clear c31
          have H' := Aside0.mk H
          clear H
          have hnb32 := NB234_230.out
          have hnc32 := NB230_234.out
          have hnb33 := NB234_231.out
          have hnc33 := NB231_234.out
          have hcz34_0 : wc.cell? ⟨gb234,0,none⟩ = some (.int .i64 ((rd_T41 x231000_1 x231001_1).f0)):=(blk_cell BK234.out 0).trans rfl
          have hcz34_1 : wc.cell? ⟨gb234,1,none⟩ = some (.int .i64 ((rd_T41 x231000_1 x231001_1).f1)):=(blk_cell BK234.out 1).trans rfl
          have hcz34_2 : wc.cell? ⟨gb234,2,none⟩ = some (.int .i64 ((rd_T41 x231000_1 x231001_1).f2)):=(blk_cell BK234.out 2).trans rfl
          have hcz34_3 : wc.cell? ⟨gb234,3,none⟩ = some (.int .i64 ((rd_T41 x231000_1 x231001_1).f3)):=(blk_cell BK234.out 3).trans rfl
          have hcz34_4 : wc.cell? ⟨gb234,4,none⟩ = some (.bool ((rd_T41 x231000_1 x231001_1).f4)):=(blk_cell BK234.out 4).trans rfl
          have hfz34_0 := blk_frozen BK234.out 0
          have hfz34_1 := blk_frozen BK234.out 1
          have hfz34_2 := blk_frozen BK234.out 2
          have hfz34_3 := blk_frozen BK234.out 3
          have hfz34_4 := blk_frozen BK234.out 4
          go_wp2
          go_roundg kj12
          case measure => have := HK1.out; have := HJ12.out; omega
          case rel => exact ⟨(wrap64 (x7_1 + 1)),(x231000_1),((Int.tmod (wrap64 (x231001_1 + 1)) 8)),(x232001_1),(.slice (some ad233) x231000_1.length co16),(by first|rfl|(simp;done)|(simp [*];done)),H',⟨by have:=HK1.out;have:=HJ12.out;omega⟩,⟨by (with_reducible repeat (first|apply y_e|apply y_f|apply y_g));exact y_o HO_231000.out (fun _ hk => hk.1)⟩,⟨by (with_reducible repeat (first|refine y_b ?_ _|refine y_c ?_|refine y_d ?_ _));exact BK230.out⟩,⟨by (with_reducible repeat (first|refine y_b ?_ _|refine y_c ?_|refine y_d ?_ _));exact BK231.out⟩,⟨by repeat (first|(with_reducible first|exact HK.out|apply Kept.alloc|apply Kept.drewN|apply Kept.drew|refine Kept.setCell ?_ (.inr GW230.out) _|refine Kept.setCell ?_ (.inr GW231.out) _|refine Kept.setCell ?_ (.inr GW234.out) _)|exact HK.out)⟩,⟨by repeat (first|(with_reducible first|exact HB.out|apply y_h|apply y_i|apply y_j|refine y_n ?_ GE230.out|refine y_n ?_ GE231.out|refine y_n ?_ GE234.out)|exact HB.out)⟩⟩
         ·rw [if_neg c31] at H
          have c31b0 : decide (0 < ((rd_T41 x231000_1 x231001_1).f3)) = false:=decide_eq_false c31
          clear c31
          by_cases c35 : ((rd_T41 x231000_1 x231001_1).f4) = true
          ·rw [if_pos c35] at H
           have c35b0 : ((rd_T41 x231000_1 x231001_1).f4) = true := c35
           clear c35
           by_cases c36 : 0 ≤ x231001_1
           ·rw [if_pos c36] at H
            have c36b0 : decide (0 ≤ x231001_1) = true:=decide_eq_true c36
            clear c36
            by_cases c37 : x231001_1 < (x231000_1.length : Int)
            ·rw [if_pos c37] at H
             have c37b0 : decide (x231001_1 < (x231000_1.length : Int)) = true:=decide_eq_true c37
             clear c37
             obtain ⟨y235,hy235⟩ : ∃ y_ : List (S41),y_ = (x231000_1.set (x231001_1 : Int).toNat (⟨(rd_T41 x231000_1 x231001_1).f0,(rd_T41 x231000_1 x231001_1).f1,(rd_T41 x231000_1 x231001_1).f2,(rd_T41 x231000_1 x231001_1).f3,false⟩ : S41)):=⟨_,rfl⟩
             replace H : (spec_l10Victim.l0 kj12 a1 bfull_ (wrap64 (x7_1 + 1)) y235 (Int.tmod (wrap64 (x231001_1 + 1)) 8)) = some (r1,r2,r3):=by first|(rw [hy235];with_reducible exact H)|(have H2_:=(Option.bind_some _ _).symm.trans H;rw [hy235];with_reducible exact H2_)|(have H2_:=(Option.bind_some _ _).symm.trans H;with_reducible exact H2_)|with_reducible exact H|(rw [hy235];exact H)|exact H
             have Ny235 := Aside0.mk hy235
             clear hy235
             have H' := Aside0.mk H
             clear H
             have hnb39 := NB234_230.out
             have hnc39 := NB230_234.out
             have hnb40 := NB234_231.out
             have hnc40 := NB231_234.out
             have hcz41_0 : wc.cell? ⟨gb234,0,none⟩ = some (.int .i64 ((rd_T41 x231000_1 x231001_1).f0)):=(blk_cell BK234.out 0).trans rfl
             have hcz41_1 : wc.cell? ⟨gb234,1,none⟩ = some (.int .i64 ((rd_T41 x231000_1 x231001_1).f1)):=(blk_cell BK234.out 1).trans rfl
             have hcz41_2 : wc.cell? ⟨gb234,2,none⟩ = some (.int .i64 ((rd_T41 x231000_1 x231001_1).f2)):=(blk_cell BK234.out 2).trans rfl
             have hcz41_3 : wc.cell? ⟨gb234,3,none⟩ = some (.int .i64 ((rd_T41 x231000_1 x231001_1).f3)):=(blk_cell BK234.out 3).trans rfl
             have hcz41_4 : wc.cell? ⟨gb234,4,none⟩ = some (.bool ((rd_T41 x231000_1 x231001_1).f4)):=(blk_cell BK234.out 4).trans rfl
             have hfz41_0 := blk_frozen BK234.out 0
             have hfz41_1 := blk_frozen BK234.out 1
             have hfz41_2 := blk_frozen BK234.out 2
             have hfz41_3 := blk_frozen BK234.out 3
             have hfz41_4 := blk_frozen BK234.out 4
             have hnb42 := NB230_231.out
             have hnc42 := NB231_230.out
             have hcz43_0 : wc.cell? ⟨gb230,0,none⟩ = some (.slice (some ad233) x231000_1.length co16):=(blk_cell BK230.out 0).trans rfl
             have hcz43_1 : wc.cell? ⟨gb230,1,none⟩ = some (.int .i64 (Int.tmod (wrap64 (x231001_1 + 1)) 8)):=(blk_cell BK230.out 1).trans rfl
             have hfz43_0 := blk_frozen BK230.out 0
             have hfz43_1 := blk_frozen BK230.out 1
             have p38 : 0 ≤ (x231001_1 : Int):=of_decide_eq_true (by first|(with_reducible assumption)|assumption)
             have q38 : (x231001_1 : Int) < ((x231000_1.length : Int) : Int):=of_decide_eq_true (by first|(with_reducible assumption)|assumption)
             obtain ⟨go38,co38,eo38,gb38,gl38,cl38,HG38⟩:=Kd.R_form HO_231000.out (by omega)
             (first|cases eo38|(injection eo38 with ea_ en_ ec_;(first|subst ea_|(injection ea_ with ea_;subst ea_));subst ec_;clear en_))
             have GB38 := Aside0.mk gb38
             have GG38 := Aside0.mk HG38
             clear gb38 gl38 HG38
             have HMgo38:=Aside0.mk (show (P0_0_ go38 ∨ w.heap.size ≤ go38) from (HO_231000.out.1 _ rfl).1)
             (first | simp only [add_plain] at hx233_0 | skip)
             (first | simp only [add_plain] at hx233_1 | skip)
             (first | simp only [add_plain] at hx233_2 | skip)
             (first | simp only [add_plain] at hx233_3 | skip)
             (first | simp only [add_plain] at hx233_4 | skip)
             obtain ⟨ce38,hcl38,hM38,hcc38,hfr38⟩:=Kd.R_elem HO_231000.out z41 (x231001_1 : Int) p38 q38
             obtain rfl := k41_openM hM38
             have hx38_0 : wc.cell? ⟨go38,(x231001_1 : Int).toNat * 5,none⟩ = some (.int .i64 ((rd_T41 x231000_1 x231001_1).f0)):=hcc38 0 _ rfl
             have hx38_1 : wc.cell? ⟨go38,(x231001_1 : Int).toNat * 5 + 1,none⟩ = some (.int .i64 ((rd_T41 x231000_1 x231001_1).f1)):=hcc38 1 _ rfl
             have hx38_2 : wc.cell? ⟨go38,(x231001_1 : Int).toNat * 5 + 2,none⟩ = some (.int .i64 ((rd_T41 x231000_1 x231001_1).f2)):=hcc38 2 _ rfl
             have hx38_3 : wc.cell? ⟨go38,(x231001_1 : Int).toNat * 5 + 3,none⟩ = some (.int .i64 ((rd_T41 x231000_1 x231001_1).f3)):=hcc38 3 _ rfl
             have hx38_4 : wc.cell? ⟨go38,(x231001_1 : Int).toNat * 5 + 4,none⟩ = some (.bool ((rd_T41 x231000_1 x231001_1).f4)):=hcc38 4 _ rfl
             have hf38_0 : wc.frozen? ⟨go38,(x231001_1 : Int).toNat * 5,none⟩ = false:=hfr38 0
             have hf38_1 : wc.frozen? ⟨go38,(x231001_1 : Int).toNat * 5 + 1,none⟩ = false:=hfr38 1
             have hf38_2 : wc.frozen? ⟨go38,(x231001_1 : Int).toNat * 5 + 2,none⟩ = false:=hfr38 2
             have hf38_3 : wc.frozen? ⟨go38,(x231001_1 : Int).toNat * 5 + 3,none⟩ = false:=hfr38 3
             have hf38_4 : wc.frozen? ⟨go38,(x231001_1 : Int).toNat * 5 + 4,none⟩ = false:=hfr38 4
             clear hcl38 hcc38 hfr38 hM38
             replace p38 := eq_true p38
             replace q38 := eq_true q38
             have HX44:=Aside0.mk (show Kd.R k41 41 wc w0.heap.size (fun k_ => (P0_0_ k_ ∨ w.heap.size ≤ k_) ∧ k_ ≠ gb234) (.slice (some ⟨go38,0,none⟩) x231000_1.length co16) x231000_1 from (by (with_reducible repeat (first|apply y_e|apply y_f|apply y_g));exact HO_231000.out))
             obtain ⟨ce44,hcl44,hM44,hcc44,hfr44⟩:=Kd.R_elem HX44.out z41 (x231001_1 : Int) (of_decide_eq_true (by first|(with_reducible assumption)|assumption)) (by have h_ : (x231001_1 : Int) < ((x231000_1.length : Int) : Int):=of_decide_eq_true (by first|(with_reducible assumption)|assumption);first|exact h_|(have e_:=(Kd.R_reads' HO_231000.out).1;omega)|simpa using h_)
             obtain rfl := k41_openM hM44
             have HP44:=Kd.R_seg HX44.out (x231001_1 : Int) (of_decide_eq_true (by first|(with_reducible assumption)|assumption)) (by have h_ : (x231001_1 : Int) < ((x231000_1.length : Int) : Int):=of_decide_eq_true (by first|(with_reducible assumption)|assumption);first|exact h_|(have e_:=(Kd.R_reads' HO_231000.out).1;omega)|simpa using h_) (seg:=[.bool false]) (j:=4) hcl44 hcc44 (show 5 ≤ 5 from by decide) (x':=(⟨(rd_T41 x231000_1 x231001_1).f0,(rd_T41 x231000_1 x231001_1).f1,(rd_T41 x231000_1 x231001_1).f2,(rd_T41 x231000_1 x231001_1).f3,false⟩ : S41)) (k41_mkM _ _ _ (⟨(rd_T41 x231000_1 x231001_1).f0,(rd_T41 x231000_1 x231001_1).f1,(rd_T41 x231000_1 x231001_1).f2,(rd_T41 x231000_1 x231001_1).f3,false⟩ : S41) ) (fun _ hk => hk)
             have hx44_4 := hcc44 4 _ rfl
             (try simp only [show (k41).sz = 5 from rfl,Nat.mul_one,Nat.add_zero] at hx44_4)
             have hf44_4 := hfr44 4
             (try simp only [show (k41).sz = 5 from rfl,Nat.mul_one,Nat.add_zero] at hf44_4)
             clear hcl44 hcc44 hfr44 hM44
             go_wp2_with (first|((with_reducible refine gate_store (t:=4) (p:=55) rfl ?_);refine store_event (t:=4) (p:=55) (v:=?vo_w45) (w1:=(wc.setCell ⟨go38,(x231001_1 : Int).toNat * 5 + 4,none⟩ (.bool false))) ?hg ?ho ?hn ?hr ?_;(case ho => rfl);(case hg => rfl);(case hn => rfl);(case hr => first|(go_simp;done)|(go_simp;rfl));intro w45 hw;have hg : wc.grownBy w45 (some go38):=(by rw [hw];exact HP44.2);have hp_ : Kd.R k41 41 w45 w0.heap.size (fun k_ => (P0_0_ k_ ∨ w.heap.size ≤ k_) ∧ k_ ≠ gb234) (.slice (some ⟨go38,0,none⟩) x231000_1.length co16) y235:=(by rw [hw,Ny235.out];exact HP44.1);clear HP44;have n0_:=Aside0.mk (hp_);have n1_:=Aside0.mk (blk_grown (g:=gb230) (o:=.cells #[.slice (some ⟨go38,0,none⟩) x231000_1.length co16,.int .i64 (Int.tmod (wrap64 (x231001_1 + 1)) 8)] 29 (0,0)) (by (with_reducible repeat (first|refine y_b ?_ _|refine y_c ?_|refine y_d ?_ _));exact BK230.out) hg (Kd.R_ne HO_231000.out BK230.out (by decide)));have n2_:=Aside0.mk (blk_grown (g:=gb231) (o:=.cells #[.slice none 0 0,.int .i64 x232001_1] 29 (0,0)) (by (with_reducible repeat (first|refine y_b ?_ _|refine y_c ?_|refine y_d ?_ _));exact BK231.out) hg (Kd.R_ne HO_231000.out BK231.out (by decide)));have n3_:=Aside0.mk (blk_grown (g:=gb234) (o:=.cells #[.int .i64 ((rd_T41 x231000_1 x231001_1).f0),.int .i64 ((rd_T41 x231000_1 x231001_1).f1),.int .i64 ((rd_T41 x231000_1 x231001_1).f2),.int .i64 ((rd_T41 x231000_1 x231001_1).f3),.bool ((rd_T41 x231000_1 x231001_1).f4)] 41 (0,0)) (by (with_reducible repeat (first|refine y_b ?_ _|refine y_c ?_|refine y_d ?_ _));exact BK234.out) hg (Kd.R_away HO_231000.out (fun _ hk => hk.2)));have n4_:=Aside0.mk ((by rw [hw];exact y_n (HB.out) GB38.out : Below w0.heap.size w0 w45));have n5_:=Aside0.mk (Kept.of_grown (S:=(fun k_ => P0_0_ k_)) hg (by repeat (first|(with_reducible first|exact HK.out|apply Kept.alloc|apply Kept.drewN|apply Kept.drew|refine Kept.setCell ?_ (.inr GW230.out) _|refine Kept.setCell ?_ (.inr GW231.out) _|refine Kept.setCell ?_ (.inr GW234.out) _)|exact HK.out)) (fun k_ e_ => (HO_231000.out.1 k_ e_).1));clear HO_231000 BK230 BK231 BK234 HB HK;have HO_231000:=n0_;have BK230:=n1_;have BK231:=n2_;have BK234:=n3_;have HB:=n4_;have HK:=n5_;clear n0_ n1_ n2_ n3_ n4_ n5_;clear hg hw hp_))
             go_roundg kj12
             case measure => have := HK1.out; have := HJ12.out; omega
             case rel => exact ⟨(wrap64 (x7_1 + 1)),(y235),((Int.tmod (wrap64 (x231001_1 + 1)) 8)),(x232001_1),(.slice (some ⟨go38,0,none⟩) x231000_1.length co16),(by first|rfl|(simp;done)|(simp [*];done)),H',⟨by have:=HK1.out;have:=HJ12.out;omega⟩,⟨by (with_reducible repeat (first|apply y_e|apply y_f|apply y_g));exact y_o HO_231000.out (fun _ hk => hk.1)⟩,⟨by (with_reducible repeat (first|refine y_b ?_ _|refine y_c ?_|refine y_d ?_ _));exact BK230.out⟩,⟨by (with_reducible repeat (first|refine y_b ?_ _|refine y_c ?_|refine y_d ?_ _));exact BK231.out⟩,⟨by repeat (first|(with_reducible first|exact HK.out|apply Kept.alloc|apply Kept.drewN|apply Kept.drew|refine Kept.setCell ?_ (.inr GW230.out) _|refine Kept.setCell ?_ (.inr GW231.out) _|refine Kept.setCell ?_ (.inr GW234.out) _)|exact HK.out)⟩,⟨by repeat (first|(with_reducible first|exact HB.out|apply y_h|apply y_i|apply y_j|refine y_n ?_ GE230.out|refine y_n ?_ GE231.out|refine y_n ?_ GE234.out)|exact HB.out)⟩⟩
            ·rw [if_neg c37] at H
             exact absurd H (by simp)
           ·rw [if_neg c36] at H
            exact absurd H (by simp)
          ·rw [if_neg c35] at H
           have c35b0 : ((rd_T41 x231000_1 x231001_1).f4) = false:=by simpa using c35
           clear c35
           simp only [Option.some.injEq, Prod.mk.injEq] at H
           obtain ⟨rfl, rfl, rfl⟩ := H
           have hnb46 := NB234_230.out
           have hnc46 := NB230_234.out
           have hnb47 := NB234_231.out
           have hnc47 := NB231_234.out
           have hcz48_0 : wc.cell? ⟨gb234,0,none⟩ = some (.int .i64 ((rd_T41 x231000_1 x231001_1).f0)):=(blk_cell BK234.out 0).trans rfl
           have hcz48_1 : wc.cell? ⟨gb234,1,none⟩ = some (.int .i64 ((rd_T41 x231000_1 x231001_1).f1)):=(blk_cell BK234.out 1).trans rfl
           have hcz48_2 : wc.cell? ⟨gb234,2,none⟩ = some (.int .i64 ((rd_T41 x231000_1 x231001_1).f2)):=(blk_cell BK234.out 2).trans rfl
           have hcz48_3 : wc.cell? ⟨gb234,3,none⟩ = some (.int .i64 ((rd_T41 x231000_1 x231001_1).f3)):=(blk_cell BK234.out 3).trans rfl
           have hcz48_4 : wc.cell? ⟨gb234,4,none⟩ = some (.bool ((rd_T41 x231000_1 x231001_1).f4)):=(blk_cell BK234.out 4).trans rfl
           have hfz48_0 := blk_frozen BK234.out 0
           have hfz48_1 := blk_frozen BK234.out 1
           have hfz48_2 := blk_frozen BK234.out 2
           have hfz48_3 := blk_frozen BK234.out 3
           have hfz48_4 := blk_frozen BK234.out 4
           have hnb49 := NB230_231.out
           have hnc49 := NB231_230.out
           have hcz50_0 : wc.cell? ⟨gb230,0,none⟩ = some (.slice (some ad233) x231000_1.length co16):=(blk_cell BK230.out 0).trans rfl
           have hcz50_1 : wc.cell? ⟨gb230,1,none⟩ = some (.int .i64 (Int.tmod (wrap64 (x231001_1 + 1)) 8)):=(blk_cell BK230.out 1).trans rfl
           have hfz50_0 := blk_frozen BK230.out 0
           have hfz50_1 := blk_frozen BK230.out 1
           have hcz51_0 : wc.cell? ⟨gb231,0,none⟩ = some (.slice none 0 0):=(blk_cell BK231.out 0).trans rfl
           have hcz51_1 : wc.cell? ⟨gb231,1,none⟩ = some (.int .i64 x232001_1):=(blk_cell BK231.out 1).trans rfl
           have hfz51_0 := blk_frozen BK231.out 0
           have hfz51_1 := blk_frozen BK231.out 1
           go_wp2
           refine bodyPost_ret (results_ct rfl _ _ gb231 29 #[.slice (some ad233) x231000_1.length co16,.int .i64 (Int.tmod (wrap64 (x231001_1 + 1)) 8)] (0,0) _ rfl (by (with_reducible repeat (first|refine y_b ?_ _|refine y_c ?_|refine y_d ?_ _));refine blk_put (cs:=#[.slice (some ad233) x231000_1.length co16,.int .i64 x232001_1]) ?_ 1 _ rfl;(with_reducible repeat (first|refine y_b ?_ _|refine y_c ?_|refine y_d ?_ _));refine blk_put (cs:=#[.slice none 0 0,.int .i64 x232001_1]) ?_ 0 _ rfl;(with_reducible repeat (first|refine y_b ?_ _|refine y_c ?_|refine y_d ?_ _));exact BK231.out) Try.underlying29 rfl (by kernel_rfl)) rfl ?_
           exact ⟨_,by first|rfl|(simp [errW_none,errW_some] <;> rfl)|(simp [*,errW_none,errW_some] <;> rfl),by (with_reducible repeat (first|apply y_e|apply y_f|apply y_g));exact y_o (Kd.R_far (p:=⟨gb231,1,none⟩) (Kd.R_far (p:=⟨gb231,0,none⟩) (Kd.R_types HO_231000.out BK231.out (by decide)) (fun _ hk => hk.2) (.slice (some ad233) x231000_1.length co16)) (fun _ hk => hk.2) (.int .i64 (Int.tmod (wrap64 (x231001_1 + 1)) 8))) (fun _ hk => hk.1.1),by repeat (first|(with_reducible first|exact HB.out|apply y_h|apply y_i|apply y_j|refine y_n ?_ GE230.out|refine y_n ?_ GE231.out|refine y_n ?_ GE234.out)|exact HB.out),by repeat (first|(with_reducible first|exact HK.out|apply Kept.alloc|apply Kept.drewN|apply Kept.drew|refine Kept.setCell ?_ (.inr GW230.out) _|refine Kept.setCell ?_ (.inr GW231.out) _|refine Kept.setCell ?_ (.inr GW234.out) _)|exact HK.out)⟩
     ·rw [if_neg c12] at H
      exact absurd H (by simp)
    ·rw [if_neg c11] at H
     exact absurd H (by simp)
   ·rw [if_neg c10] at H
    have c10b0 : decide (x7_1 < 17) = false:=decide_eq_false c10
    clear c10
    simp only [Option.some.injEq, Prod.mk.injEq] at H
    obtain ⟨rfl, rfl, rfl⟩ := H
    have hnb52 := NB230_231.out
    have hnc52 := NB231_230.out
    have hcz53_0 : wr.cell? ⟨gb230,0,none⟩ = some (u231000):=(blk_cell BK230.out 0).trans rfl
    have hcz53_1 : wr.cell? ⟨gb230,1,none⟩ = some (.int .i64 x231001_1):=(blk_cell BK230.out 1).trans rfl
    have hfz53_0 := blk_frozen BK230.out 0
    have hfz53_1 := blk_frozen BK230.out 1
    obtain ⟨Ao54, co54, eo54⟩ := Kd.R_slice HO_231000.out
    subst eo54
    have hcz55_0 : wr.cell? ⟨gb231,0,none⟩ = some (.slice none 0 0):=(blk_cell BK231.out 0).trans rfl
    have hcz55_1 : wr.cell? ⟨gb231,1,none⟩ = some (.int .i64 x232001_1):=(blk_cell BK231.out 1).trans rfl
    have hfz55_0 := blk_frozen BK231.out 0
    have hfz55_1 := blk_frozen BK231.out 1
    go_wp2
    refine bodyPost_ret (results_ct rfl _ _ gb231 29 #[.slice Ao54 x231000_1.length co54,.int .i64 x231001_1] (0,0) _ rfl (by (with_reducible repeat (first|refine y_b ?_ _|refine y_c ?_|refine y_d ?_ _));refine blk_put (cs:=#[.slice Ao54 x231000_1.length co54,.int .i64 x232001_1]) ?_ 1 _ rfl;(with_reducible repeat (first|refine y_b ?_ _|refine y_c ?_|refine y_d ?_ _));refine blk_put (cs:=#[.slice none 0 0,.int .i64 x232001_1]) ?_ 0 _ rfl;(with_reducible repeat (first|refine y_b ?_ _|refine y_c ?_|refine y_d ?_ _));exact BK231.out) Try.underlying29 rfl (by kernel_rfl)) rfl ?_
    exact ⟨_,by first|rfl|(simp [errW_none,errW_some] <;> rfl)|(simp [*,errW_none,errW_some] <;> rfl),by (with_reducible repeat (first|apply y_e|apply y_f|apply y_g));exact y_o (Kd.R_far (p:=⟨gb231,1,none⟩) (Kd.R_far (p:=⟨gb231,0,none⟩) (Kd.R_types HO_231000.out BK231.out (by decide)) (fun _ hk => hk.2) (.slice Ao54 x231000_1.length co54)) (fun _ hk => hk.2) (.int .i64 x231001_1)) (fun _ hk => hk.1),by repeat (first|(with_reducible first|exact HB.out|apply y_h|apply y_i|apply y_j|refine y_n ?_ GE230.out|refine y_n ?_ GE231.out)|exact HB.out),by repeat (first|(with_reducible first|exact HK.out|apply Kept.alloc|apply Kept.drewN|apply Kept.drew|refine Kept.setCell ?_ (.inr GW230.out) _|refine Kept.setCell ?_ (.inr GW231.out) _)|exact HK.out)⟩

end Go.Proofs.Ytlfnjkcgefcidaa.PFnExactPoolTake
