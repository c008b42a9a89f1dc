-- Written by a program of this session over the print's form. Lean checks it.
import Derived.Test.YtbpmfdpbgcpjeaaPFnCatBytesx0
import Derived.Test.YtbpmfdpbgcpjeaaPFnCatBytesx9
import Derived.Test.YtbpmfdpbgcpjeaaPFnCatBytesx10
namespace Go.Proofs.Ytbpmfdpbgcpjeaa.PFnCatBytes
open Go.RowKit Go.Proofs.YtbpmfdpbgcpjeaaW.PrintWords Go.Proofs.YtbpmfdpbgcpjeaaW.PrintLast Go.Proofs.YtbpmfdpbgcpjeaaW.PrintMore
attribute [local go_sem] max2_int min2_int max_two min_two max_three min_three max_four min_four   -- for this text's walks alone
set_option linter.unusedVariables false
set_option linter.unusedSimpArgs false

/-! ### spec_l15Thing: function 80 -/
def spec_l15Thing.l0 : Nat → Int → List Int → Int → List Int → Int → Option (ByteArray × Int)
 | 0, _, _, _, _, _ => none
 | k + 1, x1, x5, x6, x1000, x1001 => if x6 < x1 then ((spec_l1Rd_pick.f k x1000 x1001 8).bind fun bt286 => (if 0 ≤ bt286.1 then (if bt286.1 < 8 then (if x5.length < 140737488355328 then (spec_l15Thing.l0 k x1 (x5 ++ [bt (⟨#[97, 98, 99, 100, 101, 102, 103, 104]⟩ : ByteArray) bt286.1]) (wrap64 (x6 + 1)) x1000 bt286.2) else (none)) else (none)) else (none))) else (some (strOfNums x5, x1001))
def spec_l15Thing.f (k : Nat) (s0_0 : List Int) (s0_1 : Int) (a1 : Int) : Option (ByteArray × Int) := spec_l15Thing.l0 k a1 (([] : List Int)) 0 s0_0 s0_1
theorem spec_l15Thing.mono_l : ∀ k, (∀ y0 y1 y2 y3 y4, LeO (spec_l15Thing.l0 k y0 y1 y2 y3 y4) (spec_l15Thing.l0 (k + 1) y0 y1 y2 y3 y4))
 | 0 => fun _ _ _ _ _ r h => by simp [spec_l15Thing.l0] at h
 | k + 1 => by
  have ih0 := spec_l15Thing.mono_l k
  ·intro y0 y1 y2 y3 y4
   unfold spec_l15Thing.l0
   repeat' first
   | (with_reducible exact ih0 _ _ _ _ _)
   | (with_reducible exact spec_l1Rd_pick.mono _ _ _ _)
   | (with_reducible exact LeO.refl _)
   | (with_reducible exact LeO.none _)
   | (with_reducible refine LeO.ite ?_ ?_)
   | (with_reducible refine LeO.bind ?_ (fun _ => ?_))
   | exact ih0 _ _ _ _ _
   | exact spec_l1Rd_pick.mono _ _ _ _
   | exact LeO.none _
   | refine LeO.ite ?_ ?_
   | refine LeO.bind ?_ (fun _ => ?_)
theorem spec_l15Thing.mono : ∀ a0 a1 a2 k, LeO (spec_l15Thing.f k a0 a1 a2) (spec_l15Thing.f (k + 1) a0 a1 a2) := by
 intro a0 a1 a2 k;have ih0 := spec_l15Thing.mono_l k;unfold spec_l15Thing.f
 repeat' first
   | (with_reducible exact ih0 _ _ _ _ _)
   | (with_reducible exact spec_l1Rd_pick.mono _ _ _ _)
   | (with_reducible exact LeO.refl _)
   | (with_reducible exact LeO.none _)
   | (with_reducible refine LeO.ite ?_ ?_)
   | (with_reducible refine LeO.bind ?_ (fun _ => ?_))
   | exact ih0 _ _ _ _ _
   | exact spec_l1Rd_pick.mono _ _ _ _
   | exact LeO.none _
   | refine LeO.ite ?_ ?_
   | refine LeO.bind ?_ (fun _ => ?_)
set_option maxHeartbeats 8000000 in
set_option maxRecDepth 100000 in
theorem spec_l15Thing.calls (k : Nat) (g : Nat) (s0_0 : List Int) (s0_1 : Int) (a1 : Int) (r1 : ByteArray) (r2 : Int) (w0 w : World) (hI : IsS87 w0 w g s0_0 s0_1) (hB : Below w0.heap.size w0 w) (h : spec_l15Thing.f k s0_0 s0_1 a1 = some (r1, r2)) :
  Calls Try.prog 80 #[.pointer (some ⟨g, 0, none⟩), .int .i64 a1] w fun e w' => e = .returned (.string r1) ∧ IsS87 w0 w' g s0_0 r2 ∧ Below w0.heap.size w0 w' ∧ KeepBut w w' g none := by
 have HI0 := z_a hI;have HK := z_a (KeepBut.refl w g none);have HL := z_a hB.size;clear hI;have HW0 := z_a hB.size;have HB := z_a hB;clear hB;have H : (spec_l15Thing.l0 k a1 (([] : List Int)) 0 s0_0 s0_1) = some (r1,r2):=h;clear h;obtain ⟨y283,hy283⟩ : ∃ y_ : List Int,y_ = (([] : List Int)):=⟨_,rfl⟩;replace H : (spec_l15Thing.l0 k a1 y283 0 s0_0 s0_1) = some (r1,r2):=by first|(rw [hy283];with_reducible exact H)|(have H2_:=(Option.bind_some _ _).symm.trans H;rw [hy283];with_reducible exact H2_)|(have H2_:=(Option.bind_some _ _).symm.trans H;with_reducible exact H2_)|with_reducible exact H|(rw [hy283];exact H)|exact H
 have Ny283 := z_a hy283;clear hy283;have H' := z_a H;clear H
 go_enter Try.func80, Try.ntmps80
 go_wp2_with (first|((with_reducible refine gate_dst (N:=7) rfl ?_);refine Kd.R_lit (Kd.int .u8) _ 5 ?hg (N:=7) ?hd (xs:=([] : List Int)) (inner:=[]) (ok:=fun _ => True) (okp:=fun _ => True) ?hr ?hp (fun _ hk => hk) trivial (Below.refl _ _) (Nat.le_refl _) (by simp) ?_;(case hd => rfl);(case hg => rfl);(case hr => first|(go_simp;done)|(go_simp;rfl));(case hp => exact (Reps.none _ _));intro v284 w3 ho4 hb hg_ hnew_;clear hg_ hnew_;(first|rw [← Ny283.out] at ho4|(simp only [Int.reduceToNat] at ho4;rw [← Ny283.out] at ho4));have n0_:=z_a (Kd.R_lower ho4 (keep_size (w:=w) (g:=g) (row:=none) (by repeat (first|(with_reducible first|exact HK.out|apply y_n|apply y_k|apply y_l|apply y_m)|exact HK.out))));have n1_:=z_a (IsS87.below (by repeat (first|(with_reducible first|exact HI0.out|apply IsS87.alloc|apply IsS87.drewN|apply IsS87.drew|apply IsS87.set_1)|exact HI0.out)) hb);have n2_:=z_a (KeepBut.trans (by repeat (first|(with_reducible first|exact HK.out|apply y_n|apply y_k|apply y_l|apply y_m)|exact HK.out)) (KeepBut.of_below hb g none) (.inl rfl));have n3_:=z_a (z_f (by repeat (first|(with_reducible first|exact HB.out|apply y_h|apply y_i|apply y_j|refine y_s ?_ (IsS87.ge HI0.out))|exact HB.out)) hb);clear HI0 HK HB;have HO285:=n0_;have HI0:=n1_;have HK:=n2_;have HB:=n3_;clear n0_ n1_ n2_ n3_;clear hb ho4))
 go_loopg [5,6] k (fun kq v5 v6 w' => ∃ (x5_1 : List Int) (x6_1 : Int) (x1001_1 : Int),v6 = .int .i64 x6_1 ∧ Aside0 (spec_l15Thing.l0 kq a1 x5_1 x6_1 s0_0 x1001_1 = some (r1,r2)) ∧ Aside0 (kq ≤ k) ∧ Aside0 (Kd.R (Kd.int .u8) 5 w' w.heap.size (fun _ => True) v5 x5_1) ∧ Aside0 (IsS87 w0 w' g s0_0 x1001_1) ∧ Aside0 (KeepBut w w' g none) ∧ Aside0 (Below w0.heap.size w0 w'))
 case atStart => exact ⟨(y283),(0),(s0_1),(by first|rfl|(simp;done)|(simp [*];done)),H',⟨Nat.le_refl _⟩,⟨by (with_reducible repeat (first|apply y_e|apply y_f|apply y_g));exact HO285.out⟩,⟨by repeat (first|(with_reducible first|exact HI0.out|apply IsS87.alloc|apply IsS87.drewN|apply IsS87.drew|apply IsS87.set_1)|exact HI0.out)⟩,⟨by repeat (first|(with_reducible first|exact HK.out|apply y_n|apply y_k|apply y_l|apply y_m)|exact HK.out)⟩,⟨by repeat (first|(with_reducible first|exact HB.out|apply y_h|apply y_i|apply y_j|refine y_s ?_ (IsS87.ge HI0.out))|exact HB.out)⟩⟩
 case round =>
  clear H'
  try clear p2
  obtain ⟨x5_1,x6_1,x1001_1,rfl,HA,HK1,HO_5,HI0,HK,HB⟩:=hrel;cases gk with
  | zero => exact absurd HA.out (by simp [spec_l15Thing.l0])
  | succ k1 =>
   have H := HA.out;clear HA;simp only [spec_l15Thing.l0] at H
   by_cases c5 : x6_1 < a1
   ·rw [if_pos c5] at H;have c5b0 : decide (x6_1 < a1) = true := z_e c5;clear c5;replace H := z_8 H;obtain ⟨⟨t286, t287⟩, A60, H⟩ := H;replace H : (if 0 ≤ t286 then (if t286 < 8 then (if x5_1.length < 140737488355328 then (spec_l15Thing.l0 k1 a1 (x5_1++[bt (⟨#[97,98,99,100,101,102,103,104]⟩ : ByteArray) t286]) (wrap64 (x6_1 + 1)) s0_0 t287) else (none)) else (none)) else (none)) = some (r1,r2):=H;have A6 := z_a A60;clear A60
    by_cases c7 : 0 ≤ t286
    ·rw [if_pos c7] at H;have c7b0 : decide (0 ≤ t286) = true := z_e c7;clear c7
     by_cases c8 : t286 < 8
     ·rw [if_pos c8] at H;have c8b0 : decide (t286 < 8) = true := z_e c8;clear c8
      by_cases c10 : x5_1.length < 140737488355328
      ·rw [if_pos c10] at H;have LMc10 := z_a c10;clear c10;obtain ⟨y288,hy288⟩ : ∃ y_ : List Int,y_ = (x5_1++[bt (⟨#[97,98,99,100,101,102,103,104]⟩ : ByteArray) t286]):=⟨_,rfl⟩;replace H : (spec_l15Thing.l0 k1 a1 y288 (wrap64 (x6_1 + 1)) s0_0 t287) = some (r1,r2):=by first|(rw [hy288];with_reducible exact H)|(have H2_:=(Option.bind_some _ _).symm.trans H;rw [hy288];with_reducible exact H2_)|(have H2_:=(Option.bind_some _ _).symm.trans H;with_reducible exact H2_)|with_reducible exact H|(rw [hy288];exact H)|exact H
       have Ny288 := z_a hy288;clear hy288;have H' := z_a H;clear H
       go_wp2_with (first|((with_reducible refine gate_callee (f:=52) rfl ?_);refine goesL_ (some 15) rfl rfl Try.func52 (by kernel_rfl) rfl #[.pointer (some ⟨g,0,none⟩),.int .i64 8] rfl (by (try simp only [z_7,List.map_cons,List.map_nil]);first|done|rfl|(simp only [z_6,z_5];rfl)) ?_;(with_reducible refine (spec_l1Rd_pick.calls k1 g s0_0 x1001_1 8 t286 t287 w0 _ ?side1 ?side2 A6.out).mono ?_);(case side1 => repeat (first|(with_reducible first|exact HI0.out|apply IsS87.alloc|apply IsS87.drewN|apply IsS87.drew|apply IsS87.set_1)|exact HI0.out));(case side2 => repeat (first|(with_reducible first|exact HB.out|apply y_h|apply y_i|apply y_j|refine y_s ?_ (IsS87.ge HI0.out))|exact HB.out));rintro e w11 ⟨rfl,hi,hb,hk⟩;refine ⟨_,rfl,?_⟩;have n0_:=z_a (y_t (Kd.R_keep (IsS87.apart (show IsS87 w0 _ g s0_0 x1001_1 from by repeat (first|(with_reducible first|exact HI0.out|apply IsS87.alloc|apply IsS87.drewN|apply IsS87.drew|apply IsS87.set_1)|exact HI0.out)) (by (with_reducible repeat (first|apply y_e|apply y_f|apply y_g));exact HO_5.out) (by decide)) hk (fun _ h => h.2)) (fun _ h => h.1));have n1_:=z_a (KeepBut.trans (by repeat (first|(with_reducible first|exact HK.out|apply y_n|apply y_k|apply y_l|apply y_m)|exact HK.out)) hk (.inl rfl));have n2_:=z_a (hb);have n3_:=z_a (hi);clear HO_5 HK HB HI0;have HO_5:=n0_;have HK:=n1_;have HB:=n2_;have HI0:=n3_;clear n0_ n1_ n2_ n3_;(try clear hb);(try clear hb2);(try clear hk);(try clear hi);have p9 : 0 ≤ (t286 : Int):=z_9 (by first|(with_reducible assumption)|assumption);have q9 : t286 < (8 : Int):=z_9 (by first|(with_reducible assumption)|assumption);have hx9:=bt_at (⟨#[97,98,99,100,101,102,103,104]⟩ : ByteArray) t286;replace p9:=eq_true p9;replace q9:=eq_true q9)|((with_reducible refine gate_builtin (b:=.append) (xs:=#[.tmp 13,.tmp 17]) rfl ?_);at_builtin;refine Kd.R_append (Kd.int .u8) w.heap.size rfl (.tmp 13) (.tmp 17) 42 5 (.int .u8 0) 1 rfl Try.underlying42 info5 rfl (by decide) (by omega) u5 x5_1 (bt (⟨#[97,98,99,100,101,102,103,104]⟩ : ByteArray) t286) [.int .u8 (bt (⟨#[97,98,99,100,101,102,103,104]⟩ : ByteArray) t286)] (fun _ => True) (fun _ => False) rfl rfl ?aP (fun _ hk => hk.elim) ?aF ?aO (Below.refl _ _) ?aS ?aL ?_;(case aP => exact rfl);(case aF => exact (fun _ _ => trivial));(case aO => exact (by (with_reducible repeat (first|apply y_e|apply y_f|apply y_g));exact HO_5.out));(case aS => exact (keep_size (w:=w) (g:=g) (row:=none) (by repeat (first|(with_reducible first|exact HK.out|apply y_n|apply y_k|apply y_l|apply y_m)|exact HK.out))));(case aL => have:=LMc10.out;omega);intro v289 w12 ho hb hg hat;rw [← Ny288.out] at ho;have n0_:=z_a (IsS87.grown (by repeat (first|(with_reducible first|exact HI0.out|apply IsS87.alloc|apply IsS87.drewN|apply IsS87.drew|apply IsS87.set_1)|exact HI0.out)) hg (IsS87.own_ne HI0.out HO_5.out (by decide)));have n1_:=z_a (below_weaken (by repeat (first|(with_reducible first|exact HB.out|apply y_h|apply y_i|apply y_j|refine y_s ?_ (IsS87.ge HI0.out))|exact HB.out)) HL.out hb);have n2_:=z_a (KeepBut.trans (by repeat (first|(with_reducible first|exact HK.out|apply y_n|apply y_k|apply y_l|apply y_m)|exact HK.out)) (KeepBut.of_grown hg g) (Kd.R_base2 HO_5.out));have n3_:=z_a (ho);clear HI0 HB HK HO_5;have HI0:=n0_;have HB:=n1_;have HK:=n2_;have HO290:=n3_;clear n0_ n1_ n2_ n3_;clear ho hb hg hat))
       go_roundg k1
       case measure => have := HK1.out; omega
       case rel => exact ⟨(y288),(wrap64 (x6_1 + 1)),(t287),(by first|rfl|(simp;done)|(simp [*];done)),H',⟨by have:=HK1.out;omega⟩,⟨by (with_reducible repeat (first|apply y_e|apply y_f|apply y_g));exact HO290.out⟩,⟨by repeat (first|(with_reducible first|exact HI0.out|apply IsS87.alloc|apply IsS87.drewN|apply IsS87.drew|apply IsS87.set_1)|exact HI0.out)⟩,⟨by repeat (first|(with_reducible first|exact HK.out|apply y_n|apply y_k|apply y_l|apply y_m)|exact HK.out)⟩,⟨by repeat (first|(with_reducible first|exact HB.out|apply y_h|apply y_i|apply y_j|refine y_s ?_ (IsS87.ge HI0.out))|exact HB.out)⟩⟩
      ·rw [if_neg c10] at H;exact absurd H (by simp)
     ·rw [if_neg c8] at H;exact absurd H (by simp)
    ·rw [if_neg c7] at H;exact absurd H (by simp)
   ·rw [if_neg c5] at H;have c5b0 : decide (x6_1 < a1) = false := decide_eq_false c5;clear c5;simp only [Option.some.injEq, Prod.mk.injEq] at H;obtain ⟨rfl, rfl⟩ := H;have hcv13:=own_string (P:=Try.prog) Try.underlying42 Try.underlying5 Try.underlying9 (Kd.own_of_R HO_5.out)
    go_wp2
    go_ret
    exact ⟨by first|rfl|(simp [errW_none,errW_some] <;> rfl)|(simp [*,errW_none,errW_some] <;> rfl),by repeat (first|(with_reducible first|exact HI0.out|apply IsS87.alloc|apply IsS87.drewN|apply IsS87.drew|apply IsS87.set_1)|exact HI0.out),by repeat (first|(with_reducible first|exact HB.out|apply y_h|apply y_i|apply y_j|refine y_s ?_ (IsS87.ge HI0.out))|exact HB.out),by repeat (first|(with_reducible first|exact HK.out|apply y_n|apply y_k|apply y_l|apply y_m)|exact HK.out)⟩

end Go.Proofs.Ytbpmfdpbgcpjeaa.PFnCatBytes
