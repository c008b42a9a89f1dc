-- Written by a program of this session over the print's form. Lean checks it.
import Derived.Test.YtbpmfdpbgcpjeaaPFnExactCatTakex0
import Derived.Test.YtbpmfdpbgcpjeaaPFnExactCatTakex17
namespace Go.Proofs.Ytbpmfdpbgcpjeaa.PFnExactCatTake
open Go.RowKit Go.Proofs.YtbpmfdpbgcpjeaaW.PrintWords Go.Proofs.YtbpmfdpbgcpjeaaW.PrintLast Go.Proofs.YtbpmfdpbgcpjeaaW.PrintMore
attribute [local go_sem] max2_int min2_int max_two min_two max_three min_three max_four min_four   -- for this text's walks alone
set_option linter.unusedVariables false
set_option linter.unusedSimpArgs false

/-! ### laws_markItemS: function 56 -/
def laws_markItemS.l0 : Nat → List (S36) → Int → Int → Option (Int × (List (S36)))
 | 0, _, _, _ => none
 | k + 1, x0, x1, x5 => if x5 < (x0.length : Int) then (if 0 ≤ x5 then ((some (x0.set (x5 : Int).toNat (⟨x1, (rd_T36 x0 x5).f1, (rd_T36 x0 x5).f2, (rd_T36 x0 x5).f3⟩ : S36) : List (S36))).bind fun y242 => ((laws_markText.f k (wrap64 (x1 + 1))).bind fun t243 => ((some (y242.set (x5 : Int).toNat (⟨(rd_T36 y242 x5).f0, t243, (rd_T36 y242 x5).f2, (rd_T36 y242 x5).f3⟩ : S36) : List (S36))).bind fun y244 => ((some (y244.set (x5 : Int).toNat (⟨(rd_T36 y244 x5).f0, (rd_T36 y244 x5).f1, wrap64 ((wrap64 (x1 + 1)) + 1), (rd_T36 y244 x5).f3⟩ : S36) : List (S36))).bind fun y245 => ((laws_markText.f k (wrap64 ((wrap64 ((wrap64 (x1 + 1)) + 1)) + 1))).bind fun t246 => (laws_markItemS.l0 k (y245.set (x5 : Int).toNat (⟨(rd_T36 y245 x5).f0, (rd_T36 y245 x5).f1, (rd_T36 y245 x5).f2, t246⟩ : S36)) (wrap64 ((wrap64 ((wrap64 ((wrap64 (x1 + 1)) + 1)) + 1)) + 1)) (wrap64 (x5 + 1)))))))) else (none)) else (some (x1, x0))
def laws_markItemS.f (k : Nat) (l0 : List (S36)) (a1 : Int) : Option (Int × (List (S36))) := laws_markItemS.l0 k l0 a1 0
theorem laws_markItemS.mono_l : ∀ k, (∀ y0 y1 y2, LeO (laws_markItemS.l0 k y0 y1 y2) (laws_markItemS.l0 (k + 1) y0 y1 y2))
 | 0 => fun _ _ _ r h => by simp [laws_markItemS.l0] at h
 | k + 1 => by
  have ih0 := laws_markItemS.mono_l k
  ·intro y0 y1 y2
   unfold laws_markItemS.l0
   repeat' first
   | (with_reducible exact ih0 _ _ _)
   | (with_reducible exact laws_markText.mono _ _)
   | (with_reducible exact LeO.refl _)
   | (with_reducible exact LeO.none _)
   | (with_reducible refine LeO.ite ?_ ?_)
   | (with_reducible refine LeO.bind ?_ (fun _ => ?_))
   | exact ih0 _ _ _
   | exact laws_markText.mono _ _
   | exact LeO.none _
   | refine LeO.ite ?_ ?_
   | refine LeO.bind ?_ (fun _ => ?_)
theorem laws_markItemS.mono : ∀ a0 a1 k, LeO (laws_markItemS.f k a0 a1) (laws_markItemS.f (k + 1) a0 a1) := by
 intro a0 a1 k
 have ih0 := laws_markItemS.mono_l k
 unfold laws_markItemS.f
 repeat' first
   | (with_reducible exact ih0 _ _ _)
   | (with_reducible exact laws_markText.mono _ _)
   | (with_reducible exact LeO.refl _)
   | (with_reducible exact LeO.none _)
   | (with_reducible refine LeO.ite ?_ ?_)
   | (with_reducible refine LeO.bind ?_ (fun _ => ?_))
   | exact ih0 _ _ _
   | exact laws_markText.mono _ _
   | exact LeO.none _
   | refine LeO.ite ?_ ?_
   | refine LeO.bind ?_ (fun _ => ?_)
set_option maxHeartbeats 8000000 in
set_option maxRecDepth 100000 in
theorem laws_markItemS.calls (k : Nat) (P0_ : Nat → Prop) (u9000_ : Value) (l0 : List (S36)) (a1 : Int) (r1 : Int) (r2 : List (S36)) (w0 w : World) (hB : Below w0.heap.size w0 w) (ho0 : Kd.R k36 36 w w0.heap.size P0_ u9000_ l0) (h : laws_markItemS.f k l0 a1 = some (r1, r2)) :
  Calls Try.prog 56 #[u9000_, .int .i64 a1] w fun e w' => e = .returned (.int .i64 r1) ∧ Kd.R k36 36 w' w0.heap.size (fun k_ => (P0_ k_ ∨ w.heap.size ≤ k_)) u9000_ r2 ∧ Below w0.heap.size w0 w' ∧ Kept w w' (fun k_ => P0_ k_) := by
 have HO0:=Aside0.mk (show Kd.R k36 36 w w0.heap.size (fun k_ => (P0_ k_ ∨ w.heap.size ≤ k_)) u9000_ l0 from Kd.R_mono ho0 (fun k_ hk => (.inl hk)))
 have HK := Aside0.mk (Kept.refl w (fun k_ => P0_ k_))
 have HW0 := Aside0.mk hB.size
 have HB := Aside0.mk hB
 clear hB
 have H : (laws_markItemS.l0 k l0 a1 0) = some (r1, r2) := h
 clear h
 have H' := Aside0.mk H
 clear H
 go_enter Try.func56, Try.ntmps56
 go_wp2
 go_loopg [1,5] k (fun kq v1 v5 w' => ∃ (x0_1 : List (S36)) (x1_1 : Int) (x5_1 : Int),v1 = .int .i64 x1_1 ∧ v5 = .int .i64 x5_1 ∧ Aside0 (laws_markItemS.l0 kq x0_1 x1_1 x5_1 = some (r1,r2)) ∧ Aside0 (kq ≤ k) ∧ Aside0 (Kd.R k36 36 w' w0.heap.size (fun k_ => (P0_ k_ ∨ w.heap.size ≤ k_)) u9000_ x0_1) ∧ Aside0 (Kept w w' (fun k_ => P0_ k_)) ∧ Aside0 (Below w0.heap.size w0 w'))
 case atStart => exact ⟨(l0),(a1),(0),(by first|rfl|(simp;done)|(simp [*];done)),(by first|rfl|(simp;done)|(simp [*];done)),H',⟨Nat.le_refl _⟩,⟨by (with_reducible repeat (first|apply Kd.R_alloc|apply Kd.R_drewN|apply Kd.R_drew));exact HO0.out⟩,⟨by repeat (first|(with_reducible first|exact HK.out|apply Kept.alloc|apply Kept.drewN|apply Kept.drew)|exact HK.out)⟩,⟨by repeat (first|(with_reducible first|exact HB.out|apply below_alloc|apply pw_below_drewN|apply below_drew1)|exact HB.out)⟩⟩
 case round =>
  clear H'
  try clear p2
  obtain ⟨x0_1,x1_1,x5_1,rfl,rfl,HA,HK1,HO_0,HK,HB⟩:=hrel
  cases gk with
  | zero => exact absurd HA.out (by simp [laws_markItemS.l0])
  | succ k1 =>
   have H := HA.out
   clear HA
   simp only [laws_markItemS.l0] at H
   by_cases c3 : x5_1 < (x0_1.length : Int)
   ·rw [if_pos c3] at H
    have c3b0 : decide (x5_1 < (x0_1.length : Int)) = true:=decide_eq_true c3
    clear c3
    by_cases c4 : 0 ≤ x5_1
    ·rw [if_pos c4] at H
     have c4b0 : decide (0 ≤ x5_1) = true := decide_eq_true c4
     clear c4
     obtain ⟨y242,hy242⟩ : ∃ y_ : List (S36),y_ = (x0_1.set (x5_1 : Int).toNat (⟨x1_1,(rd_T36 x0_1 x5_1).f1,(rd_T36 x0_1 x5_1).f2,(rd_T36 x0_1 x5_1).f3⟩ : S36)):=⟨_,rfl⟩
     replace H : ((laws_markText.f k1 (wrap64 (x1_1 + 1))).bind fun t243 => ((some (y242.set (x5_1 : Int).toNat (⟨(rd_T36 y242 x5_1).f0,t243,(rd_T36 y242 x5_1).f2,(rd_T36 y242 x5_1).f3⟩ : S36) : List (S36))).bind fun y244 => ((some (y244.set (x5_1 : Int).toNat (⟨(rd_T36 y244 x5_1).f0,(rd_T36 y244 x5_1).f1,wrap64 ((wrap64 (x1_1 + 1)) + 1),(rd_T36 y244 x5_1).f3⟩ : S36) : List (S36))).bind fun y245 => ((laws_markText.f k1 (wrap64 ((wrap64 ((wrap64 (x1_1 + 1)) + 1)) + 1))).bind fun t246 => (laws_markItemS.l0 k1 (y245.set (x5_1 : Int).toNat (⟨(rd_T36 y245 x5_1).f0,(rd_T36 y245 x5_1).f1,(rd_T36 y245 x5_1).f2,t246⟩ : S36)) (wrap64 ((wrap64 ((wrap64 ((wrap64 (x1_1 + 1)) + 1)) + 1)) + 1)) (wrap64 (x5_1 + 1))))))) = some (r1,r2):=by first|(rw [hy242];with_reducible exact H)|(have H2_:=(Option.bind_some _ _).symm.trans H;rw [hy242];with_reducible exact H2_)|(have H2_:=(Option.bind_some _ _).symm.trans H;with_reducible exact H2_)|with_reducible exact H|(rw [hy242];exact H)|exact H
     have Ny242 := Aside0.mk hy242
     clear hy242
     replace H := Option.bind_eq_some_iff.mp H
     obtain ⟨t243, A60, H⟩ := H
     replace H : ((some (y242.set (x5_1 : Int).toNat (⟨(rd_T36 y242 x5_1).f0,t243,(rd_T36 y242 x5_1).f2,(rd_T36 y242 x5_1).f3⟩ : S36) : List (S36))).bind fun y244 => ((some (y244.set (x5_1 : Int).toNat (⟨(rd_T36 y244 x5_1).f0,(rd_T36 y244 x5_1).f1,wrap64 ((wrap64 (x1_1 + 1)) + 1),(rd_T36 y244 x5_1).f3⟩ : S36) : List (S36))).bind fun y245 => ((laws_markText.f k1 (wrap64 ((wrap64 ((wrap64 (x1_1 + 1)) + 1)) + 1))).bind fun t246 => (laws_markItemS.l0 k1 (y245.set (x5_1 : Int).toNat (⟨(rd_T36 y245 x5_1).f0,(rd_T36 y245 x5_1).f1,(rd_T36 y245 x5_1).f2,t246⟩ : S36)) (wrap64 ((wrap64 ((wrap64 ((wrap64 (x1_1 + 1)) + 1)) + 1)) + 1)) (wrap64 (x5_1 + 1)))))) = some (r1,r2):=H
     have A6 := Aside0.mk A60
     clear A60
     obtain ⟨y244,hy244⟩ : ∃ y_ : List (S36),y_ = (y242.set (x5_1 : Int).toNat (⟨(rd_T36 y242 x5_1).f0,t243,(rd_T36 y242 x5_1).f2,(rd_T36 y242 x5_1).f3⟩ : S36)):=⟨_,rfl⟩
     replace H : ((some (y244.set (x5_1 : Int).toNat (⟨(rd_T36 y244 x5_1).f0,(rd_T36 y244 x5_1).f1,wrap64 ((wrap64 (x1_1 + 1)) + 1),(rd_T36 y244 x5_1).f3⟩ : S36) : List (S36))).bind fun y245 => ((laws_markText.f k1 (wrap64 ((wrap64 ((wrap64 (x1_1 + 1)) + 1)) + 1))).bind fun t246 => (laws_markItemS.l0 k1 (y245.set (x5_1 : Int).toNat (⟨(rd_T36 y245 x5_1).f0,(rd_T36 y245 x5_1).f1,(rd_T36 y245 x5_1).f2,t246⟩ : S36)) (wrap64 ((wrap64 ((wrap64 ((wrap64 (x1_1 + 1)) + 1)) + 1)) + 1)) (wrap64 (x5_1 + 1))))) = some (r1,r2):=by first|(rw [hy244];with_reducible exact H)|(have H2_:=(Option.bind_some _ _).symm.trans H;rw [hy244];with_reducible exact H2_)|(have H2_:=(Option.bind_some _ _).symm.trans H;with_reducible exact H2_)|with_reducible exact H|(rw [hy244];exact H)|exact H
     have Ny244 := Aside0.mk hy244
     clear hy244
     obtain ⟨y245,hy245⟩ : ∃ y_ : List (S36),y_ = (y244.set (x5_1 : Int).toNat (⟨(rd_T36 y244 x5_1).f0,(rd_T36 y244 x5_1).f1,wrap64 ((wrap64 (x1_1 + 1)) + 1),(rd_T36 y244 x5_1).f3⟩ : S36)):=⟨_,rfl⟩
     replace H : ((laws_markText.f k1 (wrap64 ((wrap64 ((wrap64 (x1_1 + 1)) + 1)) + 1))).bind fun t246 => (laws_markItemS.l0 k1 (y245.set (x5_1 : Int).toNat (⟨(rd_T36 y245 x5_1).f0,(rd_T36 y245 x5_1).f1,(rd_T36 y245 x5_1).f2,t246⟩ : S36)) (wrap64 ((wrap64 ((wrap64 ((wrap64 (x1_1 + 1)) + 1)) + 1)) + 1)) (wrap64 (x5_1 + 1)))) = some (r1,r2):=by first|(rw [hy245];with_reducible exact H)|(have H2_:=(Option.bind_some _ _).symm.trans H;rw [hy245];with_reducible exact H2_)|(have H2_:=(Option.bind_some _ _).symm.trans H;with_reducible exact H2_)|with_reducible exact H|(rw [hy245];exact H)|exact H
     have Ny245 := Aside0.mk hy245
     clear hy245
     replace H := Option.bind_eq_some_iff.mp H
     obtain ⟨t246, A90, H⟩ := H
     replace H : (laws_markItemS.l0 k1 (y245.set (x5_1 : Int).toNat (⟨(rd_T36 y245 x5_1).f0,(rd_T36 y245 x5_1).f1,(rd_T36 y245 x5_1).f2,t246⟩ : S36)) (wrap64 ((wrap64 ((wrap64 ((wrap64 (x1_1 + 1)) + 1)) + 1)) + 1)) (wrap64 (x5_1 + 1))) = some (r1,r2):=H
     have A9 := Aside0.mk A90
     clear A90
     obtain ⟨y247,hy247⟩ : ∃ y_ : List (S36),y_ = (y245.set (x5_1 : Int).toNat (⟨(rd_T36 y245 x5_1).f0,(rd_T36 y245 x5_1).f1,(rd_T36 y245 x5_1).f2,t246⟩ : S36)):=⟨_,rfl⟩
     replace H : (laws_markItemS.l0 k1 y247 (wrap64 ((wrap64 ((wrap64 ((wrap64 (x1_1 + 1)) + 1)) + 1)) + 1)) (wrap64 (x5_1 + 1))) = some (r1,r2):=by first|(rw [hy247];with_reducible exact H)|(have H2_:=(Option.bind_some _ _).symm.trans H;rw [hy247];with_reducible exact H2_)|(have H2_:=(Option.bind_some _ _).symm.trans H;with_reducible exact H2_)|with_reducible exact H|(rw [hy247];exact H)|exact H
     have Ny247 := Aside0.mk hy247
     clear hy247
     have H' := Aside0.mk H
     clear H
     obtain ⟨Ao11, co11, eo11⟩ := Kd.R_slice HO_0.out
     subst eo11
     have p5 : 0 ≤ (x5_1 : Int):=of_decide_eq_true (by first|(with_reducible assumption)|assumption)
     have q5 : (x5_1 : Int) < ((x0_1.length : Int) : Int):=of_decide_eq_true (by first|(with_reducible assumption)|assumption)
     obtain ⟨go5,co5,eo5,gb5,gl5,cl5,HG5⟩:=Kd.R_form HO_0.out (by omega)
     (first|cases eo5|(injection eo5 with ea_ en_ ec_;(first|subst ea_|(injection ea_ with ea_;subst ea_));subst ec_;clear en_))
     have GB5 := Aside0.mk gb5
     have GG5 := Aside0.mk HG5
     clear gb5 gl5 HG5
     have HMgo5:=Aside0.mk (show (P0_ go5 ∨ w.heap.size ≤ go5) from (HO_0.out.1 _ rfl))
     obtain ⟨ce5,hcl5,hM5,hcc5,hfr5⟩:=Kd.R_elem HO_0.out z36 (x5_1 : Int) p5 q5
     obtain rfl := k36_openM hM5
     have hx5_0 : wr.cell? ⟨go5,(x5_1 : Int).toNat * 4,none⟩ = some (.int .i64 ((rd_T36 x0_1 x5_1).f0)):=hcc5 0 _ rfl
     have hx5_1 : wr.cell? ⟨go5,(x5_1 : Int).toNat * 4 + 1,none⟩ = some (.string ((rd_T36 x0_1 x5_1).f1)):=hcc5 1 _ rfl
     have hx5_2 : wr.cell? ⟨go5,(x5_1 : Int).toNat * 4 + 2,none⟩ = some (.int .i64 ((rd_T36 x0_1 x5_1).f2)):=hcc5 2 _ rfl
     have hx5_3 : wr.cell? ⟨go5,(x5_1 : Int).toNat * 4 + 3,none⟩ = some (.string ((rd_T36 x0_1 x5_1).f3)):=hcc5 3 _ rfl
     have hf5_0 : wr.frozen? ⟨go5,(x5_1 : Int).toNat * 4,none⟩ = false:=hfr5 0
     have hf5_1 : wr.frozen? ⟨go5,(x5_1 : Int).toNat * 4 + 1,none⟩ = false:=hfr5 1
     have hf5_2 : wr.frozen? ⟨go5,(x5_1 : Int).toNat * 4 + 2,none⟩ = false:=hfr5 2
     have hf5_3 : wr.frozen? ⟨go5,(x5_1 : Int).toNat * 4 + 3,none⟩ = false:=hfr5 3
     clear hcl5 hcc5 hfr5 hM5
     replace p5 := eq_true p5
     replace q5 := eq_true q5
     have HX12:=Aside0.mk (show Kd.R k36 36 wr w0.heap.size (fun k_ => (P0_ k_ ∨ w.heap.size ≤ k_)) (.slice (some ⟨go5,0,none⟩) x0_1.length co11) x0_1 from (by (with_reducible repeat (first|apply Kd.R_alloc|apply Kd.R_drewN|apply Kd.R_drew));exact HO_0.out))
     obtain ⟨ce12,hcl12,hM12,hcc12,hfr12⟩:=Kd.R_elem HX12.out z36 (x5_1 : Int) (of_decide_eq_true (by first|(with_reducible assumption)|assumption)) (by have h_ : (x5_1 : Int) < ((x0_1.length : Int) : Int):=of_decide_eq_true (by first|(with_reducible assumption)|assumption);first|exact h_|(have e_:=(Kd.R_reads' HO_0.out).1;omega)|simpa using h_)
     obtain rfl := k36_openM hM12
     have HP12:=Kd.R_seg HX12.out (x5_1 : Int) (of_decide_eq_true (by first|(with_reducible assumption)|assumption)) (by have h_ : (x5_1 : Int) < ((x0_1.length : Int) : Int):=of_decide_eq_true (by first|(with_reducible assumption)|assumption);first|exact h_|(have e_:=(Kd.R_reads' HO_0.out).1;omega)|simpa using h_) (seg:=[.int .i64 x1_1]) (j:=0) hcl12 hcc12 (show 1 ≤ 4 from by decide) (x':=(⟨x1_1,(rd_T36 x0_1 x5_1).f1,(rd_T36 x0_1 x5_1).f2,(rd_T36 x0_1 x5_1).f3⟩ : S36)) (k36_mkM _ _ _ (⟨x1_1,(rd_T36 x0_1 x5_1).f1,(rd_T36 x0_1 x5_1).f2,(rd_T36 x0_1 x5_1).f3⟩ : S36) ) (fun _ hk => hk)
     have hx12_0 := hcc12 0 _ rfl
     (try simp only [show (k36).sz = 4 from rfl,Nat.mul_one,Nat.add_zero] at hx12_0)
     have hf12_0 := hfr12 0
     (try simp only [show (k36).sz = 4 from rfl,Nat.mul_one,Nat.add_zero] at hf12_0)
     clear hcl12 hcc12 hfr12 hM12
     go_wp2_with (first|((with_reducible refine gate_store (t:=3) (p:=16) rfl ?_);refine store_event (t:=3) (p:=16) (v:=?vo_w13) (w1:=(wr.setCell ⟨go5,(x5_1 : Int).toNat * 4,none⟩ (.int .i64 x1_1))) ?hg ?ho ?hn ?hr ?_;(case ho => rfl);(case hg => rfl);(case hn => rfl);(case hr => first|(go_simp;done)|(go_simp;rfl));intro w13 hw;have hg : wr.grownBy w13 (some go5):=(by rw [hw];exact HP12.2);have hp_ : Kd.R k36 36 w13 w0.heap.size (fun k_ => (P0_ k_ ∨ w.heap.size ≤ k_)) (.slice (some ⟨go5,0,none⟩) x0_1.length co11) y242:=(by rw [hw,Ny242.out];exact HP12.1);clear HP12;have n0_:=Aside0.mk (hp_);have n1_:=Aside0.mk ((by rw [hw];exact below_set (HB.out) GB5.out : Below w0.heap.size w0 w13));have n2_:=Aside0.mk (Kept.of_grown (S:=(fun k_ => P0_ k_)) hg (by repeat (first|(with_reducible first|exact HK.out|apply Kept.alloc|apply Kept.drewN|apply Kept.drew)|exact HK.out)) (fun k_ e_ => (HO_0.out.1 k_ e_)));clear HO_0 HB HK;have HO_0:=n0_;have HB:=n1_;have HK:=n2_;clear n0_ n1_ n2_;clear hg hw hp_)|((with_reducible refine gate_callee (f:=76) rfl ?_);refine goesL_ (some 22) rfl rfl Try.func76 (by kernel_rfl) rfl #[.int .i64 (wrap64 (x1_1 + 1))] rfl (by (try simp only [List.map_toArray,List.map_cons,List.map_nil]);first|done|rfl|(simp only [List.length_drop,List.length_take];rfl)) ?_;(with_reducible refine (laws_markText.calls k1 (wrap64 (x1_1 + 1)) t243 _ A6.out).mono ?_);rintro e w14 ⟨rfl,hb⟩;refine ⟨_,rfl,?_⟩;have n0_:=Aside0.mk (Kd.R_below (by (with_reducible repeat (first|apply Kd.R_alloc|apply Kd.R_drewN|apply Kd.R_drew));exact HO_0.out) hb);have n1_:=Aside0.mk (Kept.below (S:=(fun k_ => P0_ k_)) (by repeat (first|(with_reducible first|exact HK.out|apply Kept.alloc|apply Kept.drewN|apply Kept.drew)|exact HK.out)) hb);have n2_:=Aside0.mk (below_step (by repeat (first|(with_reducible first|exact HB.out|apply below_alloc|apply pw_below_drewN|apply below_drew1)|exact HB.out)) hb);clear HO_0 HK HB;have HO_0:=n0_;have HK:=n1_;have HB:=n2_;clear n0_ n1_ n2_;(try clear hb);(try clear hb2);(try clear hk);(try clear hi);have p7 : 0 ≤ (x5_1 : Int):=of_decide_eq_true (by first|(with_reducible assumption)|assumption);have q7 : (x5_1 : Int) < ((x0_1.length : Int) : Int):=of_decide_eq_true (by first|(with_reducible assumption)|assumption);obtain ⟨ce7,hcl7,hM7,hcc7,hfr7⟩:=Kd.R_elem HO_0.out z36 (x5_1 : Int) p7 q7;obtain rfl:=k36_openM hM7;have hx7_0 : w14.cell? ⟨go5,(x5_1 : Int).toNat * 4,none⟩ = some (.int .i64 ((rd_T36 y242 x5_1).f0)):=hcc7 0 _ rfl;have hx7_1 : w14.cell? ⟨go5,(x5_1 : Int).toNat * 4 + 1,none⟩ = some (.string ((rd_T36 y242 x5_1).f1)):=hcc7 1 _ rfl;have hx7_2 : w14.cell? ⟨go5,(x5_1 : Int).toNat * 4 + 2,none⟩ = some (.int .i64 ((rd_T36 y242 x5_1).f2)):=hcc7 2 _ rfl;have hx7_3 : w14.cell? ⟨go5,(x5_1 : Int).toNat * 4 + 3,none⟩ = some (.string ((rd_T36 y242 x5_1).f3)):=hcc7 3 _ rfl;have hf7_0 : w14.frozen? ⟨go5,(x5_1 : Int).toNat * 4,none⟩ = false:=hfr7 0;have hf7_1 : w14.frozen? ⟨go5,(x5_1 : Int).toNat * 4 + 1,none⟩ = false:=hfr7 1;have hf7_2 : w14.frozen? ⟨go5,(x5_1 : Int).toNat * 4 + 2,none⟩ = false:=hfr7 2;have hf7_3 : w14.frozen? ⟨go5,(x5_1 : Int).toNat * 4 + 3,none⟩ = false:=hfr7 3;clear hcl7 hcc7 hfr7 hM7;replace p7:=eq_true p7;replace q7:=eq_true q7;have HX15:=Aside0.mk (show Kd.R k36 36 w14 w0.heap.size (fun k_ => (P0_ k_ ∨ w.heap.size ≤ k_)) (.slice (some ⟨go5,0,none⟩) x0_1.length co11) y242 from (by (with_reducible repeat (first|apply Kd.R_alloc|apply Kd.R_drewN|apply Kd.R_drew));exact HO_0.out));obtain ⟨ce15,hcl15,hM15,hcc15,hfr15⟩:=Kd.R_elem HX15.out z36 (x5_1 : Int) (of_decide_eq_true (by first|(with_reducible assumption)|assumption)) (by have h_ : (x5_1 : Int) < ((x0_1.length : Int) : Int):=of_decide_eq_true (by first|(with_reducible assumption)|assumption);first|exact h_|(have e_:=(Kd.R_reads' HO_0.out).1;omega)|simpa using h_);obtain rfl:=k36_openM hM15;have HP15:=Kd.R_seg HX15.out (x5_1 : Int) (of_decide_eq_true (by first|(with_reducible assumption)|assumption)) (by have h_ : (x5_1 : Int) < ((x0_1.length : Int) : Int):=of_decide_eq_true (by first|(with_reducible assumption)|assumption);first|exact h_|(have e_:=(Kd.R_reads' HO_0.out).1;omega)|simpa using h_) (seg:=[.string t243]) (j:=1) hcl15 hcc15 (show 2 ≤ 4 from by decide) (x':=(⟨(rd_T36 y242 x5_1).f0,t243,(rd_T36 y242 x5_1).f2,(rd_T36 y242 x5_1).f3⟩ : S36)) (k36_mkM _ _ _ (⟨(rd_T36 y242 x5_1).f0,t243,(rd_T36 y242 x5_1).f2,(rd_T36 y242 x5_1).f3⟩ : S36) ) (fun _ hk => hk);have hx15_1:=hcc15 1 _ rfl;(try simp only [show (k36).sz = 4 from rfl,Nat.mul_one,Nat.add_zero] at hx15_1);have hf15_1:=hfr15 1;(try simp only [show (k36).sz = 4 from rfl,Nat.mul_one,Nat.add_zero] at hf15_1);clear hcl15 hcc15 hfr15 hM15)|((with_reducible refine gate_store (t:=9) (p:=24) rfl ?_);refine store_event (t:=9) (p:=24) (v:=?vo_w16) (w1:=(w14.setCell ⟨go5,(x5_1 : Int).toNat * 4 + 1,none⟩ (.string t243))) ?hg ?ho ?hn ?hr ?_;(case ho => rfl);(case hg => rfl);(case hn => rfl);(case hr => first|(go_simp;done)|(go_simp;rfl));intro w16 hw;have hg : w14.grownBy w16 (some go5):=(by rw [hw];exact HP15.2);have hp_ : Kd.R k36 36 w16 w0.heap.size (fun k_ => (P0_ k_ ∨ w.heap.size ≤ k_)) (.slice (some ⟨go5,0,none⟩) x0_1.length co11) y244:=(by rw [hw,Ny244.out];exact HP15.1);clear HP15;have n0_:=Aside0.mk (hp_);have n1_:=Aside0.mk ((by rw [hw];exact below_set (HB.out) GB5.out : Below w0.heap.size w0 w16));have n2_:=Aside0.mk (Kept.of_grown (S:=(fun k_ => P0_ k_)) hg (by repeat (first|(with_reducible first|exact HK.out|apply Kept.alloc|apply Kept.drewN|apply Kept.drew)|exact HK.out)) (fun k_ e_ => (HO_0.out.1 k_ e_)));clear HO_0 HB HK;have HO_0:=n0_;have HB:=n1_;have HK:=n2_;clear n0_ n1_ n2_;clear hg hw hp_;have p8 : 0 ≤ (x5_1 : Int):=of_decide_eq_true (by first|(with_reducible assumption)|assumption);have q8 : (x5_1 : Int) < ((x0_1.length : Int) : Int):=of_decide_eq_true (by first|(with_reducible assumption)|assumption);obtain ⟨ce8,hcl8,hM8,hcc8,hfr8⟩:=Kd.R_elem HO_0.out z36 (x5_1 : Int) p8 q8;obtain rfl:=k36_openM hM8;have hx8_0 : w16.cell? ⟨go5,(x5_1 : Int).toNat * 4,none⟩ = some (.int .i64 ((rd_T36 y244 x5_1).f0)):=hcc8 0 _ rfl;have hx8_1 : w16.cell? ⟨go5,(x5_1 : Int).toNat * 4 + 1,none⟩ = some (.string ((rd_T36 y244 x5_1).f1)):=hcc8 1 _ rfl;have hx8_2 : w16.cell? ⟨go5,(x5_1 : Int).toNat * 4 + 2,none⟩ = some (.int .i64 ((rd_T36 y244 x5_1).f2)):=hcc8 2 _ rfl;have hx8_3 : w16.cell? ⟨go5,(x5_1 : Int).toNat * 4 + 3,none⟩ = some (.string ((rd_T36 y244 x5_1).f3)):=hcc8 3 _ rfl;have hf8_0 : w16.frozen? ⟨go5,(x5_1 : Int).toNat * 4,none⟩ = false:=hfr8 0;have hf8_1 : w16.frozen? ⟨go5,(x5_1 : Int).toNat * 4 + 1,none⟩ = false:=hfr8 1;have hf8_2 : w16.frozen? ⟨go5,(x5_1 : Int).toNat * 4 + 2,none⟩ = false:=hfr8 2;have hf8_3 : w16.frozen? ⟨go5,(x5_1 : Int).toNat * 4 + 3,none⟩ = false:=hfr8 3;clear hcl8 hcc8 hfr8 hM8;replace p8:=eq_true p8;replace q8:=eq_true q8;have HX17:=Aside0.mk (show Kd.R k36 36 w16 w0.heap.size (fun k_ => (P0_ k_ ∨ w.heap.size ≤ k_)) (.slice (some ⟨go5,0,none⟩) x0_1.length co11) y244 from (by (with_reducible repeat (first|apply Kd.R_alloc|apply Kd.R_drewN|apply Kd.R_drew));exact HO_0.out));obtain ⟨ce17,hcl17,hM17,hcc17,hfr17⟩:=Kd.R_elem HX17.out z36 (x5_1 : Int) (of_decide_eq_true (by first|(with_reducible assumption)|assumption)) (by have h_ : (x5_1 : Int) < ((x0_1.length : Int) : Int):=of_decide_eq_true (by first|(with_reducible assumption)|assumption);first|exact h_|(have e_:=(Kd.R_reads' HO_0.out).1;omega)|simpa using h_);obtain rfl:=k36_openM hM17;have HP17:=Kd.R_seg HX17.out (x5_1 : Int) (of_decide_eq_true (by first|(with_reducible assumption)|assumption)) (by have h_ : (x5_1 : Int) < ((x0_1.length : Int) : Int):=of_decide_eq_true (by first|(with_reducible assumption)|assumption);first|exact h_|(have e_:=(Kd.R_reads' HO_0.out).1;omega)|simpa using h_) (seg:=[.int .i64 (wrap64 ((wrap64 (x1_1 + 1)) + 1))]) (j:=2) hcl17 hcc17 (show 3 ≤ 4 from by decide) (x':=(⟨(rd_T36 y244 x5_1).f0,(rd_T36 y244 x5_1).f1,wrap64 ((wrap64 (x1_1 + 1)) + 1),(rd_T36 y244 x5_1).f3⟩ : S36)) (k36_mkM _ _ _ (⟨(rd_T36 y244 x5_1).f0,(rd_T36 y244 x5_1).f1,wrap64 ((wrap64 (x1_1 + 1)) + 1),(rd_T36 y244 x5_1).f3⟩ : S36) ) (fun _ hk => hk);have hx17_2:=hcc17 2 _ rfl;(try simp only [show (k36).sz = 4 from rfl,Nat.mul_one,Nat.add_zero] at hx17_2);have hf17_2:=hfr17 2;(try simp only [show (k36).sz = 4 from rfl,Nat.mul_one,Nat.add_zero] at hf17_2);clear hcl17 hcc17 hfr17 hM17)|((with_reducible refine gate_store (t:=3) (p:=31) rfl ?_);refine store_event (t:=3) (p:=31) (v:=?vo_w18) (w1:=(w16.setCell ⟨go5,(x5_1 : Int).toNat * 4 + 2,none⟩ (.int .i64 (wrap64 ((wrap64 (x1_1 + 1)) + 1))))) ?hg ?ho ?hn ?hr ?_;(case ho => rfl);(case hg => rfl);(case hn => rfl);(case hr => first|(go_simp;done)|(go_simp;rfl));intro w18 hw;have hg : w16.grownBy w18 (some go5):=(by rw [hw];exact HP17.2);have hp_ : Kd.R k36 36 w18 w0.heap.size (fun k_ => (P0_ k_ ∨ w.heap.size ≤ k_)) (.slice (some ⟨go5,0,none⟩) x0_1.length co11) y245:=(by rw [hw,Ny245.out];exact HP17.1);clear HP17;have n0_:=Aside0.mk (hp_);have n1_:=Aside0.mk ((by rw [hw];exact below_set (HB.out) GB5.out : Below w0.heap.size w0 w18));have n2_:=Aside0.mk (Kept.of_grown (S:=(fun k_ => P0_ k_)) hg (by repeat (first|(with_reducible first|exact HK.out|apply Kept.alloc|apply Kept.drewN|apply Kept.drew)|exact HK.out)) (fun k_ e_ => (HO_0.out.1 k_ e_)));clear HO_0 HB HK;have HO_0:=n0_;have HB:=n1_;have HK:=n2_;clear n0_ n1_ n2_;clear hg hw hp_)|((with_reducible refine gate_callee (f:=76) rfl ?_);refine goesL_ (some 37) rfl rfl Try.func76 (by kernel_rfl) rfl #[.int .i64 (wrap64 ((wrap64 ((wrap64 (x1_1 + 1)) + 1)) + 1))] rfl (by (try simp only [List.map_toArray,List.map_cons,List.map_nil]);first|done|rfl|(simp only [List.length_drop,List.length_take];rfl)) ?_;(with_reducible refine (laws_markText.calls k1 (wrap64 ((wrap64 ((wrap64 (x1_1 + 1)) + 1)) + 1)) t246 _ A9.out).mono ?_);rintro e w19 ⟨rfl,hb⟩;refine ⟨_,rfl,?_⟩;have n0_:=Aside0.mk (Kd.R_below (by (with_reducible repeat (first|apply Kd.R_alloc|apply Kd.R_drewN|apply Kd.R_drew));exact HO_0.out) hb);have n1_:=Aside0.mk (Kept.below (S:=(fun k_ => P0_ k_)) (by repeat (first|(with_reducible first|exact HK.out|apply Kept.alloc|apply Kept.drewN|apply Kept.drew)|exact HK.out)) hb);have n2_:=Aside0.mk (below_step (by repeat (first|(with_reducible first|exact HB.out|apply below_alloc|apply pw_below_drewN|apply below_drew1)|exact HB.out)) hb);clear HO_0 HK HB;have HO_0:=n0_;have HK:=n1_;have HB:=n2_;clear n0_ n1_ n2_;(try clear hb);(try clear hb2);(try clear hk);(try clear hi);have p10 : 0 ≤ (x5_1 : Int):=of_decide_eq_true (by first|(with_reducible assumption)|assumption);have q10 : (x5_1 : Int) < ((x0_1.length : Int) : Int):=of_decide_eq_true (by first|(with_reducible assumption)|assumption);obtain ⟨ce10,hcl10,hM10,hcc10,hfr10⟩:=Kd.R_elem HO_0.out z36 (x5_1 : Int) p10 q10;obtain rfl:=k36_openM hM10;have hx10_0 : w19.cell? ⟨go5,(x5_1 : Int).toNat * 4,none⟩ = some (.int .i64 ((rd_T36 y245 x5_1).f0)):=hcc10 0 _ rfl;have hx10_1 : w19.cell? ⟨go5,(x5_1 : Int).toNat * 4 + 1,none⟩ = some (.string ((rd_T36 y245 x5_1).f1)):=hcc10 1 _ rfl;have hx10_2 : w19.cell? ⟨go5,(x5_1 : Int).toNat * 4 + 2,none⟩ = some (.int .i64 ((rd_T36 y245 x5_1).f2)):=hcc10 2 _ rfl;have hx10_3 : w19.cell? ⟨go5,(x5_1 : Int).toNat * 4 + 3,none⟩ = some (.string ((rd_T36 y245 x5_1).f3)):=hcc10 3 _ rfl;have hf10_0 : w19.frozen? ⟨go5,(x5_1 : Int).toNat * 4,none⟩ = false:=hfr10 0;have hf10_1 : w19.frozen? ⟨go5,(x5_1 : Int).toNat * 4 + 1,none⟩ = false:=hfr10 1;have hf10_2 : w19.frozen? ⟨go5,(x5_1 : Int).toNat * 4 + 2,none⟩ = false:=hfr10 2;have hf10_3 : w19.frozen? ⟨go5,(x5_1 : Int).toNat * 4 + 3,none⟩ = false:=hfr10 3;clear hcl10 hcc10 hfr10 hM10;replace p10:=eq_true p10;replace q10:=eq_true q10;have HX20:=Aside0.mk (show Kd.R k36 36 w19 w0.heap.size (fun k_ => (P0_ k_ ∨ w.heap.size ≤ k_)) (.slice (some ⟨go5,0,none⟩) x0_1.length co11) y245 from (by (with_reducible repeat (first|apply Kd.R_alloc|apply Kd.R_drewN|apply Kd.R_drew));exact HO_0.out));obtain ⟨ce20,hcl20,hM20,hcc20,hfr20⟩:=Kd.R_elem HX20.out z36 (x5_1 : Int) (of_decide_eq_true (by first|(with_reducible assumption)|assumption)) (by have h_ : (x5_1 : Int) < ((x0_1.length : Int) : Int):=of_decide_eq_true (by first|(with_reducible assumption)|assumption);first|exact h_|(have e_:=(Kd.R_reads' HO_0.out).1;omega)|simpa using h_);obtain rfl:=k36_openM hM20;have HP20:=Kd.R_seg HX20.out (x5_1 : Int) (of_decide_eq_true (by first|(with_reducible assumption)|assumption)) (by have h_ : (x5_1 : Int) < ((x0_1.length : Int) : Int):=of_decide_eq_true (by first|(with_reducible assumption)|assumption);first|exact h_|(have e_:=(Kd.R_reads' HO_0.out).1;omega)|simpa using h_) (seg:=[.string t246]) (j:=3) hcl20 hcc20 (show 4 ≤ 4 from by decide) (x':=(⟨(rd_T36 y245 x5_1).f0,(rd_T36 y245 x5_1).f1,(rd_T36 y245 x5_1).f2,t246⟩ : S36)) (k36_mkM _ _ _ (⟨(rd_T36 y245 x5_1).f0,(rd_T36 y245 x5_1).f1,(rd_T36 y245 x5_1).f2,t246⟩ : S36) ) (fun _ hk => hk);have hx20_3:=hcc20 3 _ rfl;(try simp only [show (k36).sz = 4 from rfl,Nat.mul_one,Nat.add_zero] at hx20_3);have hf20_3:=hfr20 3;(try simp only [show (k36).sz = 4 from rfl,Nat.mul_one,Nat.add_zero] at hf20_3);clear hcl20 hcc20 hfr20 hM20)|((with_reducible refine gate_store (t:=9) (p:=39) rfl ?_);refine store_event (t:=9) (p:=39) (v:=?vo_w21) (w1:=(w19.setCell ⟨go5,(x5_1 : Int).toNat * 4 + 3,none⟩ (.string t246))) ?hg ?ho ?hn ?hr ?_;(case ho => rfl);(case hg => rfl);(case hn => rfl);(case hr => first|(go_simp;done)|(go_simp;rfl));intro w21 hw;have hg : w19.grownBy w21 (some go5):=(by rw [hw];exact HP20.2);have hp_ : Kd.R k36 36 w21 w0.heap.size (fun k_ => (P0_ k_ ∨ w.heap.size ≤ k_)) (.slice (some ⟨go5,0,none⟩) x0_1.length co11) y247:=(by rw [hw,Ny247.out];exact HP20.1);clear HP20;have n0_:=Aside0.mk (hp_);have n1_:=Aside0.mk ((by rw [hw];exact below_set (HB.out) GB5.out : Below w0.heap.size w0 w21));have n2_:=Aside0.mk (Kept.of_grown (S:=(fun k_ => P0_ k_)) hg (by repeat (first|(with_reducible first|exact HK.out|apply Kept.alloc|apply Kept.drewN|apply Kept.drew)|exact HK.out)) (fun k_ e_ => (HO_0.out.1 k_ e_)));clear HO_0 HB HK;have HO_0:=n0_;have HB:=n1_;have HK:=n2_;clear n0_ n1_ n2_;clear hg hw hp_))
     go_roundg k1
     case measure => have := HK1.out; omega
     case rel => exact ⟨(y247),(wrap64 ((wrap64 ((wrap64 ((wrap64 (x1_1 + 1)) + 1)) + 1)) + 1)),(wrap64 (x5_1 + 1)),(by first|rfl|(simp;done)|(simp [*];done)),(by first|rfl|(simp;done)|(simp [*];done)),H',⟨by have:=HK1.out;omega⟩,⟨by (with_reducible repeat (first|apply Kd.R_alloc|apply Kd.R_drewN|apply Kd.R_drew));exact HO_0.out⟩,⟨by repeat (first|(with_reducible first|exact HK.out|apply Kept.alloc|apply Kept.drewN|apply Kept.drew)|exact HK.out)⟩,⟨by repeat (first|(with_reducible first|exact HB.out|apply below_alloc|apply pw_below_drewN|apply below_drew1)|exact HB.out)⟩⟩
    ·rw [if_neg c4] at H
     exact absurd H (by simp)
   ·rw [if_neg c3] at H
    have c3b0 : decide (x5_1 < (x0_1.length : Int)) = false:=decide_eq_false c3
    clear c3
    simp only [Option.some.injEq, Prod.mk.injEq] at H
    obtain ⟨rfl, rfl⟩ := H
    obtain ⟨Ao22, co22, eo22⟩ := Kd.R_slice HO_0.out
    subst eo22
    go_wp2
    go_ret
    exact ⟨by first|rfl|(simp [errW_none,errW_some] <;> rfl)|(simp [*,errW_none,errW_some] <;> rfl),by (with_reducible repeat (first|apply Kd.R_alloc|apply Kd.R_drewN|apply Kd.R_drew));exact HO_0.out,by repeat (first|(with_reducible first|exact HB.out|apply below_alloc|apply pw_below_drewN|apply below_drew1)|exact HB.out),by repeat (first|(with_reducible first|exact HK.out|apply Kept.alloc|apply Kept.drewN|apply Kept.drew)|exact HK.out)⟩

/-! ### laws_markCat: function 28 -/
def laws_markCat.f (k : Nat) (a0_0 : Int) (l0_1 : List (S36)) (a1 : Int) : Option (Int × (List (S36))) := (laws_markItemS.f k l0_1 a1).bind fun bt249 => (some (bt249.1, bt249.2))
theorem laws_markCat.mono : ∀ a0 a1 a2 k, LeO (laws_markCat.f k a0 a1 a2) (laws_markCat.f (k + 1) a0 a1 a2) := by
 intro a0 a1 a2 k
 unfold laws_markCat.f
 repeat' first
   | (with_reducible exact laws_markItemS.mono _ _ _)
   | (with_reducible exact LeO.refl _)
   | (with_reducible exact LeO.none _)
   | (with_reducible refine LeO.ite ?_ ?_)
   | (with_reducible refine LeO.bind ?_ (fun _ => ?_))
   | exact laws_markItemS.mono _ _ _
   | exact LeO.none _
   | refine LeO.ite ?_ ?_
   | refine LeO.bind ?_ (fun _ => ?_)
set_option maxHeartbeats 8000000 in
set_option maxRecDepth 100000 in
theorem laws_markCat.calls (k : Nat) (a0_0 : Int) (P0_1_ : Nat → Prop) (u9000_ : Value) (l0_1 : List (S36)) (a1 : Int) (r1 : Int) (r2 : List (S36)) (w0 w : World) (hB : Below w0.heap.size w0 w) (ho0_1 : Kd.R k36 36 w w0.heap.size P0_1_ u9000_ l0_1) (h : laws_markCat.f k a0_0 l0_1 a1 = some (r1, r2)) :
  Calls Try.prog 28 #[.agg #[.int .i64 a0_0, u9000_], .int .i64 a1] w fun e w' => e = .returned (.int .i64 r1) ∧ Kd.R k36 36 w' w0.heap.size (fun k_ => (P0_1_ k_ ∨ w.heap.size ≤ k_)) u9000_ r2 ∧ Below w0.heap.size w0 w' ∧ Kept w w' (fun k_ => P0_1_ k_) := by
 have hu29 := Try.underlying29
 have HO0_1:=Aside0.mk (show Kd.R k36 36 w w0.heap.size (fun k_ => (P0_1_ k_ ∨ w.heap.size ≤ k_)) u9000_ l0_1 from Kd.R_mono ho0_1 (fun k_ hk => (.inl hk)))
 have HK := Aside0.mk (Kept.refl w (fun k_ => P0_1_ k_))
 have HW0 := Aside0.mk hB.size
 have HB := Aside0.mk hB
 clear hB
 have H : ((laws_markItemS.f k l0_1 a1).bind fun bt249 => (some (bt249.1,bt249.2))) = some (r1,r2):=h
 clear h
 replace H := Option.bind_eq_some_iff.mp H
 obtain ⟨⟨t249, t250⟩, A30, H⟩ := H
 replace H : (some (t249, t250)) = some (r1, r2) := H
 have A3 := Aside0.mk A30
 clear A30
 simp only [Option.some.injEq, Prod.mk.injEq] at H
 obtain ⟨rfl, rfl⟩ := H
 obtain ⟨Ao4, co4, eo4⟩ := Kd.R_slice HO0_1.out
 subst eo4
 go_enter Try.func28, Try.ntmps28
 go_wp2_with (first|((with_reducible refine gate_dst (N:=2) rfl ?_);refine box_event ?hg (N:=2) ?hd (cs:=#[.int .i64 a0_0,.slice Ao4 l0_1.length co4]) (t:=29) ?hr ?_;(case hd => rfl);(case hg => rfl);(case hr => first|(go_simp;done)|(go_simp;rfl));intro gb248 hg w5 hbox hb;have n0_:=Aside0.mk (Kd.R_below (by (with_reducible repeat (first|apply Kd.R_alloc|apply Kd.R_drewN|apply Kd.R_drew));exact HO0_1.out) hb);have n1_:=Aside0.mk (Kept.below (S:=(fun k_ => P0_1_ k_)) (by repeat (first|(with_reducible first|exact HK.out|apply Kept.alloc|apply Kept.drewN|apply Kept.drew)|exact HK.out)) hb);have n2_:=Aside0.mk (below_step (by repeat (first|(with_reducible first|exact HB.out|apply below_alloc|apply pw_below_drewN|apply below_drew1)|exact HB.out)) hb);have n3_:=Aside0.mk (hbox);have n4_:=Aside0.mk ((by rw [hg];exact (by first|exact HK.out.1|exact (show Kept w _ (fun k_ => P0_1_ k_) from by repeat (first|(with_reducible first|exact HK.out|apply Kept.alloc|apply Kept.drewN|apply Kept.drew)|exact HK.out)).1) : w.heap.size ≤ gb248));have n5_:=Aside0.mk ((by rw [hg];exact (below_size (by repeat (first|(with_reducible first|exact HB.out|apply below_alloc|apply pw_below_drewN|apply below_drew1)|exact HB.out))) : w0.heap.size ≤ gb248));clear HO0_1 HK HB;have HO0_1:=n0_;have HK:=n1_;have HB:=n2_;have BK248:=n3_;have GW248:=n4_;have GE248:=n5_;clear n0_ n1_ n2_ n3_ n4_ n5_;clear hb hbox hg;have hcz6_0 : w5.cell? ⟨gb248,0,none⟩ = some (.int .i64 a0_0):=(blk_cell BK248.out 0).trans rfl;have hcz6_1 : w5.cell? ⟨gb248,1,none⟩ = some (.slice Ao4 l0_1.length co4):=(blk_cell BK248.out 1).trans rfl;have hfz6_0:=blk_frozen BK248.out 0;have hfz6_1:=blk_frozen BK248.out 1)|((with_reducible refine gate_callee (f:=56) rfl ?_);refine goesL_ (some 8) rfl rfl Try.func56 (by kernel_rfl) rfl #[.slice Ao4 l0_1.length co4,.int .i64 a1] rfl (by (try simp only [List.map_toArray,List.map_cons,List.map_nil]);first|done|rfl|(simp only [List.length_drop,List.length_take];rfl)) ?_;(with_reducible refine (laws_markItemS.calls k (fun k_ => some k_ = (.slice Ao4 l0_1.length co4 : Value).ownBlock) (.slice Ao4 l0_1.length co4) l0_1 a1 t249 t250 w0 _ ?side1 ?side2 A3.out).mono ?_);(case side1 => repeat (first|(with_reducible first|exact HB.out|apply below_alloc|apply pw_below_drewN|apply below_drew1|refine below_set ?_ GE248.out)|exact HB.out));(case side2 => exact Kd.R_tight rfl HO0_1.out);rintro e w7 ⟨rfl,hy0,hb,hkp⟩;refine ⟨_,rfl,?_⟩;have n0_:=Aside0.mk (Kd.R_reok rfl hy0 (fun k_ e_ => HO0_1.out.1 k_ e_));have n1_:=Aside0.mk (blk_kept (by (with_reducible repeat (first|refine blk_drewN ?_ _|refine blk_drew ?_|refine blk_alloc ?_ _));exact BK248.out) hkp (fun hs_ => (fun e_ => (Kd.R_ne HO0_1.out BK248.out (by decide)) e_) hs_));have n2_:=Aside0.mk (Kept.then_ (S:=(fun k_ => P0_1_ k_)) (by repeat (first|(with_reducible first|exact HK.out|apply Kept.alloc|apply Kept.drewN|apply Kept.drew|refine Kept.setCell ?_ (.inr GW248.out) _)|exact HK.out)) hkp (fun k_ hs_ => (fun e_ => (HO0_1.out.1 k_ e_.symm)) hs_));have n3_:=Aside0.mk (hb);clear HO0_1 BK248 HK HB;have HO0_1:=n0_;have BK248:=n1_;have HK:=n2_;have HB:=n3_;clear n0_ n1_ n2_ n3_;(try clear hb);(try clear hkp);(try clear hy0)))
 go_ret
 exact ⟨by first|rfl|(simp [errW_none,errW_some] <;> rfl)|(simp [*,errW_none,errW_some] <;> rfl),by (with_reducible repeat (first|apply Kd.R_alloc|apply Kd.R_drewN|apply Kd.R_drew));exact HO0_1.out,by repeat (first|(with_reducible first|exact HB.out|apply below_alloc|apply pw_below_drewN|apply below_drew1|refine below_set ?_ GE248.out)|exact HB.out),by repeat (first|(with_reducible first|exact HK.out|apply Kept.alloc|apply Kept.drewN|apply Kept.drew|refine Kept.setCell ?_ (.inr GW248.out) _)|exact HK.out)⟩

end Go.Proofs.Ytbpmfdpbgcpjeaa.PFnExactCatTake
