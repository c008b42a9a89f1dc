-- PRINTED BY print.sh 35421559b90ae4d0a3588c463048766b98c2df88dd9212a6774a882060cdf62d: not written by this session
import Derived.Test.YtdigjaphfpfbaaaPFnBucketAtx0
import Derived.Test.YtdigjaphfpfbaaaPFnBucketAtx2
import Derived.Test.YtdigjaphfpfbaaaPFnBucketAtx3
namespace Go.Proofs.Ytdigjaphfpfbaaa.PFnBucketAt
open Go.RowKit Go.Proofs.YtdigjaphfpfbaaaW.PrintWords Go.Proofs.YtdigjaphfpfbaaaW.PrintLast Go.Proofs.YtdigjaphfpfbaaaW.PrintMore
attribute [local go_sem] max2_int min2_int max_two min_two max_three min_three max_four min_four   -- for this text's walks alone
set_option linter.unusedVariables false
set_option linter.unusedSimpArgs false

/-! ### spec_DrawBucketAt: function 35 -/
def spec_DrawBucketAt.f (k : Nat) (l0 : List Int) : Option (Int × Int × Int × Int × Int) := (spec_l1Open.f l0).bind fun bt150 => ((spec_l15Bucket.f k bt150.1 bt150.2).bind fun bt153 => ((spec_l1Rd_pick.f k bt150.1 bt153.2.2.2.2 80).bind fun bt158 => ((some (([bt158.1, 99999, (-1), 100000] : List Int) : List Int)).bind fun y160 => ((spec_l1Rd_pick.f k bt150.1 bt158.2 12).bind fun bt163 => (if 0 ≤ (wrap64 (Int.tdiv (wrap64 (bt163.1 * 4)) 12)) then (if (wrap64 (Int.tdiv (wrap64 (bt163.1 * 4)) 12)) < (y160.length : Int) then (some (bt153.1, bt153.2.1, bt153.2.2.1, bt153.2.2.2.1, rd y160 (wrap64 (Int.tdiv (wrap64 (bt163.1 * 4)) 12)))) else (none)) else (none))))))
theorem spec_DrawBucketAt.mono : ∀ a0 k, LeO (spec_DrawBucketAt.f k a0) (spec_DrawBucketAt.f (k + 1) a0) := by
  intro a0 k
  unfold spec_DrawBucketAt.f
  repeat' first
      | (with_reducible exact spec_l15Bucket.mono _ _ _)
      | (with_reducible exact spec_l1Rd_pick.mono _ _ _ _)
      | (with_reducible exact LeO.refl _)
      | (with_reducible exact LeO.none _)
      | (with_reducible refine LeO.ite ?_ ?_)
      | (with_reducible refine LeO.bind ?_ (fun _ => ?_))
      | exact spec_l15Bucket.mono _ _ _
      | exact spec_l1Rd_pick.mono _ _ _ _
      | exact LeO.none _
      | refine LeO.ite ?_ ?_
      | refine LeO.bind ?_ (fun _ => ?_)
def spec_DrawBucketAt.T2 : Bool × List (List Nat × List Nat) := (true, [([], []), ([0], [0]), ([], []), ([2, 1], [2]), ([3], [3]), ([], []), ([5, 3], [5]), ([6], [6]), ([7], [7]), ([4, 8], [4, 8]), ([9], [9]), ([1, 6, 0, 1], [1]), ([10, 11, 0, 1, 2, 3, 4, 5, 6, 7, 8, 9, 10, 11], [10])])
def spec_DrawBucketAt.B2 : List Nat := [0, 1, 0, 7, 15, 0, 47, 111, 239, 511, 1023, 111, 4095]
theorem spec_DrawBucketAt.tab2 : rtab .any (opsOf Try.f35 2) = spec_DrawBucketAt.T2 := by kernel_rfl
theorem spec_DrawBucketAt.bits2 : waitsOk spec_DrawBucketAt.T2.2 spec_DrawBucketAt.B2 = true := by kernel_rfl
set_option maxHeartbeats 8000000 in
set_option maxRecDepth 100000 in
theorem spec_DrawBucketAt.calls (k : Nat) (A0 : Option Addr) (c0 : Nat) (l0 : List Int) (r1 : Int) (r2 : Int) (r3 : Int) (r4 : Int) (r5 : Int) (w : World) (hr0 : Kd.C (Kd.int .u8) w A0 l0.length l0) (hc0 : l0.length ≤ c0) (h : spec_DrawBucketAt.f k l0 = some (r1, r2, r3, r4, r5)) :
    Calls Try.prog 35 #[.slice A0 l0.length c0] w fun e w' => e = .returned (.tuple #[.agg #[.int .i64 r1, .int .i64 r2, .int .i64 r3, .int .i64 r4], .int .i64 r5]) ∧ Below w.heap.size w w' := by
  have hu25 := Try.underlying25
  have HR0 := Aside0.mk hr0
  have HC0 := Aside0.mk hc0
  clear hr0 hc0
  have HB := Aside0.mk (Below.refl w.heap.size w)
  have H : ((spec_l1Open.f l0).bind fun bt150 => ((spec_l15Bucket.f k bt150.1 bt150.2).bind fun bt153 => ((spec_l1Rd_pick.f k bt150.1 bt153.2.2.2.2 80).bind fun bt158 => ((some (([bt158.1, 99999, (-1), 100000] : List Int) : List Int)).bind fun y160 => ((spec_l1Rd_pick.f k bt150.1 bt158.2 12).bind fun bt163 => (if 0 ≤ (wrap64 (Int.tdiv (wrap64 (bt163.1 * 4)) 12)) then (if (wrap64 (Int.tdiv (wrap64 (bt163.1 * 4)) 12)) < (y160.length : Int) then (some (bt153.1, bt153.2.1, bt153.2.2.1, bt153.2.2.2.1, rd y160 (wrap64 (Int.tdiv (wrap64 (bt163.1 * 4)) 12)))) else (none)) else (none))))))) = some (r1, r2, r3, r4, r5) := h
  clear h
  replace H := Option.bind_eq_some_iff.mp H
  obtain ⟨⟨t150, t151⟩, A20, H⟩ := H
  replace H : ((spec_l15Bucket.f k t150 t151).bind fun bt153 => ((spec_l1Rd_pick.f k t150 bt153.2.2.2.2 80).bind fun bt158 => ((some (([bt158.1, 99999, (-1), 100000] : List Int) : List Int)).bind fun y160 => ((spec_l1Rd_pick.f k t150 bt158.2 12).bind fun bt163 => (if 0 ≤ (wrap64 (Int.tdiv (wrap64 (bt163.1 * 4)) 12)) then (if (wrap64 (Int.tdiv (wrap64 (bt163.1 * 4)) 12)) < (y160.length : Int) then (some (bt153.1, bt153.2.1, bt153.2.2.1, bt153.2.2.2.1, rd y160 (wrap64 (Int.tdiv (wrap64 (bt163.1 * 4)) 12)))) else (none)) else (none)))))) = some (r1, r2, r3, r4, r5) := H
  have A2 := Aside0.mk A20
  clear A20
  replace H := Option.bind_eq_some_iff.mp H
  obtain ⟨⟨t153, t154, t155, t156, t157⟩, A30, H⟩ := H
  replace H : ((spec_l1Rd_pick.f k t150 t157 80).bind fun bt158 => ((some (([bt158.1, 99999, (-1), 100000] : List Int) : List Int)).bind fun y160 => ((spec_l1Rd_pick.f k t150 bt158.2 12).bind fun bt163 => (if 0 ≤ (wrap64 (Int.tdiv (wrap64 (bt163.1 * 4)) 12)) then (if (wrap64 (Int.tdiv (wrap64 (bt163.1 * 4)) 12)) < (y160.length : Int) then (some (t153, t154, t155, t156, rd y160 (wrap64 (Int.tdiv (wrap64 (bt163.1 * 4)) 12)))) else (none)) else (none))))) = some (r1, r2, r3, r4, r5) := H
  have A3 := Aside0.mk A30
  clear A30
  replace H := Option.bind_eq_some_iff.mp H
  obtain ⟨⟨t158, t159⟩, A40, H⟩ := H
  replace H : ((some (([t158, 99999, (-1), 100000] : List Int) : List Int)).bind fun y160 => ((spec_l1Rd_pick.f k t150 t159 12).bind fun bt163 => (if 0 ≤ (wrap64 (Int.tdiv (wrap64 (bt163.1 * 4)) 12)) then (if (wrap64 (Int.tdiv (wrap64 (bt163.1 * 4)) 12)) < (y160.length : Int) then (some (t153, t154, t155, t156, rd y160 (wrap64 (Int.tdiv (wrap64 (bt163.1 * 4)) 12)))) else (none)) else (none)))) = some (r1, r2, r3, r4, r5) := H
  have A4 := Aside0.mk A40
  clear A40
  obtain ⟨y160, hy160⟩ : ∃ y_ : List Int, y_ = (([t158, 99999, (-1), 100000] : List Int)) := ⟨_, rfl⟩
  replace H : ((spec_l1Rd_pick.f k t150 t159 12).bind fun bt163 => (if 0 ≤ (wrap64 (Int.tdiv (wrap64 (bt163.1 * 4)) 12)) then (if (wrap64 (Int.tdiv (wrap64 (bt163.1 * 4)) 12)) < (y160.length : Int) then (some (t153, t154, t155, t156, rd y160 (wrap64 (Int.tdiv (wrap64 (bt163.1 * 4)) 12)))) else (none)) else (none))) = some (r1, r2, r3, r4, r5) := by first | (rw [hy160]; with_reducible exact H) | (have H2_ := (Option.bind_some _ _).symm.trans H; rw [hy160]; with_reducible exact H2_) | (have H2_ := (Option.bind_some _ _).symm.trans H; with_reducible exact H2_) | with_reducible exact H | (rw [hy160]; exact H) | exact H
  have Ny160 := Aside0.mk hy160
  clear hy160
  replace H := Option.bind_eq_some_iff.mp H
  obtain ⟨⟨t163, t164⟩, A50, H⟩ := H
  replace H : (if 0 ≤ (wrap64 (Int.tdiv (wrap64 (t163 * 4)) 12)) then (if (wrap64 (Int.tdiv (wrap64 (t163 * 4)) 12)) < (y160.length : Int) then (some (t153, t154, t155, t156, rd y160 (wrap64 (Int.tdiv (wrap64 (t163 * 4)) 12)))) else (none)) else (none)) = some (r1, r2, r3, r4, r5) := H
  have A5 := Aside0.mk A50
  clear A50
  obtain ⟨ji6, hji6⟩ : ∃ j_ : Int, (wrap64 (Int.tdiv (wrap64 (t163 * 4)) 12)) = j_ := ⟨_, rfl⟩
  replace H : (if 0 ≤ (ji6) then (if (ji6) < (y160.length : Int) then (some (t153, t154, t155, t156, rd y160 (ji6))) else (none)) else (none)) = some (r1, r2, r3, r4, r5) := by first | (rw [hji6] at H; exact H) | (simp only [hji6] at H ⊢; exact H)
  (try rw [hji6] at A2)
  (try rw [hji6] at A3)
  (try rw [hji6] at A4)
  (try rw [hji6] at A5)
  have hji6w : (IntKind.i64.wrap (Int.tdiv (wrap64 (t163 * 4)) 12)) = ji6 := (i64_w _).trans hji6
  by_cases c7 : 0 ≤ (ji6)
  · rw [if_pos c7] at H
    have c7b0 : decide (0 ≤ (ji6)) = true := decide_eq_true c7
    clear c7
    by_cases c8 : (ji6) < (y160.length : Int)
    · rw [if_pos c8] at H
      have c8b0 : decide ((ji6) < (y160.length : Int)) = true := decide_eq_true c8
      clear c8
      simp only [Option.some.injEq, Prod.mk.injEq] at H
      obtain ⟨rfl, rfl, rfl, rfl, rfl⟩ := H
      go_enter Try.func35, Try.ntmps35
      try go_wp2_with (first | ((with_reducible refine gate_dst (N := 2) rfl ?_); refine box_event ?hg (N := 2) ?hd (cs := #[.int .i64 0, .int .i64 0, .int .i64 0, .int .i64 0]) (t := 25) ?hr ?_; (case hd => rfl); (case hg => rfl); (case hr => first | (go_simp; done) | (go_simp; rfl)); intro gb149 hg w9 hbox hb; have n0_ := Aside0.mk (below_step (by repeat (first | (with_reducible first | exact HB.out | apply below_alloc | apply pw_below_drewN | apply below_drew1) | exact HB.out)) hb); have n1_ := Aside0.mk (hbox); have n2_ := Aside0.mk ((by rw [hg]; exact (below_size (by repeat (first | (with_reducible first | exact HB.out | apply below_alloc | apply pw_below_drewN | apply below_drew1) | exact HB.out))) : w.heap.size ≤ gb149)); have n3_ := Aside0.mk ((by rw [hg]; exact (below_size (by repeat (first | (with_reducible first | exact HB.out | apply below_alloc | apply pw_below_drewN | apply below_drew1) | exact HB.out))) : w.heap.size ≤ gb149)); clear HB; have HB := n0_; have BK149 := n1_; have GW149 := n2_; have GE149 := n3_; clear n0_ n1_ n2_ n3_; clear hb hbox hg) | ((with_reducible refine gate_callee (f := 44) rfl ?_); refine goesL_ (some 6) rfl rfl Try.func44 (by kernel_rfl) rfl #[.slice A0 l0.length c0] rfl (by (try simp only [List.map_toArray, List.map_cons, List.map_nil]); first | done | rfl | (simp only [List.length_drop, List.length_take]; rfl)) ?_; (with_reducible refine (spec_l1Open.calls _ _ l0 t150 t151 w _ ?side1 ?side2 ?side3 A2.out).mono ?_); (case side1 => repeat (first | (with_reducible first | exact HB.out | apply below_alloc | apply pw_below_drewN | apply below_drew1 | refine below_set ?_ GE149.out) | exact HB.out)); (case side2 => exact HR0.out); (case side3 => exact HC0.out); rintro e w10 ⟨g152, rfl, hi, hb, hb2⟩; refine ⟨_, rfl, ?_⟩; have n0_ := Aside0.mk (blk_below (g := gb149) (o := .cells #[.int .i64 0, .int .i64 0, .int .i64 0, .int .i64 0] 25 (0, 0)) (by (with_reducible repeat (first | refine blk_drewN ?_ _ | refine blk_drew ?_ | refine blk_alloc ?_ _)); exact BK149.out) hb2); have n1_ := Aside0.mk (hb); have n2_ := Aside0.mk (hi); have n3_ := Aside0.mk (IsS74.ne_blk hi (blk_below (g := gb149) (o := .cells #[.int .i64 0, .int .i64 0, .int .i64 0, .int .i64 0] 25 (0, 0)) (by (with_reducible repeat (first | refine blk_drewN ?_ _ | refine blk_drew ?_ | refine blk_alloc ?_ _)); exact BK149.out) hb2) (by decide)); have n4_ := Aside0.mk (Ne.symm (IsS74.ne_blk hi (blk_below (g := gb149) (o := .cells #[.int .i64 0, .int .i64 0, .int .i64 0, .int .i64 0] 25 (0, 0)) (by (with_reducible repeat (first | refine blk_drewN ?_ _ | refine blk_drew ?_ | refine blk_alloc ?_ _)); exact BK149.out) hb2) (by decide))); clear BK149; clear HB; have BK149 := n0_; have HB := n1_; have HI152 := n2_; have NB152_149 := n3_; have NB149_152 := n4_; clear n0_ n1_ n2_ n3_ n4_; (try clear hb); (try clear hb2); (try clear hk); (try clear hi)))
      have pi165 : (0 ≤ ((ji6) : Int)) = True := eq_true (of_decide_eq_true (by first | (with_reducible assumption) | assumption))
      have qi165 : ((ji6) < (y160.length : Int)) = True := eq_true (of_decide_eq_true (by first | (with_reducible assumption) | assumption))
      have n0_ := Aside0.mk (blk_drew BK149.out)
      have n1_ := Aside0.mk (IsS74.drew HI152.out)
      have n2_ := Aside0.mk (below_drew1 HB.out)
      clear BK149
      clear HI152
      clear HB
      have BK149 := n0_
      have HI152 := n1_
      have HB := n2_
      clear n0_ n1_ n2_
      refine start_ (n := 13) (S := fun w' => True) (ds := []) #[false, false, false, false, false, false, false, false, false, false, false, false, false] (by kernel_rfl) rfl rfl trivial (fun hHeld => ?_); refine with_tabW spec_DrawBucketAt.tab2 spec_DrawBucketAt.bits2 (fun HT_ HW_ => ?_)
      generalize w10.drew = w11 at BK149 HI152 HB hHeld ⊢
      refine pure_ (i := 0) (N := some 7) (v := ?_) (a' := ?_) #[true, false, false, false, false, false, false, false, false, false, false, false, false] rfl rfl (any_of HT_.out (by kernel_rfl)) (fun _ _ _ h => h) (Or.inl ⟨by rfl, ?_⟩) ?_ ?_
      rotate_left
      · intro w'
        go_simp
        with_reducible rfl
      rotate_left
      · simp only [Act.put, List.setIfInBounds_toArray, List.set_cons_zero, List.set_cons_succ, i64_w, i32_w]
        rfl
      refine pure_ (i := 2) (N := some 9) (v := ?_) (a' := ?_) #[true, false, true, false, false, false, false, false, false, false, false, false, false] rfl rfl (any_of HT_.out (by kernel_rfl)) (fun _ _ _ h => h) (Or.inl ⟨by rfl, ?_⟩) ?_ ?_
      rotate_left
      · intro w'
        go_simp
        with_reducible rfl
      rotate_left
      · simp only [Act.put, List.setIfInBounds_toArray, List.set_cons_zero, List.set_cons_succ, i64_w, i32_w]
        rfl
      refine pure_ (i := 5) (N := some 12) (v := ?_) (a' := ?_) #[true, false, true, false, false, true, false, false, false, false, false, false, false] rfl rfl (any_of HT_.out (by kernel_rfl)) (fun _ _ _ h => h) (Or.inl ⟨by rfl, ?_⟩) ?_ ?_
      rotate_left
      · intro w'
        go_simp
        with_reducible rfl
      rotate_left
      · simp only [Act.put, List.setIfInBounds_toArray, List.set_cons_zero, List.set_cons_succ, i64_w, i32_w]
        rfl
      refine inv_at [1, 3, 4, 6, 7, 8, 9, 10, 11, 12] (fun a0_ b a w' => ∃ (v161 : Value) (adz_v161 : Addr) (m9_ : Value), a = putSel a0_ b [(1, 8, .agg #[.int .i64 t153, .int .i64 t154, .int .i64 t155, .int .i64 t156]), (3, 10, .int .i64 t158), (4, 11, v161), (6, 13, .int .i64 t163), (7, 14, .int .i64 (wrap64 (t163 * 4))), (8, 15, .int .i64 ji6), (9, 16, m9_), (10, 17, .int .i64 (rd y160 (ji6))), (12, 3, .int .i64 (rd y160 (ji6)))] ∧ (b 11 = false → w'.heap[gb149]? = some (.cells #[.int .i64 0, .int .i64 0, .int .i64 0, .int .i64 0] 25 (0, 0))) ∧ (b 1 = false → IsS74 w w' g152 t150 t151) ∧ (Below w.heap.size w w') ∧ (b 1 = true → b 3 = false → IsS74 w w' g152 t150 t157) ∧ (b 3 = true → b 6 = false → IsS74 w w' g152 t150 t159) ∧ (b 4 = true → Kd.R (Kd.int .i64) 3 w' w.heap.size (fun _ => True) v161 y160) ∧ (b 4 = true → ∃ c_, (v161 : Value) = .slice (some adz_v161) y160.length c_) ∧ (b 6 = true → IsS74 w w' g152 t150 t164) ∧ (b 11 = true → w'.heap[gb149]? = some (.cells #[.int .i64 t153, .int .i64 t154, .int .i64 t155, .int .i64 t156] 25 (0, 0))) ∧ (b 9 = true → (m9_ : Value) = .pointer (some (adz_v161.add ((ji6)).toNat)))) HT_.out HW_.out (by kernel_rfl) (by kernel_rfl) ?_ ?_ ?_
      · exact ⟨.bool false, ⟨0, 0, none⟩, .bool false, by simp only [putSel, Bool.false_eq_true, if_false], fun _ => BK149.out, fun _ => HI152.out, HB.out, fun h_ => absurd h_ (by decide), fun h_ => absurd h_ (by decide), fun h_ => absurd h_ (by decide), fun h_ => absurd h_ (by decide), fun h_ => absurd h_ (by decide), fun h_ => absurd h_ (by decide), fun h_ => absurd h_ (by decide)⟩
      · skip
        clear BK149 HB HI152
        refine steps_cons ?_ ?_
        · rintro b a w' ⟨v161, adz_v161, m9_, ha, Q_BK149, Q_HI152, Q_HB, Q_HI152_e1, Q_HI152_e3, Q_HO162, Q_HA_HO162, Q_HI152_e6, Q_BK149_e11, Q_X9_⟩ hb_ hon hoff
          refine ⟨_, rfl, fun K hK => ?_⟩
          have e7 : a.tmps[7]? = some (.pointer (some ⟨g152, 0, none⟩)) := by rw [ha]; exact (putSel_off rfl).trans rfl
          replace ha := Aside0.mk ha
          have BK149 := Aside0.mk (Q_BK149 (hoff 11 (by kernel_rfl)))
          have HI152 := Aside0.mk (Q_HI152 hb_)
          have HB := Aside0.mk Q_HB
          refine goes_ Try.func50 (by kernel_rfl) rfl #[.pointer (some ⟨g152, 0, none⟩)] (by rfl) rfl rfl (by first | (simp only [List.map_toArray, List.map_cons, List.map_nil, Act.eval, Array.getD_eq_getD_getElem?, Option.getD_some, e7]; done) | (simp only [List.map_toArray, List.map_cons, List.map_nil, Act.eval, Array.getD_eq_getD_getElem?, Option.getD_some, e7]; rfl)) ?_
          with_reducible refine (spec_l15Bucket.calls k g152 t150 t151 t153 t154 t155 t156 t157 w _ ?side1 ?side2 A3.out).mono ?_
          (case side1 => repeat (first | (with_reducible first | exact HI152.out | apply IsS74.alloc | apply IsS74.drewN | apply IsS74.drew | apply IsS74.set_1 | refine IsS74.far ?_ NB152_149.out _) | exact HI152.out))
          (case side2 => repeat (first | (with_reducible first | exact HB.out | apply below_alloc | apply pw_below_drewN | apply below_drew1 | refine below_set ?_ (IsS74.ge HI152.out) | refine below_set ?_ GE149.out) | exact HB.out))
          rintro e w12 ⟨rfl, hi, hb, hk⟩
          refine ⟨_, rfl, ?_⟩
          have n0_ := Aside0.mk (KeepBut.blk hk (g' := gb149) (o := .cells #[.int .i64 0, .int .i64 0, .int .i64 0, .int .i64 0] 25 (0, 0)) (by (with_reducible repeat (first | refine blk_drewN ?_ _ | refine blk_drew ?_ | refine blk_alloc ?_ _)); exact BK149.out) NB149_152.out (by simp))
          have n1_ := Aside0.mk (hb)
          have n2_ := Aside0.mk (hi)
          clear BK149
          clear HB
          clear HI152
          have BK149 := n0_
          have HB := n1_
          have HI152 := n2_
          clear n0_ n1_ n2_
          (try clear hb)
          (try clear hb2)
          (try clear hk)
          (try clear hi)
          refine hK.out _ _ ⟨v161, adz_v161, m9_, (by rw [ha.out]; exact putSel_upk 0 hb_ rfl rfl rfl), fun _ => (by (with_reducible repeat (first | refine blk_drewN ?_ _ | refine blk_drew ?_ | refine blk_alloc ?_ _)); exact BK149.out), fun h0_ => absurd ((up_self b 1).symm.trans h0_) (by decide), (by repeat (first | (with_reducible first | exact HB.out | apply below_alloc | apply pw_below_drewN | apply below_drew1 | refine below_set ?_ (IsS74.ge HI152.out) | refine below_set ?_ GE149.out) | exact HB.out)), fun _ _ => (by repeat (first | (with_reducible first | exact HI152.out | apply IsS74.alloc | apply IsS74.drewN | apply IsS74.drew | apply IsS74.set_1 | refine IsS74.far ?_ NB152_149.out _) | exact HI152.out)), fun h0_ _ => absurd ((hoff 3 (by kernel_rfl)).symm.trans h0_) (by decide), fun h0_ => absurd ((hoff 4 (by kernel_rfl)).symm.trans h0_) (by decide), fun h0_ => absurd ((hoff 4 (by kernel_rfl)).symm.trans h0_) (by decide), fun h0_ => absurd ((hoff 6 (by kernel_rfl)).symm.trans h0_) (by decide), fun h0_ => absurd ((hoff 11 (by kernel_rfl)).symm.trans h0_) (by decide), fun h0_ => absurd ((hoff 9 (by kernel_rfl)).symm.trans h0_) (by decide)⟩
        refine steps_cons ?_ ?_
        · rintro b a w' ⟨v161, adz_v161, m9_, ha, Q_BK149, Q_HI152, Q_HB, Q_HI152_e1, Q_HI152_e3, Q_HO162, Q_HA_HO162, Q_HI152_e6, Q_BK149_e11, Q_X9_⟩ hb_ hon hoff
          refine ⟨_, rfl, fun K hK => ?_⟩
          have e9 : a.tmps[9]? = some (.pointer (some ⟨g152, 0, none⟩)) := by rw [ha]; exact (putSel_off rfl).trans rfl
          replace ha := Aside0.mk ha
          have BK149 := Aside0.mk (Q_BK149 (hoff 11 (by kernel_rfl)))
          have HB := Aside0.mk Q_HB
          have HI152 := Aside0.mk (Q_HI152_e1 (hon 1 (by kernel_rfl)) hb_)
          refine goes_ Try.func46 (by kernel_rfl) rfl #[.pointer (some ⟨g152, 0, none⟩), .int .i64 80] (by rfl) rfl rfl (by first | (simp only [List.map_toArray, List.map_cons, List.map_nil, Act.eval, Array.getD_eq_getD_getElem?, Option.getD_some, e9]; done) | (simp only [List.map_toArray, List.map_cons, List.map_nil, Act.eval, Array.getD_eq_getD_getElem?, Option.getD_some, e9]; rfl)) ?_
          with_reducible refine (spec_l1Rd_pick.calls k g152 t150 t157 80 t158 t159 w _ ?side1 ?side2 A4.out).mono ?_
          (case side1 => repeat (first | (with_reducible first | exact HI152.out | apply IsS74.alloc | apply IsS74.drewN | apply IsS74.drew | apply IsS74.set_1 | refine IsS74.far ?_ NB152_149.out _) | exact HI152.out))
          (case side2 => repeat (first | (with_reducible first | exact HB.out | apply below_alloc | apply pw_below_drewN | apply below_drew1 | refine below_set ?_ (IsS74.ge HI152.out) | refine below_set ?_ GE149.out) | exact HB.out))
          rintro e w14 ⟨rfl, hi, hb, hk⟩
          refine ⟨_, rfl, ?_⟩
          have n0_ := Aside0.mk (KeepBut.blk hk (g' := gb149) (o := .cells #[.int .i64 0, .int .i64 0, .int .i64 0, .int .i64 0] 25 (0, 0)) (by (with_reducible repeat (first | refine blk_drewN ?_ _ | refine blk_drew ?_ | refine blk_alloc ?_ _)); exact BK149.out) NB149_152.out (by simp))
          have n1_ := Aside0.mk (hb)
          have n2_ := Aside0.mk (hi)
          clear BK149
          clear HB
          clear HI152
          have BK149 := n0_
          have HB := n1_
          have HI152 := n2_
          clear n0_ n1_ n2_
          (try clear hb)
          (try clear hb2)
          (try clear hk)
          (try clear hi)
          refine hK.out _ _ ⟨v161, adz_v161, m9_, (by rw [ha.out]; exact putSel_upk 1 hb_ rfl rfl rfl), fun _ => (by (with_reducible repeat (first | refine blk_drewN ?_ _ | refine blk_drew ?_ | refine blk_alloc ?_ _)); exact BK149.out), fun h0_ => absurd ((hon 1 (by kernel_rfl)).symm.trans h0_) (by decide), (by repeat (first | (with_reducible first | exact HB.out | apply below_alloc | apply pw_below_drewN | apply below_drew1 | refine below_set ?_ (IsS74.ge HI152.out) | refine below_set ?_ GE149.out) | exact HB.out)), fun _ h1_ => absurd ((up_self b 3).symm.trans h1_) (by decide), fun _ _ => (by repeat (first | (with_reducible first | exact HI152.out | apply IsS74.alloc | apply IsS74.drewN | apply IsS74.drew | apply IsS74.set_1 | refine IsS74.far ?_ NB152_149.out _) | exact HI152.out)), fun h0_ => absurd ((hoff 4 (by kernel_rfl)).symm.trans h0_) (by decide), fun h0_ => absurd ((hoff 4 (by kernel_rfl)).symm.trans h0_) (by decide), fun h0_ => absurd ((hoff 6 (by kernel_rfl)).symm.trans h0_) (by decide), fun h0_ => absurd ((hoff 11 (by kernel_rfl)).symm.trans h0_) (by decide), fun h0_ => absurd ((hoff 9 (by kernel_rfl)).symm.trans h0_) (by decide)⟩
        refine steps_cons ?_ ?_
        · rintro b a w' ⟨v161, adz_v161, m9_, ha, Q_BK149, Q_HI152, Q_HB, Q_HI152_e1, Q_HI152_e3, Q_HO162, Q_HA_HO162, Q_HI152_e6, Q_BK149_e11, Q_X9_⟩ hb_ hon hoff
          refine ⟨_, rfl, fun K hK => ?_⟩
          have e10 : a.tmps[10]? = some (.int .i64 t158) := by rw [ha]; exact putSel_on (e := (3, 10, .int .i64 t158)) 1 rfl rfl (hon 3 (by kernel_rfl)) rfl
          replace ha := Aside0.mk ha
          have HB := Aside0.mk Q_HB
          refine Kd.R_lit_step (Kd.int .i64) _ 3 ?hg (N := 11) ?hd (xs := ([t158, 99999, (-1), 100000] : List Int)) (inner := [.int .i64 t158, .int .i64 99999, .int .i64 (-1), .int .i64 100000]) (ok := fun _ => True) (okp := fun _ => True) ?hr ?hp (fun _ hk => hk) trivial (Below.refl _ _) (Nat.le_refl _) (by simp) ?_; (case hd => rfl); (case hg => rfl); (case hr => first | (go_simp; done) | (go_simp; rfl)); (case hp => exact (Reps.one (show Kd.M (Kd.int .i64) _ _ _ t158 [.int .i64 t158] from rfl) (Reps.one (show Kd.M (Kd.int .i64) _ _ _ 99999 [.int .i64 99999] from rfl) (Reps.one (show Kd.M (Kd.int .i64) _ _ _ (-1) [.int .i64 (-1)] from rfl) (Reps.one (show Kd.M (Kd.int .i64) _ _ _ 100000 [.int .i64 100000] from rfl) (Reps.none _ _))))))
          intro v161 w15 ho16 hb hg_ hnew_
          clear hg_ hnew_
          (first | rw [← Ny160.out] at ho16 | (simp only [Int.reduceToNat] at ho16; rw [← Ny160.out] at ho16))
          have n0_ := Aside0.mk (Kd.R_lower ho16 (below_size (by repeat (first | (with_reducible first | exact HB.out | apply below_alloc | apply pw_below_drewN | apply below_drew1 | refine below_set ?_ GE149.out) | exact HB.out))))
          have n3_ := Aside0.mk (below_step (by repeat (first | (with_reducible first | exact HB.out | apply below_alloc | apply pw_below_drewN | apply below_drew1 | refine below_set ?_ GE149.out) | exact HB.out)) hb)
          have z_BK149 := fun (h0_ : b 11 = false) => (show w15.heap[gb149]? = some (.cells #[.int .i64 0, .int .i64 0, .int .i64 0, .int .i64 0] 25 (0, 0)) from by first | exact (blk_below (g := gb149) (o := .cells #[.int .i64 0, .int .i64 0, .int .i64 0, .int .i64 0] 25 (0, 0)) (by (with_reducible repeat (first | refine blk_drewN ?_ _ | refine blk_drew ?_ | refine blk_alloc ?_ _)); exact (Q_BK149 h0_)) hb))
          have z_HI152_e3 := fun (h0_ : b 3 = true) (h1_ : b 6 = false) => (show IsS74 w w15 g152 t150 t159 from by first | exact (IsS74.below (by repeat (first | (with_reducible first | exact (Q_HI152_e3 h0_ h1_) | apply IsS74.alloc | apply IsS74.drewN | apply IsS74.drew | apply IsS74.set_1 | refine IsS74.far ?_ NB152_149.out _) | exact (Q_HI152_e3 h0_ h1_))) hb))
          have z_HI152_e6 := fun (h0_ : b 6 = true) => (show IsS74 w w15 g152 t150 t164 from by first | exact (IsS74.below (by repeat (first | (with_reducible first | exact (Q_HI152_e6 h0_) | apply IsS74.alloc | apply IsS74.drewN | apply IsS74.drew | apply IsS74.set_1 | refine IsS74.far ?_ NB152_149.out _) | exact (Q_HI152_e6 h0_))) hb))
          have z_BK149_e11 := fun (h0_ : b 11 = true) => (show w15.heap[gb149]? = some (.cells #[.int .i64 t153, .int .i64 t154, .int .i64 t155, .int .i64 t156] 25 (0, 0)) from by first | exact (blk_below (g := gb149) (o := .cells #[.int .i64 t153, .int .i64 t154, .int .i64 t155, .int .i64 t156] 25 (0, 0)) (by (with_reducible repeat (first | refine blk_drewN ?_ _ | refine blk_drew ?_ | refine blk_alloc ?_ _)); exact (Q_BK149_e11 h0_)) hb))
          clear HB
          have HO162 := n0_
          have HB := n3_
          clear n0_ n3_
          clear hb ho16
          obtain ⟨Ao17, co17, eo17⟩ := Kd.R_slice HO162.out
          subst eo17
          obtain ⟨ado17, fo17, _⟩ := Kd.at_int (Kd.R_reads' HO162.out).2.2 0 (by decide) (by rw [Ny160.out]; simp)
          cases fo17
          refine hK.out _ _ ⟨.slice (some ado17) y160.length co17, ado17, m9_, (by rw [ha.out]; exact putSel_upk 2 hb_ rfl rfl rfl), z_BK149, fun h0_ => absurd ((hon 1 (by kernel_rfl)).symm.trans h0_) (by decide), (by repeat (first | (with_reducible first | exact HB.out | apply below_alloc | apply pw_below_drewN | apply below_drew1 | refine below_set ?_ GE149.out) | exact HB.out)), fun _ h1_ => absurd ((hon 3 (by kernel_rfl)).symm.trans h1_) (by decide), z_HI152_e3, fun _ => (by (with_reducible repeat (first | apply Kd.R_alloc | apply Kd.R_drewN | apply Kd.R_drew)); exact HO162.out), fun _ => ⟨_, rfl⟩, z_HI152_e6, z_BK149_e11, fun h0_ => absurd ((hoff 9 (by kernel_rfl)).symm.trans h0_) (by decide)⟩
        refine steps_cons ?_ ?_
        · rintro b a w' ⟨v161, adz_v161, m9_, ha, Q_BK149, Q_HI152, Q_HB, Q_HI152_e1, Q_HI152_e3, Q_HO162, Q_HA_HO162, Q_HI152_e6, Q_BK149_e11, Q_X9_⟩ hb_ hon hoff
          refine ⟨_, rfl, fun K hK => ?_⟩
          have e12 : a.tmps[12]? = some (.pointer (some ⟨g152, 0, none⟩)) := by rw [ha]; exact (putSel_off rfl).trans rfl
          replace ha := Aside0.mk ha
          have BK149 := Aside0.mk (Q_BK149 (hoff 11 (by kernel_rfl)))
          have HB := Aside0.mk Q_HB
          have HI152 := Aside0.mk (Q_HI152_e3 (hon 3 (by kernel_rfl)) hb_)
          refine goes_ Try.func46 (by kernel_rfl) rfl #[.pointer (some ⟨g152, 0, none⟩), .int .i64 12] (by rfl) rfl rfl (by first | (simp only [List.map_toArray, List.map_cons, List.map_nil, Act.eval, Array.getD_eq_getD_getElem?, Option.getD_some, e12]; done) | (simp only [List.map_toArray, List.map_cons, List.map_nil, Act.eval, Array.getD_eq_getD_getElem?, Option.getD_some, e12]; rfl)) ?_
          with_reducible refine (spec_l1Rd_pick.calls k g152 t150 t159 12 t163 t164 w _ ?side1 ?side2 A5.out).mono ?_
          (case side1 => repeat (first | (with_reducible first | exact HI152.out | apply IsS74.alloc | apply IsS74.drewN | apply IsS74.drew | apply IsS74.set_1 | refine IsS74.far ?_ NB152_149.out _) | exact HI152.out))
          (case side2 => repeat (first | (with_reducible first | exact HB.out | apply below_alloc | apply pw_below_drewN | apply below_drew1 | refine below_set ?_ (IsS74.ge HI152.out) | refine below_set ?_ GE149.out) | exact HB.out))
          rintro e w15 ⟨rfl, hi, hb, hk⟩
          refine ⟨_, rfl, ?_⟩
          have n0_ := Aside0.mk (KeepBut.blk hk (g' := gb149) (o := .cells #[.int .i64 0, .int .i64 0, .int .i64 0, .int .i64 0] 25 (0, 0)) (by (with_reducible repeat (first | refine blk_drewN ?_ _ | refine blk_drew ?_ | refine blk_alloc ?_ _)); exact BK149.out) NB149_152.out (by simp))
          have n1_ := Aside0.mk (hb)
          have n2_ := Aside0.mk (hi)
          have z_HO162 := fun (h0_ : b 4 = true) => (show Kd.R (Kd.int .i64) 3 w15 w.heap.size (fun _ => True) v161 y160 from by first | exact (Kd.R_mono (Kd.R_keep (IsS74.apart (show IsS74 w _ g152 t150 t159 from by repeat (first | (with_reducible first | exact HI152.out | apply IsS74.alloc | apply IsS74.drewN | apply IsS74.drew | apply IsS74.set_1 | refine IsS74.far ?_ NB152_149.out _) | exact HI152.out)) (by (with_reducible repeat (first | apply Kd.R_alloc | apply Kd.R_drewN | apply Kd.R_drew)); exact (Q_HO162 h0_)) (by decide)) hk (fun _ h => h.2)) (fun _ h => h.1)) | exact Kd.R_mono (Kd.R_mono (Kd.R_keep (IsS74.apart (show IsS74 w _ g152 t150 t159 from by repeat (first | (with_reducible first | exact HI152.out | apply IsS74.alloc | apply IsS74.drewN | apply IsS74.drew | apply IsS74.set_1 | refine IsS74.far ?_ NB152_149.out _) | exact HI152.out)) (by (with_reducible repeat (first | apply Kd.R_alloc | apply Kd.R_drewN | apply Kd.R_drew)); exact (Q_HO162 h0_)) (by decide)) hk (fun _ h => h.2)) (fun _ h => h.1)) (fun _ h_ => by first | trivial | exact h_ | exact h_.1))
          clear BK149
          clear HB
          clear HI152
          have BK149 := n0_
          have HB := n1_
          have HI152 := n2_
          clear n0_ n1_ n2_
          (try clear hb)
          (try clear hb2)
          (try clear hk)
          (try clear hi)
          refine hK.out _ _ ⟨v161, adz_v161, m9_, (by rw [ha.out]; exact putSel_upk 3 hb_ rfl rfl rfl), fun _ => (by (with_reducible repeat (first | refine blk_drewN ?_ _ | refine blk_drew ?_ | refine blk_alloc ?_ _)); exact BK149.out), fun h0_ => absurd ((hon 1 (by kernel_rfl)).symm.trans h0_) (by decide), (by repeat (first | (with_reducible first | exact HB.out | apply below_alloc | apply pw_below_drewN | apply below_drew1 | refine below_set ?_ (IsS74.ge HI152.out) | refine below_set ?_ GE149.out) | exact HB.out)), fun _ h1_ => absurd ((hon 3 (by kernel_rfl)).symm.trans h1_) (by decide), fun _ h1_ => absurd ((up_self b 6).symm.trans h1_) (by decide), z_HO162, Q_HA_HO162, fun _ => (by repeat (first | (with_reducible first | exact HI152.out | apply IsS74.alloc | apply IsS74.drewN | apply IsS74.drew | apply IsS74.set_1 | refine IsS74.far ?_ NB152_149.out _) | exact HI152.out)), fun h0_ => absurd ((hoff 11 (by kernel_rfl)).symm.trans h0_) (by decide), fun h0_ => absurd ((hoff 9 (by kernel_rfl)).symm.trans h0_) (by decide)⟩
        refine steps_cons ?_ ?_
        · rintro b a w' ⟨v161, adz_v161, m9_, ha, Q_BK149, Q_HI152, Q_HB, Q_HI152_e1, Q_HI152_e3, Q_HO162, Q_HA_HO162, Q_HI152_e6, Q_BK149_e11, Q_X9_⟩ hb_ hon hoff
          refine ⟨_, rfl, fun K hK => ?_⟩
          have e13 : a.tmps[13]? = some (.int .i64 t163) := by rw [ha]; exact putSel_on (e := (6, 13, .int .i64 t163)) 3 rfl rfl (hon 6 (by kernel_rfl)) rfl
          replace ha := Aside0.mk ha
          have HB := Aside0.mk Q_HB
          have HI152 := Aside0.mk (Q_HI152_e6 (hon 6 (by kernel_rfl)))
          refine value_ (w1 := w') (v := .int .i64 (wrap64 (t163 * 4))) (by rfl) rfl ?_ ?_
          · go_simp
            (try simp only [i64_w])
            try rfl
          refine hK.out _ _ ⟨v161, adz_v161, m9_, (by rw [ha.out]; exact putSel_upk 4 hb_ rfl rfl rfl), Q_BK149, fun h0_ => absurd ((hon 1 (by kernel_rfl)).symm.trans h0_) (by decide), Q_HB, fun _ h1_ => absurd ((hon 3 (by kernel_rfl)).symm.trans h1_) (by decide), fun _ h1_ => absurd ((hon 6 (by kernel_rfl)).symm.trans h1_) (by decide), Q_HO162, Q_HA_HO162, Q_HI152_e6, Q_BK149_e11, fun h0_ => absurd ((hoff 9 (by kernel_rfl)).symm.trans h0_) (by decide)⟩
        refine steps_cons ?_ ?_
        · rintro b a w' ⟨v161, adz_v161, m9_, ha, Q_BK149, Q_HI152, Q_HB, Q_HI152_e1, Q_HI152_e3, Q_HO162, Q_HA_HO162, Q_HI152_e6, Q_BK149_e11, Q_X9_⟩ hb_ hon hoff
          refine ⟨_, rfl, fun K hK => ?_⟩
          have e14 : a.tmps[14]? = some (.int .i64 (wrap64 (t163 * 4))) := by rw [ha]; exact putSel_on (e := (7, 14, .int .i64 (wrap64 (t163 * 4)))) 4 rfl rfl (hon 7 (by kernel_rfl)) rfl
          replace ha := Aside0.mk ha
          have HB := Aside0.mk Q_HB
          have HI152 := Aside0.mk (Q_HI152_e6 (hon 6 (by kernel_rfl)))
          refine value_ (w1 := w') (v := .int .i64 ji6) (by rfl) rfl ?_ ?_
          · go_simp
            (try simp only [i64_w])
            try rfl
          refine hK.out _ _ ⟨v161, adz_v161, m9_, (by rw [ha.out]; exact putSel_upk 5 hb_ rfl rfl rfl), Q_BK149, fun h0_ => absurd ((hon 1 (by kernel_rfl)).symm.trans h0_) (by decide), Q_HB, fun _ h1_ => absurd ((hon 3 (by kernel_rfl)).symm.trans h1_) (by decide), fun _ h1_ => absurd ((hon 6 (by kernel_rfl)).symm.trans h1_) (by decide), Q_HO162, Q_HA_HO162, Q_HI152_e6, Q_BK149_e11, fun h0_ => absurd ((hoff 9 (by kernel_rfl)).symm.trans h0_) (by decide)⟩
        refine steps_cons ?_ ?_
        · rintro b a w' ⟨v161, adz_v161, m9_, ha, Q_BK149, Q_HI152, Q_HB, Q_HI152_e1, Q_HI152_e3, Q_HO162, Q_HA_HO162, Q_HI152_e6, Q_BK149_e11, Q_X9_⟩ hb_ hon hoff
          refine ⟨_, rfl, fun K hK => ?_⟩
          have e11 : a.tmps[11]? = some (v161) := by rw [ha]; exact putSel_on (e := (4, 11, v161)) 2 rfl rfl (hon 4 (by kernel_rfl)) rfl
          have e15 : a.tmps[15]? = some (.int .i64 ji6) := by rw [ha]; exact putSel_on (e := (8, 15, .int .i64 ji6)) 5 rfl rfl (hon 8 (by kernel_rfl)) rfl
          replace ha := Aside0.mk ha
          have HB := Aside0.mk Q_HB
          have HO162 := Aside0.mk (Q_HO162 (hon 4 (by kernel_rfl)))
          have HA_HO162 := Aside0.mk (Q_HA_HO162 (hon 4 (by kernel_rfl)))
          have HI152 := Aside0.mk (Q_HI152_e6 (hon 6 (by kernel_rfl)))
          obtain ⟨c_, hv_⟩ := HA_HO162.out
          rw [hv_] at e11
          refine value_ (w1 := w') (v := .pointer (some (adz_v161.add ((ji6)).toNat))) (by rfl) rfl ?_ ?_
          · go_simp
            (try simp only [i64_w])
            try rfl
          refine hK.out _ _ ⟨v161, adz_v161, (.pointer (some (adz_v161.add ((ji6)).toNat))), (by rw [ha.out]; exact putSel_upk 6 hb_ rfl rfl rfl), Q_BK149, fun h0_ => absurd ((hon 1 (by kernel_rfl)).symm.trans h0_) (by decide), Q_HB, fun _ h1_ => absurd ((hon 3 (by kernel_rfl)).symm.trans h1_) (by decide), fun _ h1_ => absurd ((hon 6 (by kernel_rfl)).symm.trans h1_) (by decide), Q_HO162, Q_HA_HO162, Q_HI152_e6, Q_BK149_e11, fun _ => rfl⟩
        refine steps_cons ?_ ?_
        · rintro b a w' ⟨v161, adz_v161, m9_, ha, Q_BK149, Q_HI152, Q_HB, Q_HI152_e1, Q_HI152_e3, Q_HO162, Q_HA_HO162, Q_HI152_e6, Q_BK149_e11, Q_X9_⟩ hb_ hon hoff
          refine ⟨_, rfl, fun K hK => ?_⟩
          have e16 : a.tmps[16]? = some (m9_) := by rw [ha]; exact putSel_on (e := (9, 16, m9_)) 6 rfl rfl (hon 9 (by kernel_rfl)) rfl
          rw [Q_X9_ (hon 9 (by kernel_rfl))] at e16
          replace ha := Aside0.mk ha
          have HB := Aside0.mk Q_HB
          have HO162 := Aside0.mk (Q_HO162 (hon 4 (by kernel_rfl)))
          have HA_HO162 := Aside0.mk (Q_HA_HO162 (hon 4 (by kernel_rfl)))
          have HI152 := Aside0.mk (Q_HI152_e6 (hon 6 (by kernel_rfl)))
          obtain ⟨c_, hv_⟩ := HA_HO162.out
          have hF_ := HO162.out
          rw [hv_] at hF_
          obtain ⟨ad_, ea_, hx_⟩ := Kd.at_int (Kd.R_reads' hF_).2.2 (ji6) (of_eq_true pi165) (of_eq_true qi165)
          cases ea_
          refine value_ (w1 := w') (v := .int .i64 (rd y160 (ji6))) (by rfl) rfl ?_ ?_
          · go_simp
            (try simp only [i64_w])
            try rfl
          refine hK.out _ _ ⟨v161, adz_v161, m9_, (by rw [ha.out]; exact putSel_upk 7 hb_ rfl rfl rfl), Q_BK149, fun h0_ => absurd ((hon 1 (by kernel_rfl)).symm.trans h0_) (by decide), Q_HB, fun _ h1_ => absurd ((hon 3 (by kernel_rfl)).symm.trans h1_) (by decide), fun _ h1_ => absurd ((hon 6 (by kernel_rfl)).symm.trans h1_) (by decide), Q_HO162, Q_HA_HO162, Q_HI152_e6, Q_BK149_e11, Q_X9_⟩
        refine steps_cons ?_ ?_
        · rintro b a w' ⟨v161, adz_v161, m9_, ha, Q_BK149, Q_HI152, Q_HB, Q_HI152_e1, Q_HI152_e3, Q_HO162, Q_HA_HO162, Q_HI152_e6, Q_BK149_e11, Q_X9_⟩ hb_ hon hoff
          refine ⟨_, rfl, fun K hK => ?_⟩
          have e2 : a.tmps[2]? = some (.pointer (some ⟨gb149, 0, none⟩)) := by rw [ha]; exact (putSel_off rfl).trans rfl
          have e8 : a.tmps[8]? = some (.agg #[.int .i64 t153, .int .i64 t154, .int .i64 t155, .int .i64 t156]) := by rw [ha]; exact putSel_on (e := (1, 8, .agg #[.int .i64 t153, .int .i64 t154, .int .i64 t155, .int .i64 t156])) 0 rfl rfl (hon 1 (by kernel_rfl)) rfl
          replace ha := Aside0.mk ha
          have BK149 := Aside0.mk (Q_BK149 hb_)
          have HB := Aside0.mk Q_HB
          have HI152 := Aside0.mk (Q_HI152_e6 (hon 6 (by kernel_rfl)))
          have hs16 : w'.cell? ⟨gb149, 0, none⟩ = some (.int .i64 0) := (blk_cell BK149.out 0).trans rfl
          have hfs16 := blk_frozen BK149.out 0
          have hs17 : w'.cell? ⟨gb149, 1, none⟩ = some (.int .i64 0) := (blk_cell BK149.out 1).trans rfl
          have hfs17 := blk_frozen BK149.out 1
          have hs18 : w'.cell? ⟨gb149, 2, none⟩ = some (.int .i64 0) := (blk_cell BK149.out 2).trans rfl
          have hfs18 := blk_frozen BK149.out 2
          have hs19 : w'.cell? ⟨gb149, 3, none⟩ = some (.int .i64 0) := (blk_cell BK149.out 3).trans rfl
          have hfs19 := blk_frozen BK149.out 3
          refine skip_ (w1 := ?_) (by rfl) rfl ?_ ?_
          rotate_left
          · go_simp
            rfl
          refine hK.out _ _ ⟨v161, adz_v161, m9_, (by rw [ha.out]; exact putSel_none (v := undef) rfl), fun h0_ => absurd ((up_self b 11).symm.trans h0_) (by decide), fun h0_ => absurd ((hon 1 (by kernel_rfl)).symm.trans h0_) (by decide), (by repeat (first | (with_reducible first | exact HB.out | apply below_alloc | apply pw_below_drewN | apply below_drew1 | refine below_set ?_ (IsS74.ge HI152.out) | refine below_set ?_ GE149.out) | exact HB.out)), fun _ h1_ => absurd ((hon 3 (by kernel_rfl)).symm.trans h1_) (by decide), fun _ h1_ => absurd ((hon 6 (by kernel_rfl)).symm.trans h1_) (by decide), fun h0_ => (by (with_reducible repeat (first | apply Kd.R_alloc | apply Kd.R_drewN | apply Kd.R_drew)); exact Kd.R_mono (Kd.R_far (p := ⟨gb149, 3, none⟩) (Kd.R_far (p := ⟨gb149, 2, none⟩) (Kd.R_far (p := ⟨gb149, 1, none⟩) (Kd.R_far (p := ⟨gb149, 0, none⟩) (Kd.R_types (Q_HO162 h0_) BK149.out (by decide)) (fun _ hk => hk.2) (.int .i64 t153)) (fun _ hk => hk.2) (.int .i64 t154)) (fun _ hk => hk.2) (.int .i64 t155)) (fun _ hk => hk.2) (.int .i64 t156)) (fun _ hk => trivial)), Q_HA_HO162, fun _ => (by repeat (first | (with_reducible first | exact HI152.out | apply IsS74.alloc | apply IsS74.drewN | apply IsS74.drew | apply IsS74.set_1 | refine IsS74.far ?_ NB152_149.out _) | exact HI152.out)), fun _ => (by (with_reducible repeat (first | refine blk_drewN ?_ _ | refine blk_drew ?_ | refine blk_alloc ?_ _)); refine blk_put (cs := #[.int .i64 t153, .int .i64 t154, .int .i64 t155, .int .i64 0]) ?_ 3 _ rfl; (with_reducible repeat (first | refine blk_drewN ?_ _ | refine blk_drew ?_ | refine blk_alloc ?_ _)); refine blk_put (cs := #[.int .i64 t153, .int .i64 t154, .int .i64 0, .int .i64 0]) ?_ 2 _ rfl; (with_reducible repeat (first | refine blk_drewN ?_ _ | refine blk_drew ?_ | refine blk_alloc ?_ _)); refine blk_put (cs := #[.int .i64 t153, .int .i64 0, .int .i64 0, .int .i64 0]) ?_ 1 _ rfl; (with_reducible repeat (first | refine blk_drewN ?_ _ | refine blk_drew ?_ | refine blk_alloc ?_ _)); refine blk_put (cs := #[.int .i64 0, .int .i64 0, .int .i64 0, .int .i64 0]) ?_ 0 _ rfl; (with_reducible repeat (first | refine blk_drewN ?_ _ | refine blk_drew ?_ | refine blk_alloc ?_ _)); exact BK149.out), Q_X9_⟩
        refine steps_cons ?_ ?_
        · rintro b a w' ⟨v161, adz_v161, m9_, ha, Q_BK149, Q_HI152, Q_HB, Q_HI152_e1, Q_HI152_e3, Q_HO162, Q_HA_HO162, Q_HI152_e6, Q_BK149_e11, Q_X9_⟩ hb_ hon hoff
          refine ⟨_, rfl, fun K hK => ?_⟩
          have e17 : a.tmps[17]? = some (.int .i64 (rd y160 (ji6))) := by rw [ha]; exact putSel_on (e := (10, 17, .int .i64 (rd y160 (ji6)))) 7 rfl rfl (hon 10 (by kernel_rfl)) rfl
          replace ha := Aside0.mk ha
          have HB := Aside0.mk Q_HB
          have HO162 := Aside0.mk (Q_HO162 (hon 4 (by kernel_rfl)))
          have HA_HO162 := Aside0.mk (Q_HA_HO162 (hon 4 (by kernel_rfl)))
          have HI152 := Aside0.mk (Q_HI152_e6 (hon 6 (by kernel_rfl)))
          have BK149 := Aside0.mk (Q_BK149_e11 (hon 11 (by kernel_rfl)))
          refine value_ (w1 := w') (v := .int .i64 (rd y160 (ji6))) (by rfl) rfl ?_ ?_
          · go_simp
            (try simp only [i64_w])
            try rfl
          refine hK.out _ _ ⟨v161, adz_v161, m9_, (by rw [ha.out]; exact putSel_upk 8 hb_ rfl rfl rfl), fun h0_ => absurd ((hon 11 (by kernel_rfl)).symm.trans h0_) (by decide), fun h0_ => absurd ((hon 1 (by kernel_rfl)).symm.trans h0_) (by decide), Q_HB, fun _ h1_ => absurd ((hon 3 (by kernel_rfl)).symm.trans h1_) (by decide), fun _ h1_ => absurd ((hon 6 (by kernel_rfl)).symm.trans h1_) (by decide), Q_HO162, Q_HA_HO162, Q_HI152_e6, Q_BK149_e11, Q_X9_⟩
        exact steps_nil
      rintro b a w22 hall ⟨v161, adz_v161, m9_, ha, Q_BK149, Q_HI152, Q_HB, Q_HI152_e1, Q_HI152_e3, Q_HO162, Q_HA_HO162, Q_HI152_e6, Q_BK149_e11, Q_X9_⟩
      clear BK149 HB HI152
      have hb1_ := hall 1 (by kernel_rfl)
      have hb3_ := hall 3 (by kernel_rfl)
      have hb4_ := hall 4 (by kernel_rfl)
      have hb6_ := hall 6 (by kernel_rfl)
      have hb7_ := hall 7 (by kernel_rfl)
      have hb8_ := hall 8 (by kernel_rfl)
      have hb9_ := hall 9 (by kernel_rfl)
      have hb10_ := hall 10 (by kernel_rfl)
      have hb11_ := hall 11 (by kernel_rfl)
      have hb12_ := hall 12 (by kernel_rfl)
      subst ha
      obtain rfl := Q_X9_ hb9_
      simp only [putSel, hb1_, hb3_, hb4_, hb6_, hb7_, hb8_, hb9_, hb10_, hb11_, hb12_, if_true, Act.put, List.setIfInBounds_toArray, List.set_cons_zero, List.set_cons_succ]
      clear Q_BK149
      clear Q_HI152
      have HB := Aside0.mk Q_HB
      clear Q_HB
      clear Q_HI152_e1
      clear Q_HI152_e3
      have HO162 := Aside0.mk (Q_HO162 hb4_)
      clear Q_HO162
      have HA_HO162 := Aside0.mk (Q_HA_HO162 hb4_)
      clear Q_HA_HO162
      have HI152 := Aside0.mk (Q_HI152_e6 hb6_)
      clear Q_HI152_e6
      have BK149 := Aside0.mk (Q_BK149_e11 hb11_)
      clear Q_BK149_e11
      clear hall hb1_ hb3_ hb4_ hb6_ hb7_ hb8_ hb9_ hb10_ hb11_ hb12_
      obtain ⟨co23, eo23⟩ := HA_HO162.out
      clear HA_HO162
      subst eo23
      try go_wp2
      refine bodyPost_ret (results_ct rfl _ _ gb149 25 #[.int .i64 t153, .int .i64 t154, .int .i64 t155, .int .i64 t156] (0, 0) _ rfl (by (with_reducible repeat (first | refine blk_drewN ?_ _ | refine blk_drew ?_ | refine blk_alloc ?_ _)); exact BK149.out) Try.underlying25 rfl (by kernel_rfl)) rfl ?_
      exact ⟨by first | rfl | (simp [errW_none, errW_some] <;> rfl) | (simp only [← hji6]; first | rfl | (simp [errW_none, errW_some] <;> rfl)) | (simp [*, errW_none, errW_some] <;> rfl), by repeat (first | (with_reducible first | exact HB.out | apply below_alloc | apply pw_below_drewN | apply below_drew1 | refine below_set ?_ (IsS74.ge HI152.out) | refine below_set ?_ GE149.out) | exact HB.out)⟩
    · rw [if_neg c8] at H
      exact absurd H (by simp)
  · rw [if_neg c7] at H
    exact absurd H (by simp)

end Go.Proofs.Ytdigjaphfpfbaaa.PFnBucketAt
