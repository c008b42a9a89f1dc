-- PRINTED BY print.sh 35421559b90ae4d0a3588c463048766b98c2df88dd9212a6774a882060cdf62d: not written by this session
import Derived.Test.YtdigjaphfpfbaaaPFnBucketTakex0
import Derived.Test.YtdigjaphfpfbaaaPFnBucketTakex3
import Derived.Test.YtdigjaphfpfbaaaPFnBucketTakex4
namespace Go.Proofs.Ytdigjaphfpfbaaa.PFnBucketTake
open Go.RowKit Go.Proofs.YtdigjaphfpfbaaaW.PrintWords Go.Proofs.YtdigjaphfpfbaaaW.PrintLast Go.Proofs.YtdigjaphfpfbaaaW.PrintMore
attribute [local go_sem] max2_int min2_int max_two min_two max_three min_three max_four min_four   -- for this text's walks alone
set_option linter.unusedVariables false
set_option linter.unusedSimpArgs false

/-! ### spec_DrawBucketTake: function 40 -/
def spec_DrawBucketTake.f (k : Nat) (l0 : List Int) : Option (Int × Int × Int × Int × Int × Int) := (spec_l1Open.f l0).bind fun bt159 => ((spec_l15Bucket.f k bt159.1 bt159.2).bind fun bt162 => ((spec_l1Rd_pick.f k bt159.1 bt162.2.2.2.2 9).bind fun bt168 => ((spec_l1Rd_pick.f k bt159.1 bt168.2 80).bind fun bt170 => ((some (([wrap64 (bt162.2.2.2.1 + bt168.1), bt170.1, (-1)] : List Int) : List Int)).bind fun y172 => ((spec_l1Rd_pick.f k bt159.1 bt170.2 12).bind fun bt175 => (if 0 ≤ (wrap64 (Int.tdiv (wrap64 (bt175.1 * 3)) 12)) then (if (wrap64 (Int.tdiv (wrap64 (bt175.1 * 3)) 12)) < (y172.length : Int) then ((spec_l1Rd_pick.f k bt159.1 bt175.2 60).bind fun bt178 => ((some (([bt178.1, 0, (-1)] : List Int) : List Int)).bind fun y180 => ((spec_l1Rd_pick.f k bt159.1 bt178.2 10).bind fun bt183 => (if 0 ≤ (wrap64 (Int.tdiv (wrap64 (bt183.1 * 3)) 10)) then (if (wrap64 (Int.tdiv (wrap64 (bt183.1 * 3)) 10)) < (y180.length : Int) then (some (bt162.1, bt162.2.1, bt162.2.2.1, bt162.2.2.2.1, rd y172 (wrap64 (Int.tdiv (wrap64 (bt175.1 * 3)) 12)), rd y180 (wrap64 (Int.tdiv (wrap64 (bt183.1 * 3)) 10)))) else (none)) else (none))))) else (none)) else (none)))))))
theorem spec_DrawBucketTake.mono : ∀ a0 k, LeO (spec_DrawBucketTake.f k a0) (spec_DrawBucketTake.f (k + 1) a0) := by
  intro a0 k
  unfold spec_DrawBucketTake.f
  repeat' first
      | (with_reducible exact spec_l15Bucket.mono _ _ _)
      | (with_reducible exact spec_l1Rd_pick.mono _ _ _ _)
      | (with_reducible exact LeO.refl _)
      | (with_reducible exact LeO.none _)
      | (with_reducible refine LeO.ite ?_ ?_)
      | (with_reducible refine LeO.bind ?_ (fun _ => ?_))
      | exact spec_l15Bucket.mono _ _ _
      | exact spec_l1Rd_pick.mono _ _ _ _
      | exact LeO.none _
      | refine LeO.ite ?_ ?_
      | refine LeO.bind ?_ (fun _ => ?_)
def spec_DrawBucketTake.T3 : Bool × List (List Nat × List Nat) := (true, [([], []), ([], []), ([1], [1]), ([], []), ([3], [3]), ([2, 4], [2, 4]), ([], []), ([6, 4], [6]), ([5, 7], [5, 7]), ([], []), ([9, 7], [9]), ([10], [10]), ([11], [11]), ([8, 12], [8, 12]), ([13], [13]), ([], []), ([15, 10], [15]), ([16], [16]), ([], []), ([18, 16], [18]), ([19], [19]), ([20], [20]), ([17, 21], [17, 21]), ([22], [22]), ([0, 19, 0], [0]), ([14, 24, 0, 1, 2, 3, 4, 5, 6, 7, 8, 9, 10, 11, 12, 13, 14, 24], [14]), ([23, 25, 0, 1, 2, 3, 4, 5, 6, 7, 8, 9, 10, 11, 12, 13, 14, 15, 16, 17, 18, 19, 20, 21, 22, 23, 24, 25], [23])])
def spec_DrawBucketTake.B3 : List Nat := [0, 0, 2, 0, 8, 30, 0, 88, 254, 0, 728, 1752, 3800, 8190, 16382, 0, 34520, 100056, 0, 362200, 886488, 1935064, 4163288, 8357592, 886489, 17694719, 67108863]
theorem spec_DrawBucketTake.tab3 : rtab .any (opsOf Try.f40 3) = spec_DrawBucketTake.T3 := by kernel_rfl
theorem spec_DrawBucketTake.bits3 : waitsOk spec_DrawBucketTake.T3.2 spec_DrawBucketTake.B3 = true := by kernel_rfl
set_option maxHeartbeats 8000000 in
set_option maxRecDepth 100000 in
theorem spec_DrawBucketTake.calls (k : Nat) (A0 : Option Addr) (c0 : Nat) (l0 : List Int) (r1 : Int) (r2 : Int) (r3 : Int) (r4 : Int) (r5 : Int) (r6 : Int) (w : World) (hr0 : Kd.C (Kd.int .u8) w A0 l0.length l0) (hc0 : l0.length ≤ c0) (h : spec_DrawBucketTake.f k l0 = some (r1, r2, r3, r4, r5, r6)) :
    Calls Try.prog 40 #[.slice A0 l0.length c0] w fun e w' => e = .returned (.tuple #[.agg #[.int .i64 r1, .int .i64 r2, .int .i64 r3, .int .i64 r4], .int .i64 r5, .int .i64 r6]) ∧ Below w.heap.size w w' := by
  have hu25 := Try.underlying25
  have HR0 := Aside0.mk hr0
  have HC0 := Aside0.mk hc0
  clear hr0 hc0
  have HB := Aside0.mk (Below.refl w.heap.size w)
  have H : ((spec_l1Open.f l0).bind fun bt159 => ((spec_l15Bucket.f k bt159.1 bt159.2).bind fun bt162 => ((spec_l1Rd_pick.f k bt159.1 bt162.2.2.2.2 9).bind fun bt168 => ((spec_l1Rd_pick.f k bt159.1 bt168.2 80).bind fun bt170 => ((some (([wrap64 (bt162.2.2.2.1 + bt168.1), bt170.1, (-1)] : List Int) : List Int)).bind fun y172 => ((spec_l1Rd_pick.f k bt159.1 bt170.2 12).bind fun bt175 => (if 0 ≤ (wrap64 (Int.tdiv (wrap64 (bt175.1 * 3)) 12)) then (if (wrap64 (Int.tdiv (wrap64 (bt175.1 * 3)) 12)) < (y172.length : Int) then ((spec_l1Rd_pick.f k bt159.1 bt175.2 60).bind fun bt178 => ((some (([bt178.1, 0, (-1)] : List Int) : List Int)).bind fun y180 => ((spec_l1Rd_pick.f k bt159.1 bt178.2 10).bind fun bt183 => (if 0 ≤ (wrap64 (Int.tdiv (wrap64 (bt183.1 * 3)) 10)) then (if (wrap64 (Int.tdiv (wrap64 (bt183.1 * 3)) 10)) < (y180.length : Int) then (some (bt162.1, bt162.2.1, bt162.2.2.1, bt162.2.2.2.1, rd y172 (wrap64 (Int.tdiv (wrap64 (bt175.1 * 3)) 12)), rd y180 (wrap64 (Int.tdiv (wrap64 (bt183.1 * 3)) 10)))) else (none)) else (none))))) else (none)) else (none)))))))) = some (r1, r2, r3, r4, r5, r6) := h
  clear h
  replace H := Option.bind_eq_some_iff.mp H
  obtain ⟨⟨t159, t160⟩, A20, H⟩ := H
  replace H : ((spec_l15Bucket.f k t159 t160).bind fun bt162 => ((spec_l1Rd_pick.f k t159 bt162.2.2.2.2 9).bind fun bt168 => ((spec_l1Rd_pick.f k t159 bt168.2 80).bind fun bt170 => ((some (([wrap64 (bt162.2.2.2.1 + bt168.1), bt170.1, (-1)] : List Int) : List Int)).bind fun y172 => ((spec_l1Rd_pick.f k t159 bt170.2 12).bind fun bt175 => (if 0 ≤ (wrap64 (Int.tdiv (wrap64 (bt175.1 * 3)) 12)) then (if (wrap64 (Int.tdiv (wrap64 (bt175.1 * 3)) 12)) < (y172.length : Int) then ((spec_l1Rd_pick.f k t159 bt175.2 60).bind fun bt178 => ((some (([bt178.1, 0, (-1)] : List Int) : List Int)).bind fun y180 => ((spec_l1Rd_pick.f k t159 bt178.2 10).bind fun bt183 => (if 0 ≤ (wrap64 (Int.tdiv (wrap64 (bt183.1 * 3)) 10)) then (if (wrap64 (Int.tdiv (wrap64 (bt183.1 * 3)) 10)) < (y180.length : Int) then (some (bt162.1, bt162.2.1, bt162.2.2.1, bt162.2.2.2.1, rd y172 (wrap64 (Int.tdiv (wrap64 (bt175.1 * 3)) 12)), rd y180 (wrap64 (Int.tdiv (wrap64 (bt183.1 * 3)) 10)))) else (none)) else (none))))) else (none)) else (none))))))) = some (r1, r2, r3, r4, r5, r6) := H
  have A2 := Aside0.mk A20
  clear A20
  replace H := Option.bind_eq_some_iff.mp H
  obtain ⟨⟨t162, t163, t164, t165, t166⟩, A30, H⟩ := H
  replace H : ((spec_l1Rd_pick.f k t159 t166 9).bind fun bt168 => ((spec_l1Rd_pick.f k t159 bt168.2 80).bind fun bt170 => ((some (([wrap64 (t165 + bt168.1), bt170.1, (-1)] : List Int) : List Int)).bind fun y172 => ((spec_l1Rd_pick.f k t159 bt170.2 12).bind fun bt175 => (if 0 ≤ (wrap64 (Int.tdiv (wrap64 (bt175.1 * 3)) 12)) then (if (wrap64 (Int.tdiv (wrap64 (bt175.1 * 3)) 12)) < (y172.length : Int) then ((spec_l1Rd_pick.f k t159 bt175.2 60).bind fun bt178 => ((some (([bt178.1, 0, (-1)] : List Int) : List Int)).bind fun y180 => ((spec_l1Rd_pick.f k t159 bt178.2 10).bind fun bt183 => (if 0 ≤ (wrap64 (Int.tdiv (wrap64 (bt183.1 * 3)) 10)) then (if (wrap64 (Int.tdiv (wrap64 (bt183.1 * 3)) 10)) < (y180.length : Int) then (some (t162, t163, t164, t165, rd y172 (wrap64 (Int.tdiv (wrap64 (bt175.1 * 3)) 12)), rd y180 (wrap64 (Int.tdiv (wrap64 (bt183.1 * 3)) 10)))) else (none)) else (none))))) else (none)) else (none)))))) = some (r1, r2, r3, r4, r5, r6) := H
  have A3 := Aside0.mk A30
  clear A30
  replace H := Option.bind_eq_some_iff.mp H
  obtain ⟨⟨t168, t169⟩, A40, H⟩ := H
  replace H : ((spec_l1Rd_pick.f k t159 t169 80).bind fun bt170 => ((some (([wrap64 (t165 + t168), bt170.1, (-1)] : List Int) : List Int)).bind fun y172 => ((spec_l1Rd_pick.f k t159 bt170.2 12).bind fun bt175 => (if 0 ≤ (wrap64 (Int.tdiv (wrap64 (bt175.1 * 3)) 12)) then (if (wrap64 (Int.tdiv (wrap64 (bt175.1 * 3)) 12)) < (y172.length : Int) then ((spec_l1Rd_pick.f k t159 bt175.2 60).bind fun bt178 => ((some (([bt178.1, 0, (-1)] : List Int) : List Int)).bind fun y180 => ((spec_l1Rd_pick.f k t159 bt178.2 10).bind fun bt183 => (if 0 ≤ (wrap64 (Int.tdiv (wrap64 (bt183.1 * 3)) 10)) then (if (wrap64 (Int.tdiv (wrap64 (bt183.1 * 3)) 10)) < (y180.length : Int) then (some (t162, t163, t164, t165, rd y172 (wrap64 (Int.tdiv (wrap64 (bt175.1 * 3)) 12)), rd y180 (wrap64 (Int.tdiv (wrap64 (bt183.1 * 3)) 10)))) else (none)) else (none))))) else (none)) else (none))))) = some (r1, r2, r3, r4, r5, r6) := H
  have A4 := Aside0.mk A40
  clear A40
  replace H := Option.bind_eq_some_iff.mp H
  obtain ⟨⟨t170, t171⟩, A50, H⟩ := H
  replace H : ((some (([wrap64 (t165 + t168), t170, (-1)] : List Int) : List Int)).bind fun y172 => ((spec_l1Rd_pick.f k t159 t171 12).bind fun bt175 => (if 0 ≤ (wrap64 (Int.tdiv (wrap64 (bt175.1 * 3)) 12)) then (if (wrap64 (Int.tdiv (wrap64 (bt175.1 * 3)) 12)) < (y172.length : Int) then ((spec_l1Rd_pick.f k t159 bt175.2 60).bind fun bt178 => ((some (([bt178.1, 0, (-1)] : List Int) : List Int)).bind fun y180 => ((spec_l1Rd_pick.f k t159 bt178.2 10).bind fun bt183 => (if 0 ≤ (wrap64 (Int.tdiv (wrap64 (bt183.1 * 3)) 10)) then (if (wrap64 (Int.tdiv (wrap64 (bt183.1 * 3)) 10)) < (y180.length : Int) then (some (t162, t163, t164, t165, rd y172 (wrap64 (Int.tdiv (wrap64 (bt175.1 * 3)) 12)), rd y180 (wrap64 (Int.tdiv (wrap64 (bt183.1 * 3)) 10)))) else (none)) else (none))))) else (none)) else (none)))) = some (r1, r2, r3, r4, r5, r6) := H
  have A5 := Aside0.mk A50
  clear A50
  obtain ⟨y172, hy172⟩ : ∃ y_ : List Int, y_ = (([wrap64 (t165 + t168), t170, (-1)] : List Int)) := ⟨_, rfl⟩
  replace H : ((spec_l1Rd_pick.f k t159 t171 12).bind fun bt175 => (if 0 ≤ (wrap64 (Int.tdiv (wrap64 (bt175.1 * 3)) 12)) then (if (wrap64 (Int.tdiv (wrap64 (bt175.1 * 3)) 12)) < (y172.length : Int) then ((spec_l1Rd_pick.f k t159 bt175.2 60).bind fun bt178 => ((some (([bt178.1, 0, (-1)] : List Int) : List Int)).bind fun y180 => ((spec_l1Rd_pick.f k t159 bt178.2 10).bind fun bt183 => (if 0 ≤ (wrap64 (Int.tdiv (wrap64 (bt183.1 * 3)) 10)) then (if (wrap64 (Int.tdiv (wrap64 (bt183.1 * 3)) 10)) < (y180.length : Int) then (some (t162, t163, t164, t165, rd y172 (wrap64 (Int.tdiv (wrap64 (bt175.1 * 3)) 12)), rd y180 (wrap64 (Int.tdiv (wrap64 (bt183.1 * 3)) 10)))) else (none)) else (none))))) else (none)) else (none))) = some (r1, r2, r3, r4, r5, r6) := by first | (rw [hy172]; with_reducible exact H) | (have H2_ := (Option.bind_some _ _).symm.trans H; rw [hy172]; with_reducible exact H2_) | (have H2_ := (Option.bind_some _ _).symm.trans H; with_reducible exact H2_) | with_reducible exact H | (rw [hy172]; exact H) | exact H
  have Ny172 := Aside0.mk hy172
  clear hy172
  replace H := Option.bind_eq_some_iff.mp H
  obtain ⟨⟨t175, t176⟩, A60, H⟩ := H
  replace H : (if 0 ≤ (wrap64 (Int.tdiv (wrap64 (t175 * 3)) 12)) then (if (wrap64 (Int.tdiv (wrap64 (t175 * 3)) 12)) < (y172.length : Int) then ((spec_l1Rd_pick.f k t159 t176 60).bind fun bt178 => ((some (([bt178.1, 0, (-1)] : List Int) : List Int)).bind fun y180 => ((spec_l1Rd_pick.f k t159 bt178.2 10).bind fun bt183 => (if 0 ≤ (wrap64 (Int.tdiv (wrap64 (bt183.1 * 3)) 10)) then (if (wrap64 (Int.tdiv (wrap64 (bt183.1 * 3)) 10)) < (y180.length : Int) then (some (t162, t163, t164, t165, rd y172 (wrap64 (Int.tdiv (wrap64 (t175 * 3)) 12)), rd y180 (wrap64 (Int.tdiv (wrap64 (bt183.1 * 3)) 10)))) else (none)) else (none))))) else (none)) else (none)) = some (r1, r2, r3, r4, r5, r6) := H
  have A6 := Aside0.mk A60
  clear A60
  obtain ⟨ji7, hji7⟩ : ∃ j_ : Int, (wrap64 (Int.tdiv (wrap64 (t175 * 3)) 12)) = j_ := ⟨_, rfl⟩
  replace H : (if 0 ≤ (ji7) then (if (ji7) < (y172.length : Int) then ((spec_l1Rd_pick.f k t159 t176 60).bind fun bt178 => ((some (([bt178.1, 0, (-1)] : List Int) : List Int)).bind fun y180 => ((spec_l1Rd_pick.f k t159 bt178.2 10).bind fun bt183 => (if 0 ≤ (wrap64 (Int.tdiv (wrap64 (bt183.1 * 3)) 10)) then (if (wrap64 (Int.tdiv (wrap64 (bt183.1 * 3)) 10)) < (y180.length : Int) then (some (t162, t163, t164, t165, rd y172 (ji7), rd y180 (wrap64 (Int.tdiv (wrap64 (bt183.1 * 3)) 10)))) else (none)) else (none))))) else (none)) else (none)) = some (r1, r2, r3, r4, r5, r6) := by first | (rw [hji7] at H; exact H) | (simp only [hji7] at H ⊢; exact H)
  (try rw [hji7] at A2)
  (try rw [hji7] at A3)
  (try rw [hji7] at A4)
  (try rw [hji7] at A5)
  (try rw [hji7] at A6)
  have hji7w : (IntKind.i64.wrap (Int.tdiv (wrap64 (t175 * 3)) 12)) = ji7 := (i64_w _).trans hji7
  by_cases c8 : 0 ≤ (ji7)
  · rw [if_pos c8] at H
    have c8b0 : decide (0 ≤ (ji7)) = true := decide_eq_true c8
    clear c8
    by_cases c9 : (ji7) < (y172.length : Int)
    · rw [if_pos c9] at H
      have c9b0 : decide ((ji7) < (y172.length : Int)) = true := decide_eq_true c9
      clear c9
      replace H := Option.bind_eq_some_iff.mp H
      obtain ⟨⟨t178, t179⟩, A100, H⟩ := H
      replace H : ((some (([t178, 0, (-1)] : List Int) : List Int)).bind fun y180 => ((spec_l1Rd_pick.f k t159 t179 10).bind fun bt183 => (if 0 ≤ (wrap64 (Int.tdiv (wrap64 (bt183.1 * 3)) 10)) then (if (wrap64 (Int.tdiv (wrap64 (bt183.1 * 3)) 10)) < (y180.length : Int) then (some (t162, t163, t164, t165, rd y172 (ji7), rd y180 (wrap64 (Int.tdiv (wrap64 (bt183.1 * 3)) 10)))) else (none)) else (none)))) = some (r1, r2, r3, r4, r5, r6) := H
      have A10 := Aside0.mk A100
      clear A100
      obtain ⟨y180, hy180⟩ : ∃ y_ : List Int, y_ = (([t178, 0, (-1)] : List Int)) := ⟨_, rfl⟩
      replace H : ((spec_l1Rd_pick.f k t159 t179 10).bind fun bt183 => (if 0 ≤ (wrap64 (Int.tdiv (wrap64 (bt183.1 * 3)) 10)) then (if (wrap64 (Int.tdiv (wrap64 (bt183.1 * 3)) 10)) < (y180.length : Int) then (some (t162, t163, t164, t165, rd y172 (ji7), rd y180 (wrap64 (Int.tdiv (wrap64 (bt183.1 * 3)) 10)))) else (none)) else (none))) = some (r1, r2, r3, r4, r5, r6) := by first | (rw [hy180]; with_reducible exact H) | (have H2_ := (Option.bind_some _ _).symm.trans H; rw [hy180]; with_reducible exact H2_) | (have H2_ := (Option.bind_some _ _).symm.trans H; with_reducible exact H2_) | with_reducible exact H | (rw [hy180]; exact H) | exact H
      have Ny180 := Aside0.mk hy180
      clear hy180
      replace H := Option.bind_eq_some_iff.mp H
      obtain ⟨⟨t183, t184⟩, A110, H⟩ := H
      replace H : (if 0 ≤ (wrap64 (Int.tdiv (wrap64 (t183 * 3)) 10)) then (if (wrap64 (Int.tdiv (wrap64 (t183 * 3)) 10)) < (y180.length : Int) then (some (t162, t163, t164, t165, rd y172 (ji7), rd y180 (wrap64 (Int.tdiv (wrap64 (t183 * 3)) 10)))) else (none)) else (none)) = some (r1, r2, r3, r4, r5, r6) := H
      have A11 := Aside0.mk A110
      clear A110
      obtain ⟨ji12, hji12⟩ : ∃ j_ : Int, (wrap64 (Int.tdiv (wrap64 (t183 * 3)) 10)) = j_ := ⟨_, rfl⟩
      replace H : (if 0 ≤ (ji12) then (if (ji12) < (y180.length : Int) then (some (t162, t163, t164, t165, rd y172 (ji7), rd y180 (ji12))) else (none)) else (none)) = some (r1, r2, r3, r4, r5, r6) := by first | (rw [hji12] at H; exact H) | (simp only [hji12] at H ⊢; exact H)
      (try rw [hji12] at A2)
      (try rw [hji12] at A3)
      (try rw [hji12] at A4)
      (try rw [hji12] at A5)
      (try rw [hji12] at A6)
      (try rw [hji12] at A10)
      (try rw [hji12] at A11)
      have hji12w : (IntKind.i64.wrap (Int.tdiv (wrap64 (t183 * 3)) 10)) = ji12 := (i64_w _).trans hji12
      by_cases c13 : 0 ≤ (ji12)
      · rw [if_pos c13] at H
        have c13b0 : decide (0 ≤ (ji12)) = true := decide_eq_true c13
        clear c13
        by_cases c14 : (ji12) < (y180.length : Int)
        · rw [if_pos c14] at H
          have c14b0 : decide ((ji12) < (y180.length : Int)) = true := decide_eq_true c14
          clear c14
          simp only [Option.some.injEq, Prod.mk.injEq] at H
          obtain ⟨rfl, rfl, rfl, rfl, rfl, rfl⟩ := H
          go_enter Try.func40, Try.ntmps40
          try go_wp2_with (first | ((with_reducible refine gate_dst (N := 2) rfl ?_); refine box_event ?hg (N := 2) ?hd (cs := #[.int .i64 0, .int .i64 0, .int .i64 0, .int .i64 0]) (t := 25) ?hr ?_; (case hd => rfl); (case hg => rfl); (case hr => first | (go_simp; done) | (go_simp; rfl)); intro gb158 hg w15 hbox hb; have n0_ := Aside0.mk (below_step (by repeat (first | (with_reducible first | exact HB.out | apply below_alloc | apply pw_below_drewN | apply below_drew1) | exact HB.out)) hb); have n1_ := Aside0.mk (hbox); have n2_ := Aside0.mk ((by rw [hg]; exact (below_size (by repeat (first | (with_reducible first | exact HB.out | apply below_alloc | apply pw_below_drewN | apply below_drew1) | exact HB.out))) : w.heap.size ≤ gb158)); have n3_ := Aside0.mk ((by rw [hg]; exact (below_size (by repeat (first | (with_reducible first | exact HB.out | apply below_alloc | apply pw_below_drewN | apply below_drew1) | exact HB.out))) : w.heap.size ≤ gb158)); clear HB; have HB := n0_; have BK158 := n1_; have GW158 := n2_; have GE158 := n3_; clear n0_ n1_ n2_ n3_; clear hb hbox hg) | ((with_reducible refine gate_callee (f := 44) rfl ?_); refine goesL_ (some 8) rfl rfl Try.func44 (by kernel_rfl) rfl #[.slice A0 l0.length c0] rfl (by (try simp only [List.map_toArray, List.map_cons, List.map_nil]); first | done | rfl | (simp only [List.length_drop, List.length_take]; rfl)) ?_; (with_reducible refine (spec_l1Open.calls _ _ l0 t159 t160 w _ ?side1 ?side2 ?side3 A2.out).mono ?_); (case side1 => repeat (first | (with_reducible first | exact HB.out | apply below_alloc | apply pw_below_drewN | apply below_drew1 | refine below_set ?_ GE158.out) | exact HB.out)); (case side2 => exact HR0.out); (case side3 => exact HC0.out); rintro e w16 ⟨g161, rfl, hi, hb, hb2⟩; refine ⟨_, rfl, ?_⟩; have n0_ := Aside0.mk (blk_below (g := gb158) (o := .cells #[.int .i64 0, .int .i64 0, .int .i64 0, .int .i64 0] 25 (0, 0)) (by (with_reducible repeat (first | refine blk_drewN ?_ _ | refine blk_drew ?_ | refine blk_alloc ?_ _)); exact BK158.out) hb2); have n1_ := Aside0.mk (hb); have n2_ := Aside0.mk (hi); have n3_ := Aside0.mk (IsS74.ne_blk hi (blk_below (g := gb158) (o := .cells #[.int .i64 0, .int .i64 0, .int .i64 0, .int .i64 0] 25 (0, 0)) (by (with_reducible repeat (first | refine blk_drewN ?_ _ | refine blk_drew ?_ | refine blk_alloc ?_ _)); exact BK158.out) hb2) (by decide)); have n4_ := Aside0.mk (Ne.symm (IsS74.ne_blk hi (blk_below (g := gb158) (o := .cells #[.int .i64 0, .int .i64 0, .int .i64 0, .int .i64 0] 25 (0, 0)) (by (with_reducible repeat (first | refine blk_drewN ?_ _ | refine blk_drew ?_ | refine blk_alloc ?_ _)); exact BK158.out) hb2) (by decide))); clear BK158; clear HB; have BK158 := n0_; have HB := n1_; have HI161 := n2_; have NB161_158 := n3_; have NB158_161 := n4_; clear n0_ n1_ n2_ n3_ n4_; (try clear hb); (try clear hb2); (try clear hk); (try clear hi)) | ((with_reducible refine gate_callee (f := 50) rfl ?_); refine goesL_ (some 10) rfl rfl Try.func50 (by kernel_rfl) rfl #[.pointer (some ⟨g161, 0, none⟩)] rfl (by (try simp only [List.map_toArray, List.map_cons, List.map_nil]); first | done | rfl | (simp only [List.length_drop, List.length_take]; rfl)) ?_; (with_reducible refine (spec_l15Bucket.calls k g161 t159 t160 t162 t163 t164 t165 t166 w _ ?side1 ?side2 A3.out).mono ?_); (case side1 => repeat (first | (with_reducible first | exact HI161.out | apply IsS74.alloc | apply IsS74.drewN | apply IsS74.drew | apply IsS74.set_1 | refine IsS74.far ?_ NB161_158.out _) | exact HI161.out)); (case side2 => repeat (first | (with_reducible first | exact HB.out | apply below_alloc | apply pw_below_drewN | apply below_drew1 | refine below_set ?_ (IsS74.ge HI161.out) | refine below_set ?_ GE158.out) | exact HB.out)); rintro e w17 ⟨rfl, hi, hb, hk⟩; refine ⟨_, rfl, ?_⟩; have n0_ := Aside0.mk (KeepBut.blk hk (g' := gb158) (o := .cells #[.int .i64 0, .int .i64 0, .int .i64 0, .int .i64 0] 25 (0, 0)) (by (with_reducible repeat (first | refine blk_drewN ?_ _ | refine blk_drew ?_ | refine blk_alloc ?_ _)); exact BK158.out) NB158_161.out (by simp)); have n1_ := Aside0.mk (hb); have n2_ := Aside0.mk (hi); clear BK158; clear HB; clear HI161; have BK158 := n0_; have HB := n1_; have HI161 := n2_; clear n0_ n1_ n2_; (try clear hb); (try clear hb2); (try clear hk); (try clear hi)) | ((with_reducible refine gate_dst (N := 6) rfl ?_); refine box_event ?hg (N := 6) ?hd (cs := #[.int .i64 0, .int .i64 0, .int .i64 0, .int .i64 0]) (t := 25) ?hr ?_; (case hd => rfl); (case hg => rfl); (case hr => first | (go_simp; done) | (go_simp; rfl)); intro gb167 hg w18 hbox hb; have n0_ := Aside0.mk (blk_below (g := gb158) (o := .cells #[.int .i64 0, .int .i64 0, .int .i64 0, .int .i64 0] 25 (0, 0)) (by (with_reducible repeat (first | refine blk_drewN ?_ _ | refine blk_drew ?_ | refine blk_alloc ?_ _)); exact BK158.out) hb); have n1_ := Aside0.mk (IsS74.below (by repeat (first | (with_reducible first | exact HI161.out | apply IsS74.alloc | apply IsS74.drewN | apply IsS74.drew | apply IsS74.set_1 | refine IsS74.far ?_ NB161_158.out _) | exact HI161.out)) hb); have n2_ := Aside0.mk (below_step (by repeat (first | (with_reducible first | exact HB.out | apply below_alloc | apply pw_below_drewN | apply below_drew1 | refine below_set ?_ (IsS74.ge HI161.out) | refine below_set ?_ GE158.out) | exact HB.out)) hb); have n3_ := Aside0.mk (hbox); have n4_ := Aside0.mk ((by rw [hg]; exact (below_size (by repeat (first | (with_reducible first | exact HB.out | apply below_alloc | apply pw_below_drewN | apply below_drew1 | refine below_set ?_ (IsS74.ge HI161.out) | refine below_set ?_ GE158.out) | exact HB.out))) : w.heap.size ≤ gb167)); have n5_ := Aside0.mk ((by rw [hg]; exact (below_size (by repeat (first | (with_reducible first | exact HB.out | apply below_alloc | apply pw_below_drewN | apply below_drew1 | refine below_set ?_ (IsS74.ge HI161.out) | refine below_set ?_ GE158.out) | exact HB.out))) : w.heap.size ≤ gb167)); have n6_ := Aside0.mk ((by rw [hg]; exact Nat.ne_of_lt (blk_lt (g := gb158) (o := .cells #[.int .i64 0, .int .i64 0, .int .i64 0, .int .i64 0] 25 (0, 0)) (by (with_reducible repeat (first | refine blk_drewN ?_ _ | refine blk_drew ?_ | refine blk_alloc ?_ _)); exact BK158.out)) : gb158 ≠ gb167)); have n7_ := Aside0.mk ((by rw [hg]; exact Nat.ne_of_gt (blk_lt (g := gb158) (o := .cells #[.int .i64 0, .int .i64 0, .int .i64 0, .int .i64 0] 25 (0, 0)) (by (with_reducible repeat (first | refine blk_drewN ?_ _ | refine blk_drew ?_ | refine blk_alloc ?_ _)); exact BK158.out)) : gb167 ≠ gb158)); have n8_ := Aside0.mk ((by rw [hg]; exact Nat.ne_of_lt (IsS74.lt (show IsS74 w _ g161 t159 t166 from by repeat (first | (with_reducible first | exact HI161.out | apply IsS74.alloc | apply IsS74.drewN | apply IsS74.drew | apply IsS74.set_1 | refine IsS74.far ?_ NB161_158.out _) | exact HI161.out))) : g161 ≠ gb167)); have n9_ := Aside0.mk ((by rw [hg]; exact Nat.ne_of_gt (IsS74.lt (show IsS74 w _ g161 t159 t166 from by repeat (first | (with_reducible first | exact HI161.out | apply IsS74.alloc | apply IsS74.drewN | apply IsS74.drew | apply IsS74.set_1 | refine IsS74.far ?_ NB161_158.out _) | exact HI161.out))) : gb167 ≠ g161)); clear BK158; clear HI161; clear HB; have BK158 := n0_; have HI161 := n1_; have HB := n2_; have BK167 := n3_; have GW167 := n4_; have GE167 := n5_; have NB158_167 := n6_; have NB167_158 := n7_; have NB161_167 := n8_; have NB167_161 := n9_; clear n0_ n1_ n2_ n3_ n4_ n5_ n6_ n7_ n8_ n9_; clear hb hbox hg; have hnb19 := NB167_158.out; have hnc19 := NB158_167.out; have hnb20 := NB167_161.out; have hnc20 := NB161_167.out; have hcz21_0 : w18.cell? ⟨gb167, 0, none⟩ = some (.int .i64 0) := (blk_cell BK167.out 0).trans rfl; have hcz21_1 : w18.cell? ⟨gb167, 1, none⟩ = some (.int .i64 0) := (blk_cell BK167.out 1).trans rfl; have hcz21_2 : w18.cell? ⟨gb167, 2, none⟩ = some (.int .i64 0) := (blk_cell BK167.out 2).trans rfl; have hcz21_3 : w18.cell? ⟨gb167, 3, none⟩ = some (.int .i64 0) := (blk_cell BK167.out 3).trans rfl; have hfz21_0 := blk_frozen BK167.out 0; have hfz21_1 := blk_frozen BK167.out 1; have hfz21_2 := blk_frozen BK167.out 2; have hfz21_3 := blk_frozen BK167.out 3))
          have pi177 : (0 ≤ ((ji7) : Int)) = True := eq_true (of_decide_eq_true (by first | (with_reducible assumption) | assumption))
          have qi177 : ((ji7) < (y172.length : Int)) = True := eq_true (of_decide_eq_true (by first | (with_reducible assumption) | assumption))
          have pi185 : (0 ≤ ((ji12) : Int)) = True := eq_true (of_decide_eq_true (by first | (with_reducible assumption) | assumption))
          have qi185 : ((ji12) < (y180.length : Int)) = True := eq_true (of_decide_eq_true (by first | (with_reducible assumption) | assumption))
          have n0_ : Aside0 (((((w18.setCell ⟨gb167, 0, none⟩ (.int .i64 t162)).setCell ⟨gb167, 1, none⟩ (.int .i64 t163)).setCell ⟨gb167, 2, none⟩ (.int .i64 t164)).setCell ⟨gb167, 3, none⟩ (.int .i64 t165)).heap[gb158]? = some (.cells #[.int .i64 0, .int .i64 0, .int .i64 0, .int .i64 0] 25 (0, 0))) := ⟨by (with_reducible repeat (first | refine blk_drewN ?_ _ | refine blk_drew ?_ | refine blk_alloc ?_ _)); refine blk_far ?_ NB158_167.out _; (with_reducible repeat (first | refine blk_drewN ?_ _ | refine blk_drew ?_ | refine blk_alloc ?_ _)); refine blk_far ?_ NB158_167.out _; (with_reducible repeat (first | refine blk_drewN ?_ _ | refine blk_drew ?_ | refine blk_alloc ?_ _)); refine blk_far ?_ NB158_167.out _; (with_reducible repeat (first | refine blk_drewN ?_ _ | refine blk_drew ?_ | refine blk_alloc ?_ _)); refine blk_far ?_ NB158_167.out _; (with_reducible repeat (first | refine blk_drewN ?_ _ | refine blk_drew ?_ | refine blk_alloc ?_ _)); exact BK158.out⟩
          have n1_ : Aside0 (((((w18.setCell ⟨gb167, 0, none⟩ (.int .i64 t162)).setCell ⟨gb167, 1, none⟩ (.int .i64 t163)).setCell ⟨gb167, 2, none⟩ (.int .i64 t164)).setCell ⟨gb167, 3, none⟩ (.int .i64 t165)).heap[gb167]? = some (.cells #[.int .i64 t162, .int .i64 t163, .int .i64 t164, .int .i64 t165] 25 (0, 0))) := ⟨by (with_reducible repeat (first | refine blk_drewN ?_ _ | refine blk_drew ?_ | refine blk_alloc ?_ _)); refine blk_put (cs := #[.int .i64 t162, .int .i64 t163, .int .i64 t164, .int .i64 0]) ?_ 3 _ rfl; (with_reducible repeat (first | refine blk_drewN ?_ _ | refine blk_drew ?_ | refine blk_alloc ?_ _)); refine blk_put (cs := #[.int .i64 t162, .int .i64 t163, .int .i64 0, .int .i64 0]) ?_ 2 _ rfl; (with_reducible repeat (first | refine blk_drewN ?_ _ | refine blk_drew ?_ | refine blk_alloc ?_ _)); refine blk_put (cs := #[.int .i64 t162, .int .i64 0, .int .i64 0, .int .i64 0]) ?_ 1 _ rfl; (with_reducible repeat (first | refine blk_drewN ?_ _ | refine blk_drew ?_ | refine blk_alloc ?_ _)); refine blk_put (cs := #[.int .i64 0, .int .i64 0, .int .i64 0, .int .i64 0]) ?_ 0 _ rfl; (with_reducible repeat (first | refine blk_drewN ?_ _ | refine blk_drew ?_ | refine blk_alloc ?_ _)); exact BK167.out⟩
          have n2_ : Aside0 (IsS74 w ((((w18.setCell ⟨gb167, 0, none⟩ (.int .i64 t162)).setCell ⟨gb167, 1, none⟩ (.int .i64 t163)).setCell ⟨gb167, 2, none⟩ (.int .i64 t164)).setCell ⟨gb167, 3, none⟩ (.int .i64 t165)) g161 t159 t166) := ⟨by repeat (first | (with_reducible first | exact HI161.out | apply IsS74.alloc | apply IsS74.drewN | apply IsS74.drew | apply IsS74.set_1 | refine IsS74.far ?_ NB161_158.out _ | refine IsS74.far ?_ NB161_167.out _) | exact HI161.out)⟩
          have n3_ : Aside0 (Below w.heap.size w ((((w18.setCell ⟨gb167, 0, none⟩ (.int .i64 t162)).setCell ⟨gb167, 1, none⟩ (.int .i64 t163)).setCell ⟨gb167, 2, none⟩ (.int .i64 t164)).setCell ⟨gb167, 3, none⟩ (.int .i64 t165))) := ⟨by repeat (first | (with_reducible first | exact HB.out | apply below_alloc | apply pw_below_drewN | apply below_drew1 | refine below_set ?_ (IsS74.ge HI161.out) | refine below_set ?_ GE158.out | refine below_set ?_ GE167.out) | exact HB.out)⟩
          (try clear BK158)
          (try clear BK167)
          (try clear HI161)
          (try clear HB)
          generalize ((((w18.setCell ⟨gb167, 0, none⟩ (.int .i64 t162)).setCell ⟨gb167, 1, none⟩ (.int .i64 t163)).setCell ⟨gb167, 2, none⟩ (.int .i64 t164)).setCell ⟨gb167, 3, none⟩ (.int .i64 t165)) = w22 at n0_ n1_ n2_ n3_ ⊢
          have BK158 := n0_
          have BK167 := n1_
          have HI161 := n2_
          have HB := n3_
          clear n0_ n1_ n2_ n3_
          have n0_ := Aside0.mk (blk_drew BK158.out)
          have n1_ := Aside0.mk (blk_drew BK167.out)
          have n2_ := Aside0.mk (IsS74.drew HI161.out)
          have n3_ := Aside0.mk (below_drew1 HB.out)
          clear BK158
          clear BK167
          clear HI161
          clear HB
          have BK158 := n0_
          have BK167 := n1_
          have HI161 := n2_
          have HB := n3_
          clear n0_ n1_ n2_ n3_
          refine start_ (n := 27) (S := fun w' => True) (ds := []) #[false, false, false, false, false, false, false, false, false, false, false, false, false, false, false, false, false, false, false, false, false, false, false, false, false, false, false] (by kernel_rfl) rfl rfl trivial (fun hHeld => ?_); refine with_tabW spec_DrawBucketTake.tab3 spec_DrawBucketTake.bits3 (fun HT_ HW_ => ?_)
          generalize w22.drew = w23 at BK158 BK167 HI161 HB hHeld ⊢
          refine pure_ (i := 1) (N := some 12) (v := ?_) (a' := ?_) #[false, true, false, false, false, false, false, false, false, false, false, false, false, false, false, false, false, false, false, false, false, false, false, false, false, false, false] rfl rfl (any_of HT_.out (by kernel_rfl)) (fun _ _ _ h => h) (Or.inl ⟨by rfl, ?_⟩) ?_ ?_
          rotate_left
          · intro w'
            go_simp
            with_reducible rfl
          rotate_left
          · simp only [Act.put, List.setIfInBounds_toArray, List.set_cons_zero, List.set_cons_succ, i64_w, i32_w]
            rfl
          refine pure_ (i := 3) (N := some 14) (v := ?_) (a' := ?_) #[false, true, false, true, false, false, false, false, false, false, false, false, false, false, false, false, false, false, false, false, false, false, false, false, false, false, false] rfl rfl (any_of HT_.out (by kernel_rfl)) (fun _ _ _ h => h) (Or.inl ⟨by rfl, ?_⟩) ?_ ?_
          rotate_left
          · intro w'
            go_simp
            with_reducible rfl
          rotate_left
          · simp only [Act.put, List.setIfInBounds_toArray, List.set_cons_zero, List.set_cons_succ, i64_w, i32_w]
            rfl
          refine pure_ (i := 6) (N := some 17) (v := ?_) (a' := ?_) #[false, true, false, true, false, false, true, false, false, false, false, false, false, false, false, false, false, false, false, false, false, false, false, false, false, false, false] rfl rfl (any_of HT_.out (by kernel_rfl)) (fun _ _ _ h => h) (Or.inl ⟨by rfl, ?_⟩) ?_ ?_
          rotate_left
          · intro w'
            go_simp
            with_reducible rfl
          rotate_left
          · simp only [Act.put, List.setIfInBounds_toArray, List.set_cons_zero, List.set_cons_succ, i64_w, i32_w]
            rfl
          refine pure_ (i := 9) (N := some 20) (v := ?_) (a' := ?_) #[false, true, false, true, false, false, true, false, false, true, false, false, false, false, false, false, false, false, false, false, false, false, false, false, false, false, false] rfl rfl (any_of HT_.out (by kernel_rfl)) (fun _ _ _ h => h) (Or.inl ⟨by rfl, ?_⟩) ?_ ?_
          rotate_left
          · intro w'
            go_simp
            with_reducible rfl
          rotate_left
          · simp only [Act.put, List.setIfInBounds_toArray, List.set_cons_zero, List.set_cons_succ, i64_w, i32_w]
            rfl
          refine pure_ (i := 15) (N := some 26) (v := ?_) (a' := ?_) #[false, true, false, true, false, false, true, false, false, true, false, false, false, false, false, true, false, false, false, false, false, false, false, false, false, false, false] rfl rfl (any_of HT_.out (by kernel_rfl)) (fun _ _ _ h => h) (Or.inl ⟨by rfl, ?_⟩) ?_ ?_
          rotate_left
          · intro w'
            go_simp
            with_reducible rfl
          rotate_left
          · simp only [Act.put, List.setIfInBounds_toArray, List.set_cons_zero, List.set_cons_succ, i64_w, i32_w]
            rfl
          refine pure_ (i := 18) (N := some 29) (v := ?_) (a' := ?_) #[false, true, false, true, false, false, true, false, false, true, false, false, false, false, false, true, false, false, true, false, false, false, false, false, false, false, false] rfl rfl (any_of HT_.out (by kernel_rfl)) (fun _ _ _ h => h) (Or.inl ⟨by rfl, ?_⟩) ?_ ?_
          rotate_left
          · intro w'
            go_simp
            with_reducible rfl
          rotate_left
          · simp only [Act.put, List.setIfInBounds_toArray, List.set_cons_zero, List.set_cons_succ, i64_w, i32_w]
            rfl
          refine inv_at [0, 2, 4, 5, 7, 8, 10, 11, 12, 13, 14, 16, 17, 19, 20, 21, 22, 23, 24, 25, 26] (fun a0_ b a w' => ∃ (v173 : Value) (adz_v173 : Addr) (v181 : Value) (adz_v181 : Addr) (m13_ : Value) (m22_ : Value), a = putSel a0_ b [(0, 11, .agg #[.int .i64 t162, .int .i64 t163, .int .i64 t164, .int .i64 t165]), (2, 13, .int .i64 t165), (4, 15, .int .i64 t168), (5, 16, .int .i64 (wrap64 (t165 + t168))), (7, 18, .int .i64 t170), (8, 19, v173), (10, 21, .int .i64 t175), (11, 22, .int .i64 (wrap64 (t175 * 3))), (12, 23, .int .i64 ji7), (13, 24, m13_), (14, 25, .int .i64 (rd y172 (ji7))), (16, 27, .int .i64 t178), (17, 28, v181), (19, 30, .int .i64 t183), (20, 31, .int .i64 (wrap64 (t183 * 3))), (21, 32, .int .i64 ji12), (22, 33, m22_), (23, 34, .int .i64 (rd y180 (ji12))), (25, 3, .int .i64 (rd y172 (ji7))), (26, 4, .int .i64 (rd y180 (ji12)))] ∧ (b 24 = false → w'.heap[gb158]? = some (.cells #[.int .i64 0, .int .i64 0, .int .i64 0, .int .i64 0] 25 (0, 0))) ∧ (w'.heap[gb167]? = some (.cells #[.int .i64 t162, .int .i64 t163, .int .i64 t164, .int .i64 t165] 25 (0, 0))) ∧ (b 4 = false → IsS74 w w' g161 t159 t166) ∧ (Below w.heap.size w w') ∧ (b 4 = true → b 7 = false → IsS74 w w' g161 t159 t169) ∧ (b 7 = true → b 10 = false → IsS74 w w' g161 t159 t171) ∧ (b 8 = true → Kd.R (Kd.int .i64) 3 w' w.heap.size (fun _ => True) v173 y172) ∧ (b 8 = true → ∃ c_, (v173 : Value) = .slice (some adz_v173) y172.length c_) ∧ (b 10 = true → b 16 = false → IsS74 w w' g161 t159 t176) ∧ (b 16 = true → b 19 = false → IsS74 w w' g161 t159 t179) ∧ (b 17 = true → Kd.R (Kd.int .i64) 3 w' w.heap.size (fun _ => True) v181 y180) ∧ (b 17 = true → ∃ c_, (v181 : Value) = .slice (some adz_v181) y180.length c_) ∧ (b 19 = true → IsS74 w w' g161 t159 t184) ∧ (b 24 = true → w'.heap[gb158]? = some (.cells #[.int .i64 t162, .int .i64 t163, .int .i64 t164, .int .i64 t165] 25 (0, 0))) ∧ (b 13 = true → (m13_ : Value) = .pointer (some (adz_v173.add ((ji7)).toNat))) ∧ (b 22 = true → (m22_ : Value) = .pointer (some (adz_v181.add ((ji12)).toNat)))) HT_.out HW_.out (by kernel_rfl) (by kernel_rfl) ?_ ?_ ?_
          · exact ⟨.bool false, ⟨0, 0, none⟩, .bool false, ⟨0, 0, none⟩, .bool false, .bool false, by simp only [putSel, Bool.false_eq_true, if_false], fun _ => BK158.out, BK167.out, fun _ => HI161.out, HB.out, fun h_ => absurd h_ (by decide), fun h_ => absurd h_ (by decide), fun h_ => absurd h_ (by decide), fun h_ => absurd h_ (by decide), fun h_ => absurd h_ (by decide), fun h_ => absurd h_ (by decide), fun h_ => absurd h_ (by decide), fun h_ => absurd h_ (by decide), fun h_ => absurd h_ (by decide), fun h_ => absurd h_ (by decide), fun h_ => absurd h_ (by decide), fun h_ => absurd h_ (by decide)⟩
          · skip
            clear BK158 BK167 HB HI161
            refine steps_cons ?_ ?_
            · rintro b a w' ⟨v173, adz_v173, v181, adz_v181, m13_, m22_, ha, Q_BK158, Q_BK167, Q_HI161, Q_HB, Q_HI161_e4, Q_HI161_e7, Q_HO174, Q_HA_HO174, Q_HI161_e10, Q_HI161_e16, Q_HO182, Q_HA_HO182, Q_HI161_e19, Q_BK158_e24, Q_X13_, Q_X22_⟩ hb_ hon hoff
              refine ⟨_, rfl, fun K hK => ?_⟩
              have e6 : a.tmps[6]? = some (.pointer (some ⟨gb167, 0, none⟩)) := by rw [ha]; exact (putSel_off rfl).trans rfl
              replace ha := Aside0.mk ha
              have BK158 := Aside0.mk (Q_BK158 (hoff 24 (by kernel_rfl)))
              have BK167 := Aside0.mk Q_BK167
              have HB := Aside0.mk Q_HB
              have hc0_ : w'.cell? ⟨gb167, 0, none⟩ = some (.int .i64 t162) := (blk_cell BK167.out 0).trans rfl
              have hc1_ : w'.cell? ⟨gb167, 1, none⟩ = some (.int .i64 t163) := (blk_cell BK167.out 1).trans rfl
              have hc2_ : w'.cell? ⟨gb167, 2, none⟩ = some (.int .i64 t164) := (blk_cell BK167.out 2).trans rfl
              have hc3_ : w'.cell? ⟨gb167, 3, none⟩ = some (.int .i64 t165) := (blk_cell BK167.out 3).trans rfl
              refine value_ (w1 := w') (v := .agg #[.int .i64 t162, .int .i64 t163, .int .i64 t164, .int .i64 t165]) (by rfl) rfl ?_ ?_
              · go_simp
                (try simp only [i64_w])
                try rfl
              refine hK.out _ _ ⟨v173, adz_v173, v181, adz_v181, m13_, m22_, (by rw [ha.out]; exact putSel_upk 0 hb_ rfl rfl rfl), Q_BK158, Q_BK167, Q_HI161, Q_HB, Q_HI161_e4, Q_HI161_e7, Q_HO174, Q_HA_HO174, Q_HI161_e10, Q_HI161_e16, Q_HO182, Q_HA_HO182, Q_HI161_e19, fun h0_ => absurd ((hoff 24 (by kernel_rfl)).symm.trans h0_) (by decide), Q_X13_, Q_X22_⟩
            refine steps_cons ?_ ?_
            · rintro b a w' ⟨v173, adz_v173, v181, adz_v181, m13_, m22_, ha, Q_BK158, Q_BK167, Q_HI161, Q_HB, Q_HI161_e4, Q_HI161_e7, Q_HO174, Q_HA_HO174, Q_HI161_e10, Q_HI161_e16, Q_HO182, Q_HA_HO182, Q_HI161_e19, Q_BK158_e24, Q_X13_, Q_X22_⟩ hb_ hon hoff
              refine ⟨_, rfl, fun K hK => ?_⟩
              have e12 : a.tmps[12]? = some (.pointer (some ⟨gb167, 3, none⟩)) := by rw [ha]; exact (putSel_off rfl).trans rfl
              replace ha := Aside0.mk ha
              have BK167 := Aside0.mk Q_BK167
              have HB := Aside0.mk Q_HB
              have hc0_ : w'.cell? ⟨gb167, 0, none⟩ = some (.int .i64 t162) := (blk_cell BK167.out 0).trans rfl
              have hc1_ : w'.cell? ⟨gb167, 1, none⟩ = some (.int .i64 t163) := (blk_cell BK167.out 1).trans rfl
              have hc2_ : w'.cell? ⟨gb167, 2, none⟩ = some (.int .i64 t164) := (blk_cell BK167.out 2).trans rfl
              have hc3_ : w'.cell? ⟨gb167, 3, none⟩ = some (.int .i64 t165) := (blk_cell BK167.out 3).trans rfl
              refine value_ (w1 := w') (v := .int .i64 t165) (by rfl) rfl ?_ ?_
              · go_simp
                (try simp only [i64_w])
                try rfl
              refine hK.out _ _ ⟨v173, adz_v173, v181, adz_v181, m13_, m22_, (by rw [ha.out]; exact putSel_upk 1 hb_ rfl rfl rfl), Q_BK158, Q_BK167, Q_HI161, Q_HB, Q_HI161_e4, Q_HI161_e7, fun h0_ => absurd ((hoff 8 (by kernel_rfl)).symm.trans h0_) (by decide), fun h0_ => absurd ((hoff 8 (by kernel_rfl)).symm.trans h0_) (by decide), Q_HI161_e10, Q_HI161_e16, Q_HO182, Q_HA_HO182, Q_HI161_e19, Q_BK158_e24, fun h0_ => absurd ((hoff 13 (by kernel_rfl)).symm.trans h0_) (by decide), Q_X22_⟩
            refine steps_cons ?_ ?_
            · rintro b a w' ⟨v173, adz_v173, v181, adz_v181, m13_, m22_, ha, Q_BK158, Q_BK167, Q_HI161, Q_HB, Q_HI161_e4, Q_HI161_e7, Q_HO174, Q_HA_HO174, Q_HI161_e10, Q_HI161_e16, Q_HO182, Q_HA_HO182, Q_HI161_e19, Q_BK158_e24, Q_X13_, Q_X22_⟩ hb_ hon hoff
              refine ⟨_, rfl, fun K hK => ?_⟩
              have e14 : a.tmps[14]? = some (.pointer (some ⟨g161, 0, none⟩)) := by rw [ha]; exact (putSel_off rfl).trans rfl
              replace ha := Aside0.mk ha
              have BK158 := Aside0.mk (Q_BK158 (hoff 24 (by kernel_rfl)))
              have BK167 := Aside0.mk Q_BK167
              have HI161 := Aside0.mk (Q_HI161 hb_)
              have HB := Aside0.mk Q_HB
              refine goes_ Try.func46 (by kernel_rfl) rfl #[.pointer (some ⟨g161, 0, none⟩), .int .i64 9] (by rfl) rfl rfl (by first | (simp only [List.map_toArray, List.map_cons, List.map_nil, Act.eval, Array.getD_eq_getD_getElem?, Option.getD_some, e14]; done) | (simp only [List.map_toArray, List.map_cons, List.map_nil, Act.eval, Array.getD_eq_getD_getElem?, Option.getD_some, e14]; rfl)) ?_
              with_reducible refine (spec_l1Rd_pick.calls k g161 t159 t166 9 t168 t169 w _ ?side1 ?side2 A4.out).mono ?_
              (case side1 => repeat (first | (with_reducible first | exact HI161.out | apply IsS74.alloc | apply IsS74.drewN | apply IsS74.drew | apply IsS74.set_1 | refine IsS74.far ?_ NB161_158.out _ | refine IsS74.far ?_ NB161_167.out _) | exact HI161.out))
              (case side2 => repeat (first | (with_reducible first | exact HB.out | apply below_alloc | apply pw_below_drewN | apply below_drew1 | refine below_set ?_ (IsS74.ge HI161.out) | refine below_set ?_ GE158.out | refine below_set ?_ GE167.out) | exact HB.out))
              rintro e w24 ⟨rfl, hi, hb, hk⟩
              refine ⟨_, rfl, ?_⟩
              have n0_ := Aside0.mk (KeepBut.blk hk (g' := gb158) (o := .cells #[.int .i64 0, .int .i64 0, .int .i64 0, .int .i64 0] 25 (0, 0)) (by (with_reducible repeat (first | refine blk_drewN ?_ _ | refine blk_drew ?_ | refine blk_alloc ?_ _)); exact BK158.out) NB158_161.out (by simp))
              have n1_ := Aside0.mk (KeepBut.blk hk (g' := gb167) (o := .cells #[.int .i64 t162, .int .i64 t163, .int .i64 t164, .int .i64 t165] 25 (0, 0)) (by (with_reducible repeat (first | refine blk_drewN ?_ _ | refine blk_drew ?_ | refine blk_alloc ?_ _)); exact BK167.out) NB167_161.out (by simp))
              have n2_ := Aside0.mk (hb)
              have n3_ := Aside0.mk (hi)
              clear BK158
              clear BK167
              clear HB
              clear HI161
              have BK158 := n0_
              have BK167 := n1_
              have HB := n2_
              have HI161 := n3_
              clear n0_ n1_ n2_ n3_
              (try clear hb)
              (try clear hb2)
              (try clear hk)
              (try clear hi)
              refine hK.out _ _ ⟨v173, adz_v173, v181, adz_v181, m13_, m22_, (by rw [ha.out]; exact putSel_upk 2 hb_ rfl rfl rfl), fun _ => (by (with_reducible repeat (first | refine blk_drewN ?_ _ | refine blk_drew ?_ | refine blk_alloc ?_ _)); exact BK158.out), (by (with_reducible repeat (first | refine blk_drewN ?_ _ | refine blk_drew ?_ | refine blk_alloc ?_ _)); exact BK167.out), fun h0_ => absurd ((up_self b 4).symm.trans h0_) (by decide), (by repeat (first | (with_reducible first | exact HB.out | apply below_alloc | apply pw_below_drewN | apply below_drew1 | refine below_set ?_ (IsS74.ge HI161.out) | refine below_set ?_ GE158.out | refine below_set ?_ GE167.out) | exact HB.out)), fun _ _ => (by repeat (first | (with_reducible first | exact HI161.out | apply IsS74.alloc | apply IsS74.drewN | apply IsS74.drew | apply IsS74.set_1 | refine IsS74.far ?_ NB161_158.out _ | refine IsS74.far ?_ NB161_167.out _) | exact HI161.out)), fun h0_ _ => absurd ((hoff 7 (by kernel_rfl)).symm.trans h0_) (by decide), fun h0_ => absurd ((hoff 8 (by kernel_rfl)).symm.trans h0_) (by decide), fun h0_ => absurd ((hoff 8 (by kernel_rfl)).symm.trans h0_) (by decide), fun h0_ _ => absurd ((hoff 10 (by kernel_rfl)).symm.trans h0_) (by decide), fun h0_ _ => absurd ((hoff 16 (by kernel_rfl)).symm.trans h0_) (by decide), fun h0_ => absurd ((hoff 17 (by kernel_rfl)).symm.trans h0_) (by decide), fun h0_ => absurd ((hoff 17 (by kernel_rfl)).symm.trans h0_) (by decide), fun h0_ => absurd ((hoff 19 (by kernel_rfl)).symm.trans h0_) (by decide), fun h0_ => absurd ((hoff 24 (by kernel_rfl)).symm.trans h0_) (by decide), fun h0_ => absurd ((hoff 13 (by kernel_rfl)).symm.trans h0_) (by decide), fun h0_ => absurd ((hoff 22 (by kernel_rfl)).symm.trans h0_) (by decide)⟩
            refine steps_cons ?_ ?_
            · rintro b a w' ⟨v173, adz_v173, v181, adz_v181, m13_, m22_, ha, Q_BK158, Q_BK167, Q_HI161, Q_HB, Q_HI161_e4, Q_HI161_e7, Q_HO174, Q_HA_HO174, Q_HI161_e10, Q_HI161_e16, Q_HO182, Q_HA_HO182, Q_HI161_e19, Q_BK158_e24, Q_X13_, Q_X22_⟩ hb_ hon hoff
              refine ⟨_, rfl, fun K hK => ?_⟩
              have e13 : a.tmps[13]? = some (.int .i64 t165) := by rw [ha]; exact putSel_on (e := (2, 13, .int .i64 t165)) 1 rfl rfl (hon 2 (by kernel_rfl)) rfl
              have e15 : a.tmps[15]? = some (.int .i64 t168) := by rw [ha]; exact putSel_on (e := (4, 15, .int .i64 t168)) 2 rfl rfl (hon 4 (by kernel_rfl)) rfl
              replace ha := Aside0.mk ha
              have BK167 := Aside0.mk Q_BK167
              have HB := Aside0.mk Q_HB
              refine value_ (w1 := w') (v := .int .i64 (wrap64 (t165 + t168))) (by rfl) rfl ?_ ?_
              · go_simp
                (try simp only [i64_w])
                try rfl
              refine hK.out _ _ ⟨v173, adz_v173, v181, adz_v181, m13_, m22_, (by rw [ha.out]; exact putSel_upk 3 hb_ rfl rfl rfl), Q_BK158, Q_BK167, fun h0_ => absurd ((hon 4 (by kernel_rfl)).symm.trans h0_) (by decide), Q_HB, Q_HI161_e4, Q_HI161_e7, fun h0_ => absurd ((hoff 8 (by kernel_rfl)).symm.trans h0_) (by decide), fun h0_ => absurd ((hoff 8 (by kernel_rfl)).symm.trans h0_) (by decide), Q_HI161_e10, Q_HI161_e16, Q_HO182, Q_HA_HO182, Q_HI161_e19, Q_BK158_e24, fun h0_ => absurd ((hoff 13 (by kernel_rfl)).symm.trans h0_) (by decide), Q_X22_⟩
            refine steps_cons ?_ ?_
            · rintro b a w' ⟨v173, adz_v173, v181, adz_v181, m13_, m22_, ha, Q_BK158, Q_BK167, Q_HI161, Q_HB, Q_HI161_e4, Q_HI161_e7, Q_HO174, Q_HA_HO174, Q_HI161_e10, Q_HI161_e16, Q_HO182, Q_HA_HO182, Q_HI161_e19, Q_BK158_e24, Q_X13_, Q_X22_⟩ hb_ hon hoff
              refine ⟨_, rfl, fun K hK => ?_⟩
              have e17 : a.tmps[17]? = some (.pointer (some ⟨g161, 0, none⟩)) := by rw [ha]; exact (putSel_off rfl).trans rfl
              replace ha := Aside0.mk ha
              have BK158 := Aside0.mk (Q_BK158 (hoff 24 (by kernel_rfl)))
              have BK167 := Aside0.mk Q_BK167
              have HB := Aside0.mk Q_HB
              have HI161 := Aside0.mk (Q_HI161_e4 (hon 4 (by kernel_rfl)) hb_)
              refine goes_ Try.func46 (by kernel_rfl) rfl #[.pointer (some ⟨g161, 0, none⟩), .int .i64 80] (by rfl) rfl rfl (by first | (simp only [List.map_toArray, List.map_cons, List.map_nil, Act.eval, Array.getD_eq_getD_getElem?, Option.getD_some, e17]; done) | (simp only [List.map_toArray, List.map_cons, List.map_nil, Act.eval, Array.getD_eq_getD_getElem?, Option.getD_some, e17]; rfl)) ?_
              with_reducible refine (spec_l1Rd_pick.calls k g161 t159 t169 80 t170 t171 w _ ?side1 ?side2 A5.out).mono ?_
              (case side1 => repeat (first | (with_reducible first | exact HI161.out | apply IsS74.alloc | apply IsS74.drewN | apply IsS74.drew | apply IsS74.set_1 | refine IsS74.far ?_ NB161_158.out _ | refine IsS74.far ?_ NB161_167.out _) | exact HI161.out))
              (case side2 => repeat (first | (with_reducible first | exact HB.out | apply below_alloc | apply pw_below_drewN | apply below_drew1 | refine below_set ?_ (IsS74.ge HI161.out) | refine below_set ?_ GE158.out | refine below_set ?_ GE167.out) | exact HB.out))
              rintro e w26 ⟨rfl, hi, hb, hk⟩
              refine ⟨_, rfl, ?_⟩
              have n0_ := Aside0.mk (KeepBut.blk hk (g' := gb158) (o := .cells #[.int .i64 0, .int .i64 0, .int .i64 0, .int .i64 0] 25 (0, 0)) (by (with_reducible repeat (first | refine blk_drewN ?_ _ | refine blk_drew ?_ | refine blk_alloc ?_ _)); exact BK158.out) NB158_161.out (by simp))
              have n1_ := Aside0.mk (KeepBut.blk hk (g' := gb167) (o := .cells #[.int .i64 t162, .int .i64 t163, .int .i64 t164, .int .i64 t165] 25 (0, 0)) (by (with_reducible repeat (first | refine blk_drewN ?_ _ | refine blk_drew ?_ | refine blk_alloc ?_ _)); exact BK167.out) NB167_161.out (by simp))
              have n2_ := Aside0.mk (hb)
              have n3_ := Aside0.mk (hi)
              clear BK158
              clear BK167
              clear HB
              clear HI161
              have BK158 := n0_
              have BK167 := n1_
              have HB := n2_
              have HI161 := n3_
              clear n0_ n1_ n2_ n3_
              (try clear hb)
              (try clear hb2)
              (try clear hk)
              (try clear hi)
              refine hK.out _ _ ⟨v173, adz_v173, v181, adz_v181, m13_, m22_, (by rw [ha.out]; exact putSel_upk 4 hb_ rfl rfl rfl), fun _ => (by (with_reducible repeat (first | refine blk_drewN ?_ _ | refine blk_drew ?_ | refine blk_alloc ?_ _)); exact BK158.out), (by (with_reducible repeat (first | refine blk_drewN ?_ _ | refine blk_drew ?_ | refine blk_alloc ?_ _)); exact BK167.out), fun h0_ => absurd ((hon 4 (by kernel_rfl)).symm.trans h0_) (by decide), (by repeat (first | (with_reducible first | exact HB.out | apply below_alloc | apply pw_below_drewN | apply below_drew1 | refine below_set ?_ (IsS74.ge HI161.out) | refine below_set ?_ GE158.out | refine below_set ?_ GE167.out) | exact HB.out)), fun _ h1_ => absurd ((up_self b 7).symm.trans h1_) (by decide), fun _ _ => (by repeat (first | (with_reducible first | exact HI161.out | apply IsS74.alloc | apply IsS74.drewN | apply IsS74.drew | apply IsS74.set_1 | refine IsS74.far ?_ NB161_158.out _ | refine IsS74.far ?_ NB161_167.out _) | exact HI161.out)), fun h0_ => absurd ((hoff 8 (by kernel_rfl)).symm.trans h0_) (by decide), fun h0_ => absurd ((hoff 8 (by kernel_rfl)).symm.trans h0_) (by decide), fun h0_ _ => absurd ((hoff 10 (by kernel_rfl)).symm.trans h0_) (by decide), fun h0_ _ => absurd ((hoff 16 (by kernel_rfl)).symm.trans h0_) (by decide), fun h0_ => absurd ((hoff 17 (by kernel_rfl)).symm.trans h0_) (by decide), fun h0_ => absurd ((hoff 17 (by kernel_rfl)).symm.trans h0_) (by decide), fun h0_ => absurd ((hoff 19 (by kernel_rfl)).symm.trans h0_) (by decide), fun h0_ => absurd ((hoff 24 (by kernel_rfl)).symm.trans h0_) (by decide), fun h0_ => absurd ((hoff 13 (by kernel_rfl)).symm.trans h0_) (by decide), fun h0_ => absurd ((hoff 22 (by kernel_rfl)).symm.trans h0_) (by decide)⟩
            refine steps_cons ?_ ?_
            · rintro b a w' ⟨v173, adz_v173, v181, adz_v181, m13_, m22_, ha, Q_BK158, Q_BK167, Q_HI161, Q_HB, Q_HI161_e4, Q_HI161_e7, Q_HO174, Q_HA_HO174, Q_HI161_e10, Q_HI161_e16, Q_HO182, Q_HA_HO182, Q_HI161_e19, Q_BK158_e24, Q_X13_, Q_X22_⟩ hb_ hon hoff
              refine ⟨_, rfl, fun K hK => ?_⟩
              have e16 : a.tmps[16]? = some (.int .i64 (wrap64 (t165 + t168))) := by rw [ha]; exact putSel_on (e := (5, 16, .int .i64 (wrap64 (t165 + t168)))) 3 rfl rfl (hon 5 (by kernel_rfl)) rfl
              have e18 : a.tmps[18]? = some (.int .i64 t170) := by rw [ha]; exact putSel_on (e := (7, 18, .int .i64 t170)) 4 rfl rfl (hon 7 (by kernel_rfl)) rfl
              replace ha := Aside0.mk ha
              have BK167 := Aside0.mk Q_BK167
              have HB := Aside0.mk Q_HB
              refine Kd.R_lit_step (Kd.int .i64) _ 3 ?hg (N := 19) ?hd (xs := ([wrap64 (t165 + t168), t170, (-1)] : List Int)) (inner := [.int .i64 (wrap64 (t165 + t168)), .int .i64 t170, .int .i64 (-1)]) (ok := fun _ => True) (okp := fun _ => True) ?hr ?hp (fun _ hk => hk) trivial (Below.refl _ _) (Nat.le_refl _) (by simp) ?_; (case hd => rfl); (case hg => rfl); (case hr => first | (go_simp; done) | (go_simp; rfl)); (case hp => exact (Reps.one (show Kd.M (Kd.int .i64) _ _ _ (wrap64 (t165 + t168)) [.int .i64 (wrap64 (t165 + t168))] from rfl) (Reps.one (show Kd.M (Kd.int .i64) _ _ _ t170 [.int .i64 t170] from rfl) (Reps.one (show Kd.M (Kd.int .i64) _ _ _ (-1) [.int .i64 (-1)] from rfl) (Reps.none _ _)))))
              intro v173 w27 ho28 hb hg_ hnew_
              clear hg_ hnew_
              (first | rw [← Ny172.out] at ho28 | (simp only [Int.reduceToNat] at ho28; rw [← Ny172.out] at ho28))
              have n0_ := Aside0.mk (Kd.R_lower ho28 (below_size (by repeat (first | (with_reducible first | exact HB.out | apply below_alloc | apply pw_below_drewN | apply below_drew1 | refine below_set ?_ GE158.out | refine below_set ?_ GE167.out) | exact HB.out))))
              have n3_ := Aside0.mk (blk_below (g := gb167) (o := .cells #[.int .i64 t162, .int .i64 t163, .int .i64 t164, .int .i64 t165] 25 (0, 0)) (by (with_reducible repeat (first | refine blk_drewN ?_ _ | refine blk_drew ?_ | refine blk_alloc ?_ _)); exact BK167.out) hb)
              have n4_ := Aside0.mk (below_step (by repeat (first | (with_reducible first | exact HB.out | apply below_alloc | apply pw_below_drewN | apply below_drew1 | refine below_set ?_ GE158.out | refine below_set ?_ GE167.out) | exact HB.out)) hb)
              have z_BK158 := fun (h0_ : b 24 = false) => (show w27.heap[gb158]? = some (.cells #[.int .i64 0, .int .i64 0, .int .i64 0, .int .i64 0] 25 (0, 0)) from by first | exact (blk_below (g := gb158) (o := .cells #[.int .i64 0, .int .i64 0, .int .i64 0, .int .i64 0] 25 (0, 0)) (by (with_reducible repeat (first | refine blk_drewN ?_ _ | refine blk_drew ?_ | refine blk_alloc ?_ _)); exact (Q_BK158 h0_)) hb))
              have z_HI161_e7 := fun (h0_ : b 7 = true) (h1_ : b 10 = false) => (show IsS74 w w27 g161 t159 t171 from by first | exact (IsS74.below (by repeat (first | (with_reducible first | exact (Q_HI161_e7 h0_ h1_) | apply IsS74.alloc | apply IsS74.drewN | apply IsS74.drew | apply IsS74.set_1 | refine IsS74.far ?_ NB161_158.out _ | refine IsS74.far ?_ NB161_167.out _) | exact (Q_HI161_e7 h0_ h1_))) hb))
              have z_HI161_e10 := fun (h0_ : b 10 = true) (h1_ : b 16 = false) => (show IsS74 w w27 g161 t159 t176 from by first | exact (IsS74.below (by repeat (first | (with_reducible first | exact (Q_HI161_e10 h0_ h1_) | apply IsS74.alloc | apply IsS74.drewN | apply IsS74.drew | apply IsS74.set_1 | refine IsS74.far ?_ NB161_158.out _ | refine IsS74.far ?_ NB161_167.out _) | exact (Q_HI161_e10 h0_ h1_))) hb))
              have z_HI161_e16 := fun (h0_ : b 16 = true) (h1_ : b 19 = false) => (show IsS74 w w27 g161 t159 t179 from by first | exact (IsS74.below (by repeat (first | (with_reducible first | exact (Q_HI161_e16 h0_ h1_) | apply IsS74.alloc | apply IsS74.drewN | apply IsS74.drew | apply IsS74.set_1 | refine IsS74.far ?_ NB161_158.out _ | refine IsS74.far ?_ NB161_167.out _) | exact (Q_HI161_e16 h0_ h1_))) hb))
              have z_HO182 := fun (h0_ : b 17 = true) => (show Kd.R (Kd.int .i64) 3 w27 w.heap.size (fun _ => True) v181 y180 from by first | exact (Kd.R_elder' (by (with_reducible repeat (first | apply Kd.R_alloc | apply Kd.R_drewN | apply Kd.R_drew)); exact (Q_HO182 h0_)) (Kd.R_base ho28) hb) | exact Kd.R_mono (Kd.R_elder' (by (with_reducible repeat (first | apply Kd.R_alloc | apply Kd.R_drewN | apply Kd.R_drew)); exact (Q_HO182 h0_)) (Kd.R_base ho28) hb) (fun _ h_ => by first | trivial | exact h_ | exact h_.1))
              have z_HI161_e19 := fun (h0_ : b 19 = true) => (show IsS74 w w27 g161 t159 t184 from by first | exact (IsS74.below (by repeat (first | (with_reducible first | exact (Q_HI161_e19 h0_) | apply IsS74.alloc | apply IsS74.drewN | apply IsS74.drew | apply IsS74.set_1 | refine IsS74.far ?_ NB161_158.out _ | refine IsS74.far ?_ NB161_167.out _) | exact (Q_HI161_e19 h0_))) hb))
              have z_BK158_e24 := fun (h0_ : b 24 = true) => (show w27.heap[gb158]? = some (.cells #[.int .i64 t162, .int .i64 t163, .int .i64 t164, .int .i64 t165] 25 (0, 0)) from by first | exact (blk_below (g := gb158) (o := .cells #[.int .i64 t162, .int .i64 t163, .int .i64 t164, .int .i64 t165] 25 (0, 0)) (by (with_reducible repeat (first | refine blk_drewN ?_ _ | refine blk_drew ?_ | refine blk_alloc ?_ _)); exact (Q_BK158_e24 h0_)) hb))
              clear BK167
              clear HB
              have HO174 := n0_
              have BK167 := n3_
              have HB := n4_
              clear n0_ n3_ n4_
              clear hb ho28
              obtain ⟨Ao29, co29, eo29⟩ := Kd.R_slice HO174.out
              subst eo29
              obtain ⟨ado29, fo29, _⟩ := Kd.at_int (Kd.R_reads' HO174.out).2.2 0 (by decide) (by rw [Ny172.out]; simp)
              cases fo29
              refine hK.out _ _ ⟨.slice (some ado29) y172.length co29, ado29, v181, adz_v181, m13_, m22_, (by rw [ha.out]; exact putSel_upk 5 hb_ rfl rfl rfl), z_BK158, (by (with_reducible repeat (first | refine blk_drewN ?_ _ | refine blk_drew ?_ | refine blk_alloc ?_ _)); exact BK167.out), fun h0_ => absurd ((hon 4 (by kernel_rfl)).symm.trans h0_) (by decide), (by repeat (first | (with_reducible first | exact HB.out | apply below_alloc | apply pw_below_drewN | apply below_drew1 | refine below_set ?_ GE158.out | refine below_set ?_ GE167.out) | exact HB.out)), fun _ h1_ => absurd ((hon 7 (by kernel_rfl)).symm.trans h1_) (by decide), z_HI161_e7, fun _ => (by (with_reducible repeat (first | apply Kd.R_alloc | apply Kd.R_drewN | apply Kd.R_drew)); exact HO174.out), fun _ => ⟨_, rfl⟩, z_HI161_e10, z_HI161_e16, z_HO182, Q_HA_HO182, z_HI161_e19, z_BK158_e24, fun h0_ => absurd ((hoff 13 (by kernel_rfl)).symm.trans h0_) (by decide), Q_X22_⟩
            refine steps_cons ?_ ?_
            · rintro b a w' ⟨v173, adz_v173, v181, adz_v181, m13_, m22_, ha, Q_BK158, Q_BK167, Q_HI161, Q_HB, Q_HI161_e4, Q_HI161_e7, Q_HO174, Q_HA_HO174, Q_HI161_e10, Q_HI161_e16, Q_HO182, Q_HA_HO182, Q_HI161_e19, Q_BK158_e24, Q_X13_, Q_X22_⟩ hb_ hon hoff
              refine ⟨_, rfl, fun K hK => ?_⟩
              have e20 : a.tmps[20]? = some (.pointer (some ⟨g161, 0, none⟩)) := by rw [ha]; exact (putSel_off rfl).trans rfl
              replace ha := Aside0.mk ha
              have BK158 := Aside0.mk (Q_BK158 (hoff 24 (by kernel_rfl)))
              have BK167 := Aside0.mk Q_BK167
              have HB := Aside0.mk Q_HB
              have HI161 := Aside0.mk (Q_HI161_e7 (hon 7 (by kernel_rfl)) hb_)
              refine goes_ Try.func46 (by kernel_rfl) rfl #[.pointer (some ⟨g161, 0, none⟩), .int .i64 12] (by rfl) rfl rfl (by first | (simp only [List.map_toArray, List.map_cons, List.map_nil, Act.eval, Array.getD_eq_getD_getElem?, Option.getD_some, e20]; done) | (simp only [List.map_toArray, List.map_cons, List.map_nil, Act.eval, Array.getD_eq_getD_getElem?, Option.getD_some, e20]; rfl)) ?_
              with_reducible refine (spec_l1Rd_pick.calls k g161 t159 t171 12 t175 t176 w _ ?side1 ?side2 A6.out).mono ?_
              (case side1 => repeat (first | (with_reducible first | exact HI161.out | apply IsS74.alloc | apply IsS74.drewN | apply IsS74.drew | apply IsS74.set_1 | refine IsS74.far ?_ NB161_158.out _ | refine IsS74.far ?_ NB161_167.out _) | exact HI161.out))
              (case side2 => repeat (first | (with_reducible first | exact HB.out | apply below_alloc | apply pw_below_drewN | apply below_drew1 | refine below_set ?_ (IsS74.ge HI161.out) | refine below_set ?_ GE158.out | refine below_set ?_ GE167.out) | exact HB.out))
              rintro e w27 ⟨rfl, hi, hb, hk⟩
              refine ⟨_, rfl, ?_⟩
              have n0_ := Aside0.mk (KeepBut.blk hk (g' := gb158) (o := .cells #[.int .i64 0, .int .i64 0, .int .i64 0, .int .i64 0] 25 (0, 0)) (by (with_reducible repeat (first | refine blk_drewN ?_ _ | refine blk_drew ?_ | refine blk_alloc ?_ _)); exact BK158.out) NB158_161.out (by simp))
              have n1_ := Aside0.mk (KeepBut.blk hk (g' := gb167) (o := .cells #[.int .i64 t162, .int .i64 t163, .int .i64 t164, .int .i64 t165] 25 (0, 0)) (by (with_reducible repeat (first | refine blk_drewN ?_ _ | refine blk_drew ?_ | refine blk_alloc ?_ _)); exact BK167.out) NB167_161.out (by simp))
              have n2_ := Aside0.mk (hb)
              have n3_ := Aside0.mk (hi)
              have z_HO174 := fun (h0_ : b 8 = true) => (show Kd.R (Kd.int .i64) 3 w27 w.heap.size (fun _ => True) v173 y172 from by first | exact (Kd.R_mono (Kd.R_keep (IsS74.apart (show IsS74 w _ g161 t159 t171 from by repeat (first | (with_reducible first | exact HI161.out | apply IsS74.alloc | apply IsS74.drewN | apply IsS74.drew | apply IsS74.set_1 | refine IsS74.far ?_ NB161_158.out _ | refine IsS74.far ?_ NB161_167.out _) | exact HI161.out)) (by (with_reducible repeat (first | apply Kd.R_alloc | apply Kd.R_drewN | apply Kd.R_drew)); exact (Q_HO174 h0_)) (by decide)) hk (fun _ h => h.2)) (fun _ h => h.1)) | exact Kd.R_mono (Kd.R_mono (Kd.R_keep (IsS74.apart (show IsS74 w _ g161 t159 t171 from by repeat (first | (with_reducible first | exact HI161.out | apply IsS74.alloc | apply IsS74.drewN | apply IsS74.drew | apply IsS74.set_1 | refine IsS74.far ?_ NB161_158.out _ | refine IsS74.far ?_ NB161_167.out _) | exact HI161.out)) (by (with_reducible repeat (first | apply Kd.R_alloc | apply Kd.R_drewN | apply Kd.R_drew)); exact (Q_HO174 h0_)) (by decide)) hk (fun _ h => h.2)) (fun _ h => h.1)) (fun _ h_ => by first | trivial | exact h_ | exact h_.1))
              clear BK158
              clear BK167
              clear HB
              clear HI161
              have BK158 := n0_
              have BK167 := n1_
              have HB := n2_
              have HI161 := n3_
              clear n0_ n1_ n2_ n3_
              (try clear hb)
              (try clear hb2)
              (try clear hk)
              (try clear hi)
              refine hK.out _ _ ⟨v173, adz_v173, v181, adz_v181, m13_, m22_, (by rw [ha.out]; exact putSel_upk 6 hb_ rfl rfl rfl), fun _ => (by (with_reducible repeat (first | refine blk_drewN ?_ _ | refine blk_drew ?_ | refine blk_alloc ?_ _)); exact BK158.out), (by (with_reducible repeat (first | refine blk_drewN ?_ _ | refine blk_drew ?_ | refine blk_alloc ?_ _)); exact BK167.out), fun h0_ => absurd ((hon 4 (by kernel_rfl)).symm.trans h0_) (by decide), (by repeat (first | (with_reducible first | exact HB.out | apply below_alloc | apply pw_below_drewN | apply below_drew1 | refine below_set ?_ (IsS74.ge HI161.out) | refine below_set ?_ GE158.out | refine below_set ?_ GE167.out) | exact HB.out)), fun _ h1_ => absurd ((hon 7 (by kernel_rfl)).symm.trans h1_) (by decide), fun _ h1_ => absurd ((up_self b 10).symm.trans h1_) (by decide), z_HO174, Q_HA_HO174, fun _ _ => (by repeat (first | (with_reducible first | exact HI161.out | apply IsS74.alloc | apply IsS74.drewN | apply IsS74.drew | apply IsS74.set_1 | refine IsS74.far ?_ NB161_158.out _ | refine IsS74.far ?_ NB161_167.out _) | exact HI161.out)), fun h0_ _ => absurd ((hoff 16 (by kernel_rfl)).symm.trans h0_) (by decide), fun h0_ => absurd ((hoff 17 (by kernel_rfl)).symm.trans h0_) (by decide), fun h0_ => absurd ((hoff 17 (by kernel_rfl)).symm.trans h0_) (by decide), fun h0_ => absurd ((hoff 19 (by kernel_rfl)).symm.trans h0_) (by decide), fun h0_ => absurd ((hoff 24 (by kernel_rfl)).symm.trans h0_) (by decide), fun h0_ => absurd ((hoff 13 (by kernel_rfl)).symm.trans h0_) (by decide), fun h0_ => absurd ((hoff 22 (by kernel_rfl)).symm.trans h0_) (by decide)⟩
            refine steps_cons ?_ ?_
            · rintro b a w' ⟨v173, adz_v173, v181, adz_v181, m13_, m22_, ha, Q_BK158, Q_BK167, Q_HI161, Q_HB, Q_HI161_e4, Q_HI161_e7, Q_HO174, Q_HA_HO174, Q_HI161_e10, Q_HI161_e16, Q_HO182, Q_HA_HO182, Q_HI161_e19, Q_BK158_e24, Q_X13_, Q_X22_⟩ hb_ hon hoff
              refine ⟨_, rfl, fun K hK => ?_⟩
              have e21 : a.tmps[21]? = some (.int .i64 t175) := by rw [ha]; exact putSel_on (e := (10, 21, .int .i64 t175)) 6 rfl rfl (hon 10 (by kernel_rfl)) rfl
              replace ha := Aside0.mk ha
              have BK167 := Aside0.mk Q_BK167
              have HB := Aside0.mk Q_HB
              refine value_ (w1 := w') (v := .int .i64 (wrap64 (t175 * 3))) (by rfl) rfl ?_ ?_
              · go_simp
                (try simp only [i64_w])
                try rfl
              refine hK.out _ _ ⟨v173, adz_v173, v181, adz_v181, m13_, m22_, (by rw [ha.out]; exact putSel_upk 7 hb_ rfl rfl rfl), Q_BK158, Q_BK167, fun h0_ => absurd ((hon 4 (by kernel_rfl)).symm.trans h0_) (by decide), Q_HB, fun _ h1_ => absurd ((hon 7 (by kernel_rfl)).symm.trans h1_) (by decide), fun _ h1_ => absurd ((hon 10 (by kernel_rfl)).symm.trans h1_) (by decide), Q_HO174, Q_HA_HO174, Q_HI161_e10, Q_HI161_e16, Q_HO182, Q_HA_HO182, Q_HI161_e19, Q_BK158_e24, fun h0_ => absurd ((hoff 13 (by kernel_rfl)).symm.trans h0_) (by decide), Q_X22_⟩
            refine steps_cons ?_ ?_
            · rintro b a w' ⟨v173, adz_v173, v181, adz_v181, m13_, m22_, ha, Q_BK158, Q_BK167, Q_HI161, Q_HB, Q_HI161_e4, Q_HI161_e7, Q_HO174, Q_HA_HO174, Q_HI161_e10, Q_HI161_e16, Q_HO182, Q_HA_HO182, Q_HI161_e19, Q_BK158_e24, Q_X13_, Q_X22_⟩ hb_ hon hoff
              refine ⟨_, rfl, fun K hK => ?_⟩
              have e22 : a.tmps[22]? = some (.int .i64 (wrap64 (t175 * 3))) := by rw [ha]; exact putSel_on (e := (11, 22, .int .i64 (wrap64 (t175 * 3)))) 7 rfl rfl (hon 11 (by kernel_rfl)) rfl
              replace ha := Aside0.mk ha
              have BK167 := Aside0.mk Q_BK167
              have HB := Aside0.mk Q_HB
              refine value_ (w1 := w') (v := .int .i64 ji7) (by rfl) rfl ?_ ?_
              · go_simp
                (try simp only [i64_w])
                try rfl
              refine hK.out _ _ ⟨v173, adz_v173, v181, adz_v181, m13_, m22_, (by rw [ha.out]; exact putSel_upk 8 hb_ rfl rfl rfl), Q_BK158, Q_BK167, fun h0_ => absurd ((hon 4 (by kernel_rfl)).symm.trans h0_) (by decide), Q_HB, fun _ h1_ => absurd ((hon 7 (by kernel_rfl)).symm.trans h1_) (by decide), fun _ h1_ => absurd ((hon 10 (by kernel_rfl)).symm.trans h1_) (by decide), Q_HO174, Q_HA_HO174, Q_HI161_e10, Q_HI161_e16, Q_HO182, Q_HA_HO182, Q_HI161_e19, Q_BK158_e24, fun h0_ => absurd ((hoff 13 (by kernel_rfl)).symm.trans h0_) (by decide), Q_X22_⟩
            refine steps_cons ?_ ?_
            · rintro b a w' ⟨v173, adz_v173, v181, adz_v181, m13_, m22_, ha, Q_BK158, Q_BK167, Q_HI161, Q_HB, Q_HI161_e4, Q_HI161_e7, Q_HO174, Q_HA_HO174, Q_HI161_e10, Q_HI161_e16, Q_HO182, Q_HA_HO182, Q_HI161_e19, Q_BK158_e24, Q_X13_, Q_X22_⟩ hb_ hon hoff
              refine ⟨_, rfl, fun K hK => ?_⟩
              have e19 : a.tmps[19]? = some (v173) := by rw [ha]; exact putSel_on (e := (8, 19, v173)) 5 rfl rfl (hon 8 (by kernel_rfl)) rfl
              have e23 : a.tmps[23]? = some (.int .i64 ji7) := by rw [ha]; exact putSel_on (e := (12, 23, .int .i64 ji7)) 8 rfl rfl (hon 12 (by kernel_rfl)) rfl
              replace ha := Aside0.mk ha
              have BK167 := Aside0.mk Q_BK167
              have HB := Aside0.mk Q_HB
              have HO174 := Aside0.mk (Q_HO174 (hon 8 (by kernel_rfl)))
              have HA_HO174 := Aside0.mk (Q_HA_HO174 (hon 8 (by kernel_rfl)))
              obtain ⟨c_, hv_⟩ := HA_HO174.out
              rw [hv_] at e19
              refine value_ (w1 := w') (v := .pointer (some (adz_v173.add ((ji7)).toNat))) (by rfl) rfl ?_ ?_
              · go_simp
                (try simp only [i64_w])
                try rfl
              refine hK.out _ _ ⟨v173, adz_v173, v181, adz_v181, (.pointer (some (adz_v173.add ((ji7)).toNat))), m22_, (by rw [ha.out]; exact putSel_upk 9 hb_ rfl rfl rfl), Q_BK158, Q_BK167, fun h0_ => absurd ((hon 4 (by kernel_rfl)).symm.trans h0_) (by decide), Q_HB, fun _ h1_ => absurd ((hon 7 (by kernel_rfl)).symm.trans h1_) (by decide), fun _ h1_ => absurd ((hon 10 (by kernel_rfl)).symm.trans h1_) (by decide), Q_HO174, Q_HA_HO174, Q_HI161_e10, Q_HI161_e16, Q_HO182, Q_HA_HO182, Q_HI161_e19, Q_BK158_e24, fun _ => rfl, Q_X22_⟩
            refine steps_cons ?_ ?_
            · rintro b a w' ⟨v173, adz_v173, v181, adz_v181, m13_, m22_, ha, Q_BK158, Q_BK167, Q_HI161, Q_HB, Q_HI161_e4, Q_HI161_e7, Q_HO174, Q_HA_HO174, Q_HI161_e10, Q_HI161_e16, Q_HO182, Q_HA_HO182, Q_HI161_e19, Q_BK158_e24, Q_X13_, Q_X22_⟩ hb_ hon hoff
              refine ⟨_, rfl, fun K hK => ?_⟩
              have e24 : a.tmps[24]? = some (m13_) := by rw [ha]; exact putSel_on (e := (13, 24, m13_)) 9 rfl rfl (hon 13 (by kernel_rfl)) rfl
              rw [Q_X13_ (hon 13 (by kernel_rfl))] at e24
              replace ha := Aside0.mk ha
              have BK167 := Aside0.mk Q_BK167
              have HB := Aside0.mk Q_HB
              have HO174 := Aside0.mk (Q_HO174 (hon 8 (by kernel_rfl)))
              have HA_HO174 := Aside0.mk (Q_HA_HO174 (hon 8 (by kernel_rfl)))
              obtain ⟨c_, hv_⟩ := HA_HO174.out
              have hF_ := HO174.out
              rw [hv_] at hF_
              obtain ⟨ad_, ea_, hx_⟩ := Kd.at_int (Kd.R_reads' hF_).2.2 (ji7) (of_eq_true pi177) (of_eq_true qi177)
              cases ea_
              refine value_ (w1 := w') (v := .int .i64 (rd y172 (ji7))) (by rfl) rfl ?_ ?_
              · go_simp
                (try simp only [i64_w])
                try rfl
              refine hK.out _ _ ⟨v173, adz_v173, v181, adz_v181, m13_, m22_, (by rw [ha.out]; exact putSel_upk 10 hb_ rfl rfl rfl), Q_BK158, Q_BK167, fun h0_ => absurd ((hon 4 (by kernel_rfl)).symm.trans h0_) (by decide), Q_HB, fun _ h1_ => absurd ((hon 7 (by kernel_rfl)).symm.trans h1_) (by decide), fun _ h1_ => absurd ((hon 10 (by kernel_rfl)).symm.trans h1_) (by decide), Q_HO174, Q_HA_HO174, Q_HI161_e10, Q_HI161_e16, Q_HO182, Q_HA_HO182, Q_HI161_e19, Q_BK158_e24, Q_X13_, Q_X22_⟩
            refine steps_cons ?_ ?_
            · rintro b a w' ⟨v173, adz_v173, v181, adz_v181, m13_, m22_, ha, Q_BK158, Q_BK167, Q_HI161, Q_HB, Q_HI161_e4, Q_HI161_e7, Q_HO174, Q_HA_HO174, Q_HI161_e10, Q_HI161_e16, Q_HO182, Q_HA_HO182, Q_HI161_e19, Q_BK158_e24, Q_X13_, Q_X22_⟩ hb_ hon hoff
              refine ⟨_, rfl, fun K hK => ?_⟩
              have e26 : a.tmps[26]? = some (.pointer (some ⟨g161, 0, none⟩)) := by rw [ha]; exact (putSel_off rfl).trans rfl
              replace ha := Aside0.mk ha
              have BK158 := Aside0.mk (Q_BK158 (hoff 24 (by kernel_rfl)))
              have BK167 := Aside0.mk Q_BK167
              have HB := Aside0.mk Q_HB
              have HI161 := Aside0.mk (Q_HI161_e10 (hon 10 (by kernel_rfl)) hb_)
              refine goes_ Try.func46 (by kernel_rfl) rfl #[.pointer (some ⟨g161, 0, none⟩), .int .i64 60] (by rfl) rfl rfl (by first | (simp only [List.map_toArray, List.map_cons, List.map_nil, Act.eval, Array.getD_eq_getD_getElem?, Option.getD_some, e26]; done) | (simp only [List.map_toArray, List.map_cons, List.map_nil, Act.eval, Array.getD_eq_getD_getElem?, Option.getD_some, e26]; rfl)) ?_
              with_reducible refine (spec_l1Rd_pick.calls k g161 t159 t176 60 t178 t179 w _ ?side1 ?side2 A10.out).mono ?_
              (case side1 => repeat (first | (with_reducible first | exact HI161.out | apply IsS74.alloc | apply IsS74.drewN | apply IsS74.drew | apply IsS74.set_1 | refine IsS74.far ?_ NB161_158.out _ | refine IsS74.far ?_ NB161_167.out _) | exact HI161.out))
              (case side2 => repeat (first | (with_reducible first | exact HB.out | apply below_alloc | apply pw_below_drewN | apply below_drew1 | refine below_set ?_ (IsS74.ge HI161.out) | refine below_set ?_ GE158.out | refine below_set ?_ GE167.out) | exact HB.out))
              rintro e w28 ⟨rfl, hi, hb, hk⟩
              refine ⟨_, rfl, ?_⟩
              have n0_ := Aside0.mk (KeepBut.blk hk (g' := gb158) (o := .cells #[.int .i64 0, .int .i64 0, .int .i64 0, .int .i64 0] 25 (0, 0)) (by (with_reducible repeat (first | refine blk_drewN ?_ _ | refine blk_drew ?_ | refine blk_alloc ?_ _)); exact BK158.out) NB158_161.out (by simp))
              have n1_ := Aside0.mk (KeepBut.blk hk (g' := gb167) (o := .cells #[.int .i64 t162, .int .i64 t163, .int .i64 t164, .int .i64 t165] 25 (0, 0)) (by (with_reducible repeat (first | refine blk_drewN ?_ _ | refine blk_drew ?_ | refine blk_alloc ?_ _)); exact BK167.out) NB167_161.out (by simp))
              have n2_ := Aside0.mk (hb)
              have n3_ := Aside0.mk (hi)
              have z_HO174 := fun (h0_ : b 8 = true) => (show Kd.R (Kd.int .i64) 3 w28 w.heap.size (fun _ => True) v173 y172 from by first | exact (Kd.R_mono (Kd.R_keep (IsS74.apart (show IsS74 w _ g161 t159 t176 from by repeat (first | (with_reducible first | exact HI161.out | apply IsS74.alloc | apply IsS74.drewN | apply IsS74.drew | apply IsS74.set_1 | refine IsS74.far ?_ NB161_158.out _ | refine IsS74.far ?_ NB161_167.out _) | exact HI161.out)) (by (with_reducible repeat (first | apply Kd.R_alloc | apply Kd.R_drewN | apply Kd.R_drew)); exact (Q_HO174 h0_)) (by decide)) hk (fun _ h => h.2)) (fun _ h => h.1)) | exact Kd.R_mono (Kd.R_mono (Kd.R_keep (IsS74.apart (show IsS74 w _ g161 t159 t176 from by repeat (first | (with_reducible first | exact HI161.out | apply IsS74.alloc | apply IsS74.drewN | apply IsS74.drew | apply IsS74.set_1 | refine IsS74.far ?_ NB161_158.out _ | refine IsS74.far ?_ NB161_167.out _) | exact HI161.out)) (by (with_reducible repeat (first | apply Kd.R_alloc | apply Kd.R_drewN | apply Kd.R_drew)); exact (Q_HO174 h0_)) (by decide)) hk (fun _ h => h.2)) (fun _ h => h.1)) (fun _ h_ => by first | trivial | exact h_ | exact h_.1))
              clear BK158
              clear BK167
              clear HB
              clear HI161
              have BK158 := n0_
              have BK167 := n1_
              have HB := n2_
              have HI161 := n3_
              clear n0_ n1_ n2_ n3_
              (try clear hb)
              (try clear hb2)
              (try clear hk)
              (try clear hi)
              refine hK.out _ _ ⟨v173, adz_v173, v181, adz_v181, m13_, m22_, (by rw [ha.out]; exact putSel_upk 11 hb_ rfl rfl rfl), fun _ => (by (with_reducible repeat (first | refine blk_drewN ?_ _ | refine blk_drew ?_ | refine blk_alloc ?_ _)); exact BK158.out), (by (with_reducible repeat (first | refine blk_drewN ?_ _ | refine blk_drew ?_ | refine blk_alloc ?_ _)); exact BK167.out), fun h0_ => absurd ((hon 4 (by kernel_rfl)).symm.trans h0_) (by decide), (by repeat (first | (with_reducible first | exact HB.out | apply below_alloc | apply pw_below_drewN | apply below_drew1 | refine below_set ?_ (IsS74.ge HI161.out) | refine below_set ?_ GE158.out | refine below_set ?_ GE167.out) | exact HB.out)), fun _ h1_ => absurd ((hon 7 (by kernel_rfl)).symm.trans h1_) (by decide), fun _ h1_ => absurd ((hon 10 (by kernel_rfl)).symm.trans h1_) (by decide), z_HO174, Q_HA_HO174, fun _ h1_ => absurd ((up_self b 16).symm.trans h1_) (by decide), fun _ _ => (by repeat (first | (with_reducible first | exact HI161.out | apply IsS74.alloc | apply IsS74.drewN | apply IsS74.drew | apply IsS74.set_1 | refine IsS74.far ?_ NB161_158.out _ | refine IsS74.far ?_ NB161_167.out _) | exact HI161.out)), fun h0_ => absurd ((hoff 17 (by kernel_rfl)).symm.trans h0_) (by decide), fun h0_ => absurd ((hoff 17 (by kernel_rfl)).symm.trans h0_) (by decide), fun h0_ => absurd ((hoff 19 (by kernel_rfl)).symm.trans h0_) (by decide), fun h0_ => absurd ((hoff 24 (by kernel_rfl)).symm.trans h0_) (by decide), Q_X13_, fun h0_ => absurd ((hoff 22 (by kernel_rfl)).symm.trans h0_) (by decide)⟩
            refine steps_cons ?_ ?_
            · rintro b a w' ⟨v173, adz_v173, v181, adz_v181, m13_, m22_, ha, Q_BK158, Q_BK167, Q_HI161, Q_HB, Q_HI161_e4, Q_HI161_e7, Q_HO174, Q_HA_HO174, Q_HI161_e10, Q_HI161_e16, Q_HO182, Q_HA_HO182, Q_HI161_e19, Q_BK158_e24, Q_X13_, Q_X22_⟩ hb_ hon hoff
              refine ⟨_, rfl, fun K hK => ?_⟩
              have e27 : a.tmps[27]? = some (.int .i64 t178) := by rw [ha]; exact putSel_on (e := (16, 27, .int .i64 t178)) 11 rfl rfl (hon 16 (by kernel_rfl)) rfl
              replace ha := Aside0.mk ha
              have BK167 := Aside0.mk Q_BK167
              have HB := Aside0.mk Q_HB
              refine Kd.R_lit_step (Kd.int .i64) _ 3 ?hg (N := 28) ?hd (xs := ([t178, 0, (-1)] : List Int)) (inner := [.int .i64 t178, .int .i64 0, .int .i64 (-1)]) (ok := fun _ => True) (okp := fun _ => True) ?hr ?hp (fun _ hk => hk) trivial (Below.refl _ _) (Nat.le_refl _) (by simp) ?_; (case hd => rfl); (case hg => rfl); (case hr => first | (go_simp; done) | (go_simp; rfl)); (case hp => exact (Reps.one (show Kd.M (Kd.int .i64) _ _ _ t178 [.int .i64 t178] from rfl) (Reps.one (show Kd.M (Kd.int .i64) _ _ _ 0 [.int .i64 0] from rfl) (Reps.one (show Kd.M (Kd.int .i64) _ _ _ (-1) [.int .i64 (-1)] from rfl) (Reps.none _ _)))))
              intro v181 w29 ho30 hb hg_ hnew_
              clear hg_ hnew_
              (first | rw [← Ny180.out] at ho30 | (simp only [Int.reduceToNat] at ho30; rw [← Ny180.out] at ho30))
              have n0_ := Aside0.mk (Kd.R_lower ho30 (below_size (by repeat (first | (with_reducible first | exact HB.out | apply below_alloc | apply pw_below_drewN | apply below_drew1 | refine below_set ?_ GE158.out | refine below_set ?_ GE167.out) | exact HB.out))))
              have n3_ := Aside0.mk (blk_below (g := gb167) (o := .cells #[.int .i64 t162, .int .i64 t163, .int .i64 t164, .int .i64 t165] 25 (0, 0)) (by (with_reducible repeat (first | refine blk_drewN ?_ _ | refine blk_drew ?_ | refine blk_alloc ?_ _)); exact BK167.out) hb)
              have n4_ := Aside0.mk (below_step (by repeat (first | (with_reducible first | exact HB.out | apply below_alloc | apply pw_below_drewN | apply below_drew1 | refine below_set ?_ GE158.out | refine below_set ?_ GE167.out) | exact HB.out)) hb)
              have z_BK158 := fun (h0_ : b 24 = false) => (show w29.heap[gb158]? = some (.cells #[.int .i64 0, .int .i64 0, .int .i64 0, .int .i64 0] 25 (0, 0)) from by first | exact (blk_below (g := gb158) (o := .cells #[.int .i64 0, .int .i64 0, .int .i64 0, .int .i64 0] 25 (0, 0)) (by (with_reducible repeat (first | refine blk_drewN ?_ _ | refine blk_drew ?_ | refine blk_alloc ?_ _)); exact (Q_BK158 h0_)) hb))
              have z_HO174 := fun (h0_ : b 8 = true) => (show Kd.R (Kd.int .i64) 3 w29 w.heap.size (fun _ => True) v173 y172 from by first | exact (Kd.R_elder' (by (with_reducible repeat (first | apply Kd.R_alloc | apply Kd.R_drewN | apply Kd.R_drew)); exact (Q_HO174 h0_)) (Kd.R_base ho30) hb) | exact Kd.R_mono (Kd.R_elder' (by (with_reducible repeat (first | apply Kd.R_alloc | apply Kd.R_drewN | apply Kd.R_drew)); exact (Q_HO174 h0_)) (Kd.R_base ho30) hb) (fun _ h_ => by first | trivial | exact h_ | exact h_.1))
              have z_HI161_e16 := fun (h0_ : b 16 = true) (h1_ : b 19 = false) => (show IsS74 w w29 g161 t159 t179 from by first | exact (IsS74.below (by repeat (first | (with_reducible first | exact (Q_HI161_e16 h0_ h1_) | apply IsS74.alloc | apply IsS74.drewN | apply IsS74.drew | apply IsS74.set_1 | refine IsS74.far ?_ NB161_158.out _ | refine IsS74.far ?_ NB161_167.out _) | exact (Q_HI161_e16 h0_ h1_))) hb))
              have z_HI161_e19 := fun (h0_ : b 19 = true) => (show IsS74 w w29 g161 t159 t184 from by first | exact (IsS74.below (by repeat (first | (with_reducible first | exact (Q_HI161_e19 h0_) | apply IsS74.alloc | apply IsS74.drewN | apply IsS74.drew | apply IsS74.set_1 | refine IsS74.far ?_ NB161_158.out _ | refine IsS74.far ?_ NB161_167.out _) | exact (Q_HI161_e19 h0_))) hb))
              have z_BK158_e24 := fun (h0_ : b 24 = true) => (show w29.heap[gb158]? = some (.cells #[.int .i64 t162, .int .i64 t163, .int .i64 t164, .int .i64 t165] 25 (0, 0)) from by first | exact (blk_below (g := gb158) (o := .cells #[.int .i64 t162, .int .i64 t163, .int .i64 t164, .int .i64 t165] 25 (0, 0)) (by (with_reducible repeat (first | refine blk_drewN ?_ _ | refine blk_drew ?_ | refine blk_alloc ?_ _)); exact (Q_BK158_e24 h0_)) hb))
              clear BK167
              clear HB
              have HO182 := n0_
              have BK167 := n3_
              have HB := n4_
              clear n0_ n3_ n4_
              clear hb ho30
              obtain ⟨Ao31, co31, eo31⟩ := Kd.R_slice HO182.out
              subst eo31
              obtain ⟨ado31, fo31, _⟩ := Kd.at_int (Kd.R_reads' HO182.out).2.2 0 (by decide) (by rw [Ny180.out]; simp)
              cases fo31
              refine hK.out _ _ ⟨v173, adz_v173, .slice (some ado31) y180.length co31, ado31, m13_, m22_, (by rw [ha.out]; exact putSel_upk 12 hb_ rfl rfl rfl), z_BK158, (by (with_reducible repeat (first | refine blk_drewN ?_ _ | refine blk_drew ?_ | refine blk_alloc ?_ _)); exact BK167.out), fun h0_ => absurd ((hon 4 (by kernel_rfl)).symm.trans h0_) (by decide), (by repeat (first | (with_reducible first | exact HB.out | apply below_alloc | apply pw_below_drewN | apply below_drew1 | refine below_set ?_ GE158.out | refine below_set ?_ GE167.out) | exact HB.out)), fun _ h1_ => absurd ((hon 7 (by kernel_rfl)).symm.trans h1_) (by decide), fun _ h1_ => absurd ((hon 10 (by kernel_rfl)).symm.trans h1_) (by decide), z_HO174, Q_HA_HO174, fun _ h1_ => absurd ((hon 16 (by kernel_rfl)).symm.trans h1_) (by decide), z_HI161_e16, fun _ => (by (with_reducible repeat (first | apply Kd.R_alloc | apply Kd.R_drewN | apply Kd.R_drew)); exact HO182.out), fun _ => ⟨_, rfl⟩, z_HI161_e19, z_BK158_e24, Q_X13_, fun h0_ => absurd ((hoff 22 (by kernel_rfl)).symm.trans h0_) (by decide)⟩
            refine steps_cons ?_ ?_
            · rintro b a w' ⟨v173, adz_v173, v181, adz_v181, m13_, m22_, ha, Q_BK158, Q_BK167, Q_HI161, Q_HB, Q_HI161_e4, Q_HI161_e7, Q_HO174, Q_HA_HO174, Q_HI161_e10, Q_HI161_e16, Q_HO182, Q_HA_HO182, Q_HI161_e19, Q_BK158_e24, Q_X13_, Q_X22_⟩ hb_ hon hoff
              refine ⟨_, rfl, fun K hK => ?_⟩
              have e29 : a.tmps[29]? = some (.pointer (some ⟨g161, 0, none⟩)) := by rw [ha]; exact (putSel_off rfl).trans rfl
              replace ha := Aside0.mk ha
              have BK158 := Aside0.mk (Q_BK158 (hoff 24 (by kernel_rfl)))
              have BK167 := Aside0.mk Q_BK167
              have HB := Aside0.mk Q_HB
              have HI161 := Aside0.mk (Q_HI161_e16 (hon 16 (by kernel_rfl)) hb_)
              refine goes_ Try.func46 (by kernel_rfl) rfl #[.pointer (some ⟨g161, 0, none⟩), .int .i64 10] (by rfl) rfl rfl (by first | (simp only [List.map_toArray, List.map_cons, List.map_nil, Act.eval, Array.getD_eq_getD_getElem?, Option.getD_some, e29]; done) | (simp only [List.map_toArray, List.map_cons, List.map_nil, Act.eval, Array.getD_eq_getD_getElem?, Option.getD_some, e29]; rfl)) ?_
              with_reducible refine (spec_l1Rd_pick.calls k g161 t159 t179 10 t183 t184 w _ ?side1 ?side2 A11.out).mono ?_
              (case side1 => repeat (first | (with_reducible first | exact HI161.out | apply IsS74.alloc | apply IsS74.drewN | apply IsS74.drew | apply IsS74.set_1 | refine IsS74.far ?_ NB161_158.out _ | refine IsS74.far ?_ NB161_167.out _) | exact HI161.out))
              (case side2 => repeat (first | (with_reducible first | exact HB.out | apply below_alloc | apply pw_below_drewN | apply below_drew1 | refine below_set ?_ (IsS74.ge HI161.out) | refine below_set ?_ GE158.out | refine below_set ?_ GE167.out) | exact HB.out))
              rintro e w29 ⟨rfl, hi, hb, hk⟩
              refine ⟨_, rfl, ?_⟩
              have n0_ := Aside0.mk (KeepBut.blk hk (g' := gb158) (o := .cells #[.int .i64 0, .int .i64 0, .int .i64 0, .int .i64 0] 25 (0, 0)) (by (with_reducible repeat (first | refine blk_drewN ?_ _ | refine blk_drew ?_ | refine blk_alloc ?_ _)); exact BK158.out) NB158_161.out (by simp))
              have n1_ := Aside0.mk (KeepBut.blk hk (g' := gb167) (o := .cells #[.int .i64 t162, .int .i64 t163, .int .i64 t164, .int .i64 t165] 25 (0, 0)) (by (with_reducible repeat (first | refine blk_drewN ?_ _ | refine blk_drew ?_ | refine blk_alloc ?_ _)); exact BK167.out) NB167_161.out (by simp))
              have n2_ := Aside0.mk (hb)
              have n3_ := Aside0.mk (hi)
              have z_HO174 := fun (h0_ : b 8 = true) => (show Kd.R (Kd.int .i64) 3 w29 w.heap.size (fun _ => True) v173 y172 from by first | exact (Kd.R_mono (Kd.R_keep (IsS74.apart (show IsS74 w _ g161 t159 t179 from by repeat (first | (with_reducible first | exact HI161.out | apply IsS74.alloc | apply IsS74.drewN | apply IsS74.drew | apply IsS74.set_1 | refine IsS74.far ?_ NB161_158.out _ | refine IsS74.far ?_ NB161_167.out _) | exact HI161.out)) (by (with_reducible repeat (first | apply Kd.R_alloc | apply Kd.R_drewN | apply Kd.R_drew)); exact (Q_HO174 h0_)) (by decide)) hk (fun _ h => h.2)) (fun _ h => h.1)) | exact Kd.R_mono (Kd.R_mono (Kd.R_keep (IsS74.apart (show IsS74 w _ g161 t159 t179 from by repeat (first | (with_reducible first | exact HI161.out | apply IsS74.alloc | apply IsS74.drewN | apply IsS74.drew | apply IsS74.set_1 | refine IsS74.far ?_ NB161_158.out _ | refine IsS74.far ?_ NB161_167.out _) | exact HI161.out)) (by (with_reducible repeat (first | apply Kd.R_alloc | apply Kd.R_drewN | apply Kd.R_drew)); exact (Q_HO174 h0_)) (by decide)) hk (fun _ h => h.2)) (fun _ h => h.1)) (fun _ h_ => by first | trivial | exact h_ | exact h_.1))
              have z_HO182 := fun (h0_ : b 17 = true) => (show Kd.R (Kd.int .i64) 3 w29 w.heap.size (fun _ => True) v181 y180 from by first | exact (Kd.R_mono (Kd.R_keep (IsS74.apart (show IsS74 w _ g161 t159 t179 from by repeat (first | (with_reducible first | exact HI161.out | apply IsS74.alloc | apply IsS74.drewN | apply IsS74.drew | apply IsS74.set_1 | refine IsS74.far ?_ NB161_158.out _ | refine IsS74.far ?_ NB161_167.out _) | exact HI161.out)) (by (with_reducible repeat (first | apply Kd.R_alloc | apply Kd.R_drewN | apply Kd.R_drew)); exact (Q_HO182 h0_)) (by decide)) hk (fun _ h => h.2)) (fun _ h => h.1)) | exact Kd.R_mono (Kd.R_mono (Kd.R_keep (IsS74.apart (show IsS74 w _ g161 t159 t179 from by repeat (first | (with_reducible first | exact HI161.out | apply IsS74.alloc | apply IsS74.drewN | apply IsS74.drew | apply IsS74.set_1 | refine IsS74.far ?_ NB161_158.out _ | refine IsS74.far ?_ NB161_167.out _) | exact HI161.out)) (by (with_reducible repeat (first | apply Kd.R_alloc | apply Kd.R_drewN | apply Kd.R_drew)); exact (Q_HO182 h0_)) (by decide)) hk (fun _ h => h.2)) (fun _ h => h.1)) (fun _ h_ => by first | trivial | exact h_ | exact h_.1))
              clear BK158
              clear BK167
              clear HB
              clear HI161
              have BK158 := n0_
              have BK167 := n1_
              have HB := n2_
              have HI161 := n3_
              clear n0_ n1_ n2_ n3_
              (try clear hb)
              (try clear hb2)
              (try clear hk)
              (try clear hi)
              refine hK.out _ _ ⟨v173, adz_v173, v181, adz_v181, m13_, m22_, (by rw [ha.out]; exact putSel_upk 13 hb_ rfl rfl rfl), fun _ => (by (with_reducible repeat (first | refine blk_drewN ?_ _ | refine blk_drew ?_ | refine blk_alloc ?_ _)); exact BK158.out), (by (with_reducible repeat (first | refine blk_drewN ?_ _ | refine blk_drew ?_ | refine blk_alloc ?_ _)); exact BK167.out), fun h0_ => absurd ((hon 4 (by kernel_rfl)).symm.trans h0_) (by decide), (by repeat (first | (with_reducible first | exact HB.out | apply below_alloc | apply pw_below_drewN | apply below_drew1 | refine below_set ?_ (IsS74.ge HI161.out) | refine below_set ?_ GE158.out | refine below_set ?_ GE167.out) | exact HB.out)), fun _ h1_ => absurd ((hon 7 (by kernel_rfl)).symm.trans h1_) (by decide), fun _ h1_ => absurd ((hon 10 (by kernel_rfl)).symm.trans h1_) (by decide), z_HO174, Q_HA_HO174, fun _ h1_ => absurd ((hon 16 (by kernel_rfl)).symm.trans h1_) (by decide), fun _ h1_ => absurd ((up_self b 19).symm.trans h1_) (by decide), z_HO182, Q_HA_HO182, fun _ => (by repeat (first | (with_reducible first | exact HI161.out | apply IsS74.alloc | apply IsS74.drewN | apply IsS74.drew | apply IsS74.set_1 | refine IsS74.far ?_ NB161_158.out _ | refine IsS74.far ?_ NB161_167.out _) | exact HI161.out)), fun h0_ => absurd ((hoff 24 (by kernel_rfl)).symm.trans h0_) (by decide), Q_X13_, fun h0_ => absurd ((hoff 22 (by kernel_rfl)).symm.trans h0_) (by decide)⟩
            refine steps_cons ?_ ?_
            · rintro b a w' ⟨v173, adz_v173, v181, adz_v181, m13_, m22_, ha, Q_BK158, Q_BK167, Q_HI161, Q_HB, Q_HI161_e4, Q_HI161_e7, Q_HO174, Q_HA_HO174, Q_HI161_e10, Q_HI161_e16, Q_HO182, Q_HA_HO182, Q_HI161_e19, Q_BK158_e24, Q_X13_, Q_X22_⟩ hb_ hon hoff
              refine ⟨_, rfl, fun K hK => ?_⟩
              have e30 : a.tmps[30]? = some (.int .i64 t183) := by rw [ha]; exact putSel_on (e := (19, 30, .int .i64 t183)) 13 rfl rfl (hon 19 (by kernel_rfl)) rfl
              replace ha := Aside0.mk ha
              have BK167 := Aside0.mk Q_BK167
              have HB := Aside0.mk Q_HB
              have HI161 := Aside0.mk (Q_HI161_e19 (hon 19 (by kernel_rfl)))
              refine value_ (w1 := w') (v := .int .i64 (wrap64 (t183 * 3))) (by rfl) rfl ?_ ?_
              · go_simp
                (try simp only [i64_w])
                try rfl
              refine hK.out _ _ ⟨v173, adz_v173, v181, adz_v181, m13_, m22_, (by rw [ha.out]; exact putSel_upk 14 hb_ rfl rfl rfl), Q_BK158, Q_BK167, fun h0_ => absurd ((hon 4 (by kernel_rfl)).symm.trans h0_) (by decide), Q_HB, fun _ h1_ => absurd ((hon 7 (by kernel_rfl)).symm.trans h1_) (by decide), fun _ h1_ => absurd ((hon 10 (by kernel_rfl)).symm.trans h1_) (by decide), Q_HO174, Q_HA_HO174, fun _ h1_ => absurd ((hon 16 (by kernel_rfl)).symm.trans h1_) (by decide), fun _ h1_ => absurd ((hon 19 (by kernel_rfl)).symm.trans h1_) (by decide), Q_HO182, Q_HA_HO182, Q_HI161_e19, Q_BK158_e24, Q_X13_, fun h0_ => absurd ((hoff 22 (by kernel_rfl)).symm.trans h0_) (by decide)⟩
            refine steps_cons ?_ ?_
            · rintro b a w' ⟨v173, adz_v173, v181, adz_v181, m13_, m22_, ha, Q_BK158, Q_BK167, Q_HI161, Q_HB, Q_HI161_e4, Q_HI161_e7, Q_HO174, Q_HA_HO174, Q_HI161_e10, Q_HI161_e16, Q_HO182, Q_HA_HO182, Q_HI161_e19, Q_BK158_e24, Q_X13_, Q_X22_⟩ hb_ hon hoff
              refine ⟨_, rfl, fun K hK => ?_⟩
              have e31 : a.tmps[31]? = some (.int .i64 (wrap64 (t183 * 3))) := by rw [ha]; exact putSel_on (e := (20, 31, .int .i64 (wrap64 (t183 * 3)))) 14 rfl rfl (hon 20 (by kernel_rfl)) rfl
              replace ha := Aside0.mk ha
              have BK167 := Aside0.mk Q_BK167
              have HB := Aside0.mk Q_HB
              have HI161 := Aside0.mk (Q_HI161_e19 (hon 19 (by kernel_rfl)))
              refine value_ (w1 := w') (v := .int .i64 ji12) (by rfl) rfl ?_ ?_
              · go_simp
                (try simp only [i64_w])
                try rfl
              refine hK.out _ _ ⟨v173, adz_v173, v181, adz_v181, m13_, m22_, (by rw [ha.out]; exact putSel_upk 15 hb_ rfl rfl rfl), Q_BK158, Q_BK167, fun h0_ => absurd ((hon 4 (by kernel_rfl)).symm.trans h0_) (by decide), Q_HB, fun _ h1_ => absurd ((hon 7 (by kernel_rfl)).symm.trans h1_) (by decide), fun _ h1_ => absurd ((hon 10 (by kernel_rfl)).symm.trans h1_) (by decide), Q_HO174, Q_HA_HO174, fun _ h1_ => absurd ((hon 16 (by kernel_rfl)).symm.trans h1_) (by decide), fun _ h1_ => absurd ((hon 19 (by kernel_rfl)).symm.trans h1_) (by decide), Q_HO182, Q_HA_HO182, Q_HI161_e19, Q_BK158_e24, Q_X13_, fun h0_ => absurd ((hoff 22 (by kernel_rfl)).symm.trans h0_) (by decide)⟩
            refine steps_cons ?_ ?_
            · rintro b a w' ⟨v173, adz_v173, v181, adz_v181, m13_, m22_, ha, Q_BK158, Q_BK167, Q_HI161, Q_HB, Q_HI161_e4, Q_HI161_e7, Q_HO174, Q_HA_HO174, Q_HI161_e10, Q_HI161_e16, Q_HO182, Q_HA_HO182, Q_HI161_e19, Q_BK158_e24, Q_X13_, Q_X22_⟩ hb_ hon hoff
              refine ⟨_, rfl, fun K hK => ?_⟩
              have e28 : a.tmps[28]? = some (v181) := by rw [ha]; exact putSel_on (e := (17, 28, v181)) 12 rfl rfl (hon 17 (by kernel_rfl)) rfl
              have e32 : a.tmps[32]? = some (.int .i64 ji12) := by rw [ha]; exact putSel_on (e := (21, 32, .int .i64 ji12)) 15 rfl rfl (hon 21 (by kernel_rfl)) rfl
              replace ha := Aside0.mk ha
              have BK167 := Aside0.mk Q_BK167
              have HB := Aside0.mk Q_HB
              have HO182 := Aside0.mk (Q_HO182 (hon 17 (by kernel_rfl)))
              have HA_HO182 := Aside0.mk (Q_HA_HO182 (hon 17 (by kernel_rfl)))
              have HI161 := Aside0.mk (Q_HI161_e19 (hon 19 (by kernel_rfl)))
              obtain ⟨c_, hv_⟩ := HA_HO182.out
              rw [hv_] at e28
              refine value_ (w1 := w') (v := .pointer (some (adz_v181.add ((ji12)).toNat))) (by rfl) rfl ?_ ?_
              · go_simp
                (try simp only [i64_w])
                try rfl
              refine hK.out _ _ ⟨v173, adz_v173, v181, adz_v181, m13_, (.pointer (some (adz_v181.add ((ji12)).toNat))), (by rw [ha.out]; exact putSel_upk 16 hb_ rfl rfl rfl), Q_BK158, Q_BK167, fun h0_ => absurd ((hon 4 (by kernel_rfl)).symm.trans h0_) (by decide), Q_HB, fun _ h1_ => absurd ((hon 7 (by kernel_rfl)).symm.trans h1_) (by decide), fun _ h1_ => absurd ((hon 10 (by kernel_rfl)).symm.trans h1_) (by decide), Q_HO174, Q_HA_HO174, fun _ h1_ => absurd ((hon 16 (by kernel_rfl)).symm.trans h1_) (by decide), fun _ h1_ => absurd ((hon 19 (by kernel_rfl)).symm.trans h1_) (by decide), Q_HO182, Q_HA_HO182, Q_HI161_e19, Q_BK158_e24, Q_X13_, fun _ => rfl⟩
            refine steps_cons ?_ ?_
            · rintro b a w' ⟨v173, adz_v173, v181, adz_v181, m13_, m22_, ha, Q_BK158, Q_BK167, Q_HI161, Q_HB, Q_HI161_e4, Q_HI161_e7, Q_HO174, Q_HA_HO174, Q_HI161_e10, Q_HI161_e16, Q_HO182, Q_HA_HO182, Q_HI161_e19, Q_BK158_e24, Q_X13_, Q_X22_⟩ hb_ hon hoff
              refine ⟨_, rfl, fun K hK => ?_⟩
              have e33 : a.tmps[33]? = some (m22_) := by rw [ha]; exact putSel_on (e := (22, 33, m22_)) 16 rfl rfl (hon 22 (by kernel_rfl)) rfl
              rw [Q_X22_ (hon 22 (by kernel_rfl))] at e33
              replace ha := Aside0.mk ha
              have BK167 := Aside0.mk Q_BK167
              have HB := Aside0.mk Q_HB
              have HO182 := Aside0.mk (Q_HO182 (hon 17 (by kernel_rfl)))
              have HA_HO182 := Aside0.mk (Q_HA_HO182 (hon 17 (by kernel_rfl)))
              have HI161 := Aside0.mk (Q_HI161_e19 (hon 19 (by kernel_rfl)))
              obtain ⟨c_, hv_⟩ := HA_HO182.out
              have hF_ := HO182.out
              rw [hv_] at hF_
              obtain ⟨ad_, ea_, hx_⟩ := Kd.at_int (Kd.R_reads' hF_).2.2 (ji12) (of_eq_true pi185) (of_eq_true qi185)
              cases ea_
              refine value_ (w1 := w') (v := .int .i64 (rd y180 (ji12))) (by rfl) rfl ?_ ?_
              · go_simp
                (try simp only [i64_w])
                try rfl
              refine hK.out _ _ ⟨v173, adz_v173, v181, adz_v181, m13_, m22_, (by rw [ha.out]; exact putSel_upk 17 hb_ rfl rfl rfl), Q_BK158, Q_BK167, fun h0_ => absurd ((hon 4 (by kernel_rfl)).symm.trans h0_) (by decide), Q_HB, fun _ h1_ => absurd ((hon 7 (by kernel_rfl)).symm.trans h1_) (by decide), fun _ h1_ => absurd ((hon 10 (by kernel_rfl)).symm.trans h1_) (by decide), Q_HO174, Q_HA_HO174, fun _ h1_ => absurd ((hon 16 (by kernel_rfl)).symm.trans h1_) (by decide), fun _ h1_ => absurd ((hon 19 (by kernel_rfl)).symm.trans h1_) (by decide), Q_HO182, Q_HA_HO182, Q_HI161_e19, Q_BK158_e24, Q_X13_, Q_X22_⟩
            refine steps_cons ?_ ?_
            · rintro b a w' ⟨v173, adz_v173, v181, adz_v181, m13_, m22_, ha, Q_BK158, Q_BK167, Q_HI161, Q_HB, Q_HI161_e4, Q_HI161_e7, Q_HO174, Q_HA_HO174, Q_HI161_e10, Q_HI161_e16, Q_HO182, Q_HA_HO182, Q_HI161_e19, Q_BK158_e24, Q_X13_, Q_X22_⟩ hb_ hon hoff
              refine ⟨_, rfl, fun K hK => ?_⟩
              have e2 : a.tmps[2]? = some (.pointer (some ⟨gb158, 0, none⟩)) := by rw [ha]; exact (putSel_off rfl).trans rfl
              have e11 : a.tmps[11]? = some (.agg #[.int .i64 t162, .int .i64 t163, .int .i64 t164, .int .i64 t165]) := by rw [ha]; exact putSel_on (e := (0, 11, .agg #[.int .i64 t162, .int .i64 t163, .int .i64 t164, .int .i64 t165])) 0 rfl rfl (hon 0 (by kernel_rfl)) rfl
              replace ha := Aside0.mk ha
              have BK158 := Aside0.mk (Q_BK158 hb_)
              have BK167 := Aside0.mk Q_BK167
              have HB := Aside0.mk Q_HB
              have HI161 := Aside0.mk (Q_HI161_e19 (hon 19 (by kernel_rfl)))
              have hs30 : w'.cell? ⟨gb158, 0, none⟩ = some (.int .i64 0) := (blk_cell BK158.out 0).trans rfl
              have hfs30 := blk_frozen BK158.out 0
              have hns30_1 := NB167_158.out
              have hms30_1 := NB158_167.out
              have hs31 : w'.cell? ⟨gb158, 1, none⟩ = some (.int .i64 0) := (blk_cell BK158.out 1).trans rfl
              have hfs31 := blk_frozen BK158.out 1
              have hns31_1 := NB167_158.out
              have hms31_1 := NB158_167.out
              have hs32 : w'.cell? ⟨gb158, 2, none⟩ = some (.int .i64 0) := (blk_cell BK158.out 2).trans rfl
              have hfs32 := blk_frozen BK158.out 2
              have hns32_1 := NB167_158.out
              have hms32_1 := NB158_167.out
              have hs33 : w'.cell? ⟨gb158, 3, none⟩ = some (.int .i64 0) := (blk_cell BK158.out 3).trans rfl
              have hfs33 := blk_frozen BK158.out 3
              have hns33_1 := NB167_158.out
              have hms33_1 := NB158_167.out
              refine skip_ (w1 := ?_) (by rfl) rfl ?_ ?_
              rotate_left
              · go_simp
                rfl
              refine hK.out _ _ ⟨v173, adz_v173, v181, adz_v181, m13_, m22_, (by rw [ha.out]; exact putSel_none (v := undef) rfl), fun h0_ => absurd ((up_self b 24).symm.trans h0_) (by decide), (by (with_reducible repeat (first | refine blk_drewN ?_ _ | refine blk_drew ?_ | refine blk_alloc ?_ _)); refine blk_far ?_ NB167_158.out _; (with_reducible repeat (first | refine blk_drewN ?_ _ | refine blk_drew ?_ | refine blk_alloc ?_ _)); refine blk_far ?_ NB167_158.out _; (with_reducible repeat (first | refine blk_drewN ?_ _ | refine blk_drew ?_ | refine blk_alloc ?_ _)); refine blk_far ?_ NB167_158.out _; (with_reducible repeat (first | refine blk_drewN ?_ _ | refine blk_drew ?_ | refine blk_alloc ?_ _)); refine blk_far ?_ NB167_158.out _; (with_reducible repeat (first | refine blk_drewN ?_ _ | refine blk_drew ?_ | refine blk_alloc ?_ _)); exact BK167.out), fun h0_ => absurd ((hon 4 (by kernel_rfl)).symm.trans h0_) (by decide), (by repeat (first | (with_reducible first | exact HB.out | apply below_alloc | apply pw_below_drewN | apply below_drew1 | refine below_set ?_ (IsS74.ge HI161.out) | refine below_set ?_ GE158.out | refine below_set ?_ GE167.out) | exact HB.out)), fun _ h1_ => absurd ((hon 7 (by kernel_rfl)).symm.trans h1_) (by decide), fun _ h1_ => absurd ((hon 10 (by kernel_rfl)).symm.trans h1_) (by decide), fun h0_ => (by (with_reducible repeat (first | apply Kd.R_alloc | apply Kd.R_drewN | apply Kd.R_drew)); exact Kd.R_mono (Kd.R_far (p := ⟨gb158, 3, none⟩) (Kd.R_far (p := ⟨gb158, 2, none⟩) (Kd.R_far (p := ⟨gb158, 1, none⟩) (Kd.R_far (p := ⟨gb158, 0, none⟩) (Kd.R_types (Q_HO174 h0_) BK158.out (by decide)) (fun _ hk => hk.2) (.int .i64 t162)) (fun _ hk => hk.2) (.int .i64 t163)) (fun _ hk => hk.2) (.int .i64 t164)) (fun _ hk => hk.2) (.int .i64 t165)) (fun _ hk => trivial)), Q_HA_HO174, fun _ h1_ => absurd ((hon 16 (by kernel_rfl)).symm.trans h1_) (by decide), fun _ h1_ => absurd ((hon 19 (by kernel_rfl)).symm.trans h1_) (by decide), fun h0_ => (by (with_reducible repeat (first | apply Kd.R_alloc | apply Kd.R_drewN | apply Kd.R_drew)); exact Kd.R_mono (Kd.R_far (p := ⟨gb158, 3, none⟩) (Kd.R_far (p := ⟨gb158, 2, none⟩) (Kd.R_far (p := ⟨gb158, 1, none⟩) (Kd.R_far (p := ⟨gb158, 0, none⟩) (Kd.R_types (Q_HO182 h0_) BK158.out (by decide)) (fun _ hk => hk.2) (.int .i64 t162)) (fun _ hk => hk.2) (.int .i64 t163)) (fun _ hk => hk.2) (.int .i64 t164)) (fun _ hk => hk.2) (.int .i64 t165)) (fun _ hk => trivial)), Q_HA_HO182, fun _ => (by repeat (first | (with_reducible first | exact HI161.out | apply IsS74.alloc | apply IsS74.drewN | apply IsS74.drew | apply IsS74.set_1 | refine IsS74.far ?_ NB161_158.out _ | refine IsS74.far ?_ NB161_167.out _) | exact HI161.out)), fun _ => (by (with_reducible repeat (first | refine blk_drewN ?_ _ | refine blk_drew ?_ | refine blk_alloc ?_ _)); refine blk_put (cs := #[.int .i64 t162, .int .i64 t163, .int .i64 t164, .int .i64 0]) ?_ 3 _ rfl; (with_reducible repeat (first | refine blk_drewN ?_ _ | refine blk_drew ?_ | refine blk_alloc ?_ _)); refine blk_put (cs := #[.int .i64 t162, .int .i64 t163, .int .i64 0, .int .i64 0]) ?_ 2 _ rfl; (with_reducible repeat (first | refine blk_drewN ?_ _ | refine blk_drew ?_ | refine blk_alloc ?_ _)); refine blk_put (cs := #[.int .i64 t162, .int .i64 0, .int .i64 0, .int .i64 0]) ?_ 1 _ rfl; (with_reducible repeat (first | refine blk_drewN ?_ _ | refine blk_drew ?_ | refine blk_alloc ?_ _)); refine blk_put (cs := #[.int .i64 0, .int .i64 0, .int .i64 0, .int .i64 0]) ?_ 0 _ rfl; (with_reducible repeat (first | refine blk_drewN ?_ _ | refine blk_drew ?_ | refine blk_alloc ?_ _)); exact BK158.out), Q_X13_, Q_X22_⟩
            refine steps_cons ?_ ?_
            · rintro b a w' ⟨v173, adz_v173, v181, adz_v181, m13_, m22_, ha, Q_BK158, Q_BK167, Q_HI161, Q_HB, Q_HI161_e4, Q_HI161_e7, Q_HO174, Q_HA_HO174, Q_HI161_e10, Q_HI161_e16, Q_HO182, Q_HA_HO182, Q_HI161_e19, Q_BK158_e24, Q_X13_, Q_X22_⟩ hb_ hon hoff
              refine ⟨_, rfl, fun K hK => ?_⟩
              have e25 : a.tmps[25]? = some (.int .i64 (rd y172 (ji7))) := by rw [ha]; exact putSel_on (e := (14, 25, .int .i64 (rd y172 (ji7)))) 10 rfl rfl (hon 14 (by kernel_rfl)) rfl
              replace ha := Aside0.mk ha
              have BK167 := Aside0.mk Q_BK167
              have HB := Aside0.mk Q_HB
              have HO174 := Aside0.mk (Q_HO174 (hon 8 (by kernel_rfl)))
              have HA_HO174 := Aside0.mk (Q_HA_HO174 (hon 8 (by kernel_rfl)))
              have HI161 := Aside0.mk (Q_HI161_e19 (hon 19 (by kernel_rfl)))
              have BK158 := Aside0.mk (Q_BK158_e24 (hon 24 (by kernel_rfl)))
              refine value_ (w1 := w') (v := .int .i64 (rd y172 (ji7))) (by rfl) rfl ?_ ?_
              · go_simp
                (try simp only [i64_w])
                try rfl
              refine hK.out _ _ ⟨v173, adz_v173, v181, adz_v181, m13_, m22_, (by rw [ha.out]; exact putSel_upk 18 hb_ rfl rfl rfl), fun h0_ => absurd ((hon 24 (by kernel_rfl)).symm.trans h0_) (by decide), Q_BK167, fun h0_ => absurd ((hon 4 (by kernel_rfl)).symm.trans h0_) (by decide), Q_HB, fun _ h1_ => absurd ((hon 7 (by kernel_rfl)).symm.trans h1_) (by decide), fun _ h1_ => absurd ((hon 10 (by kernel_rfl)).symm.trans h1_) (by decide), Q_HO174, Q_HA_HO174, fun _ h1_ => absurd ((hon 16 (by kernel_rfl)).symm.trans h1_) (by decide), fun _ h1_ => absurd ((hon 19 (by kernel_rfl)).symm.trans h1_) (by decide), Q_HO182, Q_HA_HO182, Q_HI161_e19, Q_BK158_e24, Q_X13_, Q_X22_⟩
            refine steps_cons ?_ ?_
            · rintro b a w' ⟨v173, adz_v173, v181, adz_v181, m13_, m22_, ha, Q_BK158, Q_BK167, Q_HI161, Q_HB, Q_HI161_e4, Q_HI161_e7, Q_HO174, Q_HA_HO174, Q_HI161_e10, Q_HI161_e16, Q_HO182, Q_HA_HO182, Q_HI161_e19, Q_BK158_e24, Q_X13_, Q_X22_⟩ hb_ hon hoff
              refine ⟨_, rfl, fun K hK => ?_⟩
              have e34 : a.tmps[34]? = some (.int .i64 (rd y180 (ji12))) := by rw [ha]; exact putSel_on (e := (23, 34, .int .i64 (rd y180 (ji12)))) 17 rfl rfl (hon 23 (by kernel_rfl)) rfl
              replace ha := Aside0.mk ha
              have BK167 := Aside0.mk Q_BK167
              have HB := Aside0.mk Q_HB
              have HO174 := Aside0.mk (Q_HO174 (hon 8 (by kernel_rfl)))
              have HA_HO174 := Aside0.mk (Q_HA_HO174 (hon 8 (by kernel_rfl)))
              have HO182 := Aside0.mk (Q_HO182 (hon 17 (by kernel_rfl)))
              have HA_HO182 := Aside0.mk (Q_HA_HO182 (hon 17 (by kernel_rfl)))
              have HI161 := Aside0.mk (Q_HI161_e19 (hon 19 (by kernel_rfl)))
              have BK158 := Aside0.mk (Q_BK158_e24 (hon 24 (by kernel_rfl)))
              refine value_ (w1 := w') (v := .int .i64 (rd y180 (ji12))) (by rfl) rfl ?_ ?_
              · go_simp
                (try simp only [i64_w])
                try rfl
              refine hK.out _ _ ⟨v173, adz_v173, v181, adz_v181, m13_, m22_, (by rw [ha.out]; exact putSel_upk 19 hb_ rfl rfl rfl), fun h0_ => absurd ((hon 24 (by kernel_rfl)).symm.trans h0_) (by decide), Q_BK167, fun h0_ => absurd ((hon 4 (by kernel_rfl)).symm.trans h0_) (by decide), Q_HB, fun _ h1_ => absurd ((hon 7 (by kernel_rfl)).symm.trans h1_) (by decide), fun _ h1_ => absurd ((hon 10 (by kernel_rfl)).symm.trans h1_) (by decide), Q_HO174, Q_HA_HO174, fun _ h1_ => absurd ((hon 16 (by kernel_rfl)).symm.trans h1_) (by decide), fun _ h1_ => absurd ((hon 19 (by kernel_rfl)).symm.trans h1_) (by decide), Q_HO182, Q_HA_HO182, Q_HI161_e19, Q_BK158_e24, Q_X13_, Q_X22_⟩
            exact steps_nil
          rintro b a w39 hall ⟨v173, adz_v173, v181, adz_v181, m13_, m22_, ha, Q_BK158, Q_BK167, Q_HI161, Q_HB, Q_HI161_e4, Q_HI161_e7, Q_HO174, Q_HA_HO174, Q_HI161_e10, Q_HI161_e16, Q_HO182, Q_HA_HO182, Q_HI161_e19, Q_BK158_e24, Q_X13_, Q_X22_⟩
          clear BK158 BK167 HB HI161
          have hb0_ := hall 0 (by kernel_rfl)
          have hb2_ := hall 2 (by kernel_rfl)
          have hb4_ := hall 4 (by kernel_rfl)
          have hb5_ := hall 5 (by kernel_rfl)
          have hb7_ := hall 7 (by kernel_rfl)
          have hb8_ := hall 8 (by kernel_rfl)
          have hb10_ := hall 10 (by kernel_rfl)
          have hb11_ := hall 11 (by kernel_rfl)
          have hb12_ := hall 12 (by kernel_rfl)
          have hb13_ := hall 13 (by kernel_rfl)
          have hb14_ := hall 14 (by kernel_rfl)
          have hb16_ := hall 16 (by kernel_rfl)
          have hb17_ := hall 17 (by kernel_rfl)
          have hb19_ := hall 19 (by kernel_rfl)
          have hb20_ := hall 20 (by kernel_rfl)
          have hb21_ := hall 21 (by kernel_rfl)
          have hb22_ := hall 22 (by kernel_rfl)
          have hb23_ := hall 23 (by kernel_rfl)
          have hb24_ := hall 24 (by kernel_rfl)
          have hb25_ := hall 25 (by kernel_rfl)
          have hb26_ := hall 26 (by kernel_rfl)
          subst ha
          obtain rfl := Q_X13_ hb13_
          obtain rfl := Q_X22_ hb22_
          simp only [putSel, hb0_, hb2_, hb4_, hb5_, hb7_, hb8_, hb10_, hb11_, hb12_, hb13_, hb14_, hb16_, hb17_, hb19_, hb20_, hb21_, hb22_, hb23_, hb24_, hb25_, hb26_, if_true, Act.put, List.setIfInBounds_toArray, List.set_cons_zero, List.set_cons_succ]
          clear Q_BK158
          have BK167 := Aside0.mk Q_BK167
          clear Q_BK167
          clear Q_HI161
          have HB := Aside0.mk Q_HB
          clear Q_HB
          clear Q_HI161_e4
          clear Q_HI161_e7
          have HO174 := Aside0.mk (Q_HO174 hb8_)
          clear Q_HO174
          have HA_HO174 := Aside0.mk (Q_HA_HO174 hb8_)
          clear Q_HA_HO174
          clear Q_HI161_e10
          clear Q_HI161_e16
          have HO182 := Aside0.mk (Q_HO182 hb17_)
          clear Q_HO182
          have HA_HO182 := Aside0.mk (Q_HA_HO182 hb17_)
          clear Q_HA_HO182
          have HI161 := Aside0.mk (Q_HI161_e19 hb19_)
          clear Q_HI161_e19
          have BK158 := Aside0.mk (Q_BK158_e24 hb24_)
          clear Q_BK158_e24
          clear hall hb0_ hb2_ hb4_ hb5_ hb7_ hb8_ hb10_ hb11_ hb12_ hb13_ hb14_ hb16_ hb17_ hb19_ hb20_ hb21_ hb22_ hb23_ hb24_ hb25_ hb26_
          obtain ⟨co40, eo40⟩ := HA_HO174.out
          clear HA_HO174
          subst eo40
          obtain ⟨co41, eo41⟩ := HA_HO182.out
          clear HA_HO182
          subst eo41
          try go_wp2
          refine bodyPost_ret (results_ctt rfl _ _ gb158 25 #[.int .i64 t162, .int .i64 t163, .int .i64 t164, .int .i64 t165] (0, 0) _ rfl (by (with_reducible repeat (first | refine blk_drewN ?_ _ | refine blk_drew ?_ | refine blk_alloc ?_ _)); exact BK158.out) Try.underlying25 rfl (by kernel_rfl)) rfl ?_
          exact ⟨by first | rfl | (simp [errW_none, errW_some] <;> rfl) | (simp only [← hji7, ← hji12]; first | rfl | (simp [errW_none, errW_some] <;> rfl)) | (simp [*, errW_none, errW_some] <;> rfl), by repeat (first | (with_reducible first | exact HB.out | apply below_alloc | apply pw_below_drewN | apply below_drew1 | refine below_set ?_ (IsS74.ge HI161.out) | refine below_set ?_ GE158.out | refine below_set ?_ GE167.out) | exact HB.out)⟩
        · rw [if_neg c14] at H
          exact absurd H (by simp)
      · rw [if_neg c13] at H
        exact absurd H (by simp)
    · rw [if_neg c9] at H
      exact absurd H (by simp)
  · rw [if_neg c8] at H
    exact absurd H (by simp)

end Go.Proofs.Ytdigjaphfpfbaaa.PFnBucketTake
