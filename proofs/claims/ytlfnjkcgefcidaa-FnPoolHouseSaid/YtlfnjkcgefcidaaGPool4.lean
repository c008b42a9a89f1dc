import Derived.Test.YtlfnjkcgefcidaaGPool3
set_option linter.unusedSimpArgs false
set_option linter.unusedVariables false
namespace Go.Abs.B
open Go Go.Abs Go.Proofs
attribute [local irreducible] IntKind.wrap
theorem encFrame_len (l : Fs) : ∀ el ∈ l.map encFrame, el.length = 5 := by
  intro el h
  obtain ⟨x, _, rfl⟩ := List.mem_map.1 h
  rfl
theorem bytes41 : Try.prog.bytesOf 41 + 1 ≤ 100 := by decide +kernel
theorem app_bound {n : Nat} (h : n < 1000) : (0 + n) * (Try.prog.bytesOf 41 + 1) ≤ 140737488355328 :=
  Nat.le_trans (Nat.mul_le_mul (show 0 + n ≤ 1000 by omega) bytes41) (by decide)
@[reducible] def own (l : Fs) (h : Int) : AV := .agg [.hs 0 0 l.length, .p (.lit (.int .i64 h))]
theorem hs_len {l : Fs} {h : Int} {n : Nat} (hn : n = l.length) : AV.agg [.hs 0 0 n, .p (.lit (.int .i64 h))] = own l h := by rw [hn]
set_option maxHeartbeats 4000000 in
set_option maxRecDepth 100000 in
theorem clone_ok (l : Fs) (h : Int) (hl : l.length < 1000) : Good Try.prog 53 [pool l h] [] (own l h) [.arr 5 (l.map encFrame)] := by
  refine good_e noM Try.func53 rfl rfl ?_
  conv => whnf
  refine VDraw.go ⟨16, [0, 0, 2, 7, 0, 16, 63, 127], [0, 3, 7], [(3, [16]), (7, [8])]⟩ rfl rfl (by decide +kernel) ?_
  conv => whnf
  refine ⟨⟨rfl, rfl, rfl⟩, trivial, ?_⟩
  conv => whnf
  refine ⟨(fun q => by cases q), by rw [List.length_map]; exact app_bound hl, encFrame_len l, ?_⟩
  conv => whnf
  refine ⟨⟨⟨by decide +kernel, Nat.le_of_ble_eq_true rfl⟩, trivial⟩, ?_⟩
  conv => whnf
  exact ⟨hs_len (by simp), rfl⟩
set_option maxHeartbeats 4000000 in
set_option maxRecDepth 100000 in
theorem l10Copy_ok (l : Fs) (h : Int) (hl : l.length < 1000) : Good Try.prog 54 [pool l h] [] (own l h) [.arr 5 (l.map encFrame)] := by
  refine good_e noM Try.func54 rfl rfl ?_
  conv => whnf
  refine ⟨⟨rfl, rfl, rfl⟩, trivial, ?_⟩
  conv => whnf
  refine ⟨(fun q => by cases q), by rw [List.length_map]; exact app_bound hl, encFrame_len l, ?_⟩
  conv => whnf
  refine ⟨⟨⟨by decide +kernel, Nat.le_of_ble_eq_true rfl⟩, trivial⟩, ?_⟩
  conv => whnf
  exact ⟨hs_len (by simp), rfl⟩
theorem frame_eq {x y : RFrame} : (x.a == y.a && (x.b == y.b && (x.c == y.c && (x.d == y.d && (x.e == y.e && true))))) = true ↔ x = y := by
  cases x; cases y; simp [and_assoc]
theorem fs_ext {l l' : Fs} (hl : l.length = l'.length) (h : ∀ k, k < l.length → at' l k = at' l' k) : l = l' := by
  apply List.ext_getElem hl
  intro i h1 h2
  have := h i h1
  unfold at' at this
  rwa [List.getD_eq_getElem?_getD, List.getD_eq_getElem?_getD, List.getElem?_eq_getElem h1, List.getElem?_eq_getElem h2] at this
noncomputable def samePool (l : Fs) (h : Int) (l' : Fs) (h' : Int) : Bool := @decide (h = h' ∧ l = l') (Classical.propDecidable _)
theorem same_true {l l' : Fs} {h h' : Int} (p : h = h' ∧ l = l') : samePool l h l' h' = true := by unfold samePool; exact @decide_eq_true _ (Classical.propDecidable _) p
theorem same_false {l l' : Fs} {h h' : Int} (p : ¬ (h = h' ∧ l = l')) : samePool l h l' h' = false := by unfold samePool; exact @decide_eq_false _ (Classical.propDecidable _) p
set_option maxHeartbeats 4000000 in
set_option maxRecDepth 100000 in
theorem whPool_ok (l l' : Fs) (h h' : Int) (hl : l.length < 1000) : Good Try.prog 25 [pool l h, pool l' h'] [] (vbool (samePool l h l' h')) [] := by
  refine good_e noM Try.func25 rfl rfl ?_
  conv => whnf
  split
  · rename_i h1
    conv => whnf
    refine ⟨trivial, ?_⟩
    conv => whnf
    exact ⟨vbool_c (same_false fun p => by rw [p.1] at h1; simp at h1).symm, rfl⟩
  rename_i h1
  conv => whnf
  split
  · rename_i h2
    conv => whnf
    refine ⟨trivial, ?_⟩
    conv => whnf
    exact ⟨vbool_c (same_false fun p => by rw [p.2] at h2; simp at h2).symm, rfl⟩
  rename_i h2
  have hh : h = h' := by simpa using h1
  have hlen : l.length = l'.length := by have h2' : ((l.map encFrame).length : Int) = ((l'.map encFrame).length : Int) := by simpa using h2
                                         simp only [List.length_map] at h2'; omega
  conv => whnf
  refine VLoop.enter [2, 3, 5] ?_
  conv => whnf
  refine VLoop.ind1 (n0 := 2) (α := Int) noM [2, 3, 5] (fun a => ⟨38, 0, [(2, .one (.hp 0 0 0)), (3, .one (.hp 1 0 0)), (5, vint a)], [(0, some (.box [.p (.sl (l.map encFrame)), .p (.lit (.int .i64 h))])), (1, some (.box [.p (.sl (l'.map encFrame)), .p (.lit (.int .i64 h'))]))]⟩)
    (fun a => ∃ i : Nat, a = i ∧ i ≤ l.length ∧ ∀ k, k < i → at' l k = at' l' k) (fun a => (l.length - a).toNat) ?_ 0 ⟨0, rfl, by omega, fun k hk => absurd hk (by omega)⟩
  rintro _ ⟨i, rfl, hi, heq⟩
  conv => whnf
  split
  · rename_i h3
    conv => whnf
    simp only [List.length_map, decide_eq_true_eq] at h3
    have w : ∀ x : Int, 0 ≤ x → x < 200000 → IntKind.i64.wrap x = x := fun x h1 h2 => wrap_in _ (by omega) (by omega)
    refine VDraw.go ⟨_, [0, 1, 0, 7, 15, 0, 32, 0, 224, 480, 1023], [], []⟩ rfl rfl (by decide +kernel) ?_
    conv => whnf
    refine ⟨by omega, by simp; omega, _, getD_map encFrame l _ zFrame (by omega), ?_⟩
    conv => whnf
    refine ⟨by omega, by simp; omega, _, getD_map encFrame l' _ zFrame (by omega), ?_⟩
    conv => whnf
    refine ⟨by decide +kernel, by decide +kernel, ?_⟩
    conv => whnf
    split
    · rename_i h4
      conv => whnf
      refine ⟨trivial, ?_⟩
      conv => whnf
      refine ⟨vbool_c (same_false fun p => ?_).symm, rfl⟩
      have h4' : (!((at' l i).a == (at' l' i).a && ((at' l i).b == (at' l' i).b && ((at' l i).c == (at' l' i).c && ((at' l i).d == (at' l' i).d && ((at' l i).e == (at' l' i).e && true)))))) = true := h4
      rw [frame_eq.2 (by rw [p.2])] at h4'
      cases h4'
    · rename_i h4
      conv => whnf
      have h4' : (!((at' l i).a == (at' l' i).a && ((at' l i).b == (at' l' i).b && ((at' l i).c == (at' l' i).c && ((at' l i).d == (at' l' i).d && ((at' l i).e == (at' l' i).e && true)))))) = false := h4
      rw [Bool.not_eq_false'] at h4'
      have := frame_eq.1 h4'
      refine ⟨_, rfl, rfl, ⟨i + 1, by rw [w _ (by omega) (by omega)]; simp, by omega, fun k hk => ?_⟩, ?_⟩
      · by_cases q : k = i
        · rw [q]; exact this
        · exact heq k (by omega)
      · show ((l.length : Int) - IntKind.i64.wrap _).toNat < _
        rw [w _ (by omega) (by omega)]; omega
  · rename_i h3
    conv => whnf
    simp at h3
    refine ⟨trivial, ?_⟩
    conv => whnf
    exact ⟨vbool_c (same_true ⟨hh, fs_ext hlen fun k hk => heq k (by omega)⟩).symm, rfl⟩
end Go.Abs.B
