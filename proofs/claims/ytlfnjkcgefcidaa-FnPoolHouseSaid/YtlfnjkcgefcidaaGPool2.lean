import Derived.Test.YtlfnjkcgefcidaaGPool1
set_option linter.unusedSimpArgs false
set_option linter.unusedVariables false
namespace Go.Abs.B
open Go Go.Abs Go.Proofs
attribute [local irreducible] IntKind.wrap
def zeroB (x : RFrame) : Bool := x.a == 0 && (x.b == 0 && (x.c == 0 && (x.d == 0 && (x.e == false && true))))
def frOk (x : RFrame) : Bool := match x.b == 0 with
  | true => zeroB x
  | false => inR x.a 0 1 && inR x.b 1 99999 && inR x.c 0 23 && inR x.d 0 99999
def at' (l : Fs) (i : Nat) : RFrame := l.getD i zFrame
theorem frOk_zero {x : RFrame} (h : (x.b == 0) = true) : frOk x = zeroB x := by unfold frOk; rw [h]
theorem frOk_full {x : RFrame} (h : (x.b == 0) = false) : frOk x = (inR x.a 0 1 && inR x.b 1 99999 && inR x.c 0 23 && inR x.d 0 99999) := by unfold frOk; rw [h]
theorem find_first {e b : Int} {l : Fs} {i : Nat} (h : find e b l = i) : ∀ k, k < i → hit e b (l.getD k zFrame) = false := by
  unfold find at h
  cases hq : l.findIdx? (hit e b) with
  | none => simp [hq] at h
  | some j =>
    simp only [hq] at h
    have hj : j = i := by omega
    subst hj
    rw [List.findIdx?_eq_some_iff_getElem] at hq
    obtain ⟨h1, h2, h3⟩ := hq
    intro k hk
    have := h3 k hk
    rw [List.getD_eq_getElem?_getD, List.getElem?_eq_getElem (by omega)]
    simpa using this
structure GoodAt (l : Fs) (i : Nat) : Prop where
  fr : frOk (at' l i) = true
  new : ∀ k, k < i → (at' l i).b > 0 → ¬ ((at' l i).b = (at' l k).b ∧ (at' l i).c = (at' l k).c)
structure PoolOkP (l : Fs) (h : Int) : Prop where
  len : l.length = 8
  hand : inR h 0 7 = true
  good : ∀ i, i < 8 → GoodAt l i
  c0 : cnt 0 l ≤ 5
  c1 : cnt 1 l ≤ 5
noncomputable def poolOk (l : Fs) (h : Int) : Bool := @decide (PoolOkP l h) (Classical.propDecidable _)
theorem poolOk_true {l : Fs} {h : Int} (p : PoolOkP l h) : poolOk l h = true := by unfold poolOk; exact @decide_eq_true _ (Classical.propDecidable _) p
theorem poolOk_false {l : Fs} {h : Int} (p : ¬ PoolOkP l h) : poolOk l h = false := by unfold poolOk; exact @decide_eq_false _ (Classical.propDecidable _) p
theorem poolOk_iff {l : Fs} {h : Int} : poolOk l h = true ↔ PoolOkP l h := ⟨(fun q => by by_cases p : PoolOkP l h; exact p; rw [poolOk_false p] at q; cases q), poolOk_true⟩
set_option maxHeartbeats 4000000 in
set_option maxRecDepth 100000 in
theorem implOk_ok (l : Fs) (hand : Int) (hl : l.length < 1000) : Good Try.prog 18 [pool l hand] [] (vbool (poolOk l hand)) [] := by
  refine good_e noM Try.func18 rfl rfl ?_
  conv => whnf
  split
  · rename_i h
    conv => whnf
    refine ⟨trivial, ?_⟩
    conv => whnf
    refine ⟨vbool_c (poolOk_false fun p => ?_).symm, rfl⟩
    have := p.len
    rw [List.length_map] at h
    rw [this] at h
    cases h
  rename_i h
  conv => whnf
  refine .mk _ _ false Try.call45 (within_ok _ _ _) (Nat.le_of_ble_eq_true rfl) (.inl rfl) ?_
  conv => whnf
  split
  · rename_i h2
    conv => whnf
    refine ⟨trivial, ?_⟩
    conv => whnf
    refine ⟨vbool_c (poolOk_false fun p => ?_).symm, rfl⟩
    rw [p.hand] at h2; cases h2
  rename_i h2
  have hlen : l.length = 8 := by simp at h; omega
  have hh : inR hand 0 7 = true := by simpa using h2
  clear h h2
  conv => whnf
  refine VLoop.enter [1, 17, 18, 19] ?_
  conv => whnf
  refine VLoop.ind1 (n0 := 1) (α := Int) noM [1, 17, 18, 19] (fun a => ⟨71, 0, [(1, .one (.hp 0 0 0)), (17, .one (.p (.sl (l.map encFrame)))), (18, vint ((l.map encFrame).length : Nat)), (19, vint a)], [(0, some (.box [.p (.sl (l.map encFrame)), .p (.lit (.int .i64 hand))]))]⟩)
    (fun a => ∃ i : Nat, a = i ∧ i ≤ 8 ∧ ∀ k, k < i → GoodAt l k) (fun a => (8 - a).toNat) ?_ 0 ⟨0, rfl, by omega, fun k hk => absurd hk (by omega)⟩
  rintro _ ⟨i, rfl, hi, hgood⟩
  conv => whnf
  split
  · rename_i h
    conv => whnf
    simp only [List.length_map, decide_eq_true_eq] at h
    have w : ∀ x : Int, 0 ≤ x → x < 200000 → IntKind.i64.wrap x = x := fun x h1 h2 => wrap_in _ (by omega) (by omega)
    have fin : GoodAt l i → ∃ k : Nat, IntKind.i64.wrap ((i : Int) + 1) = k ∧ k ≤ 8 ∧ ∀ j, j < k → GoodAt l j := by
      intro hv
      refine ⟨i + 1, by rw [w _ (by omega) (by omega)]; simp, by omega, fun j hj => ?_⟩
      by_cases q : j = i
      · rw [q]; exact hv
      · exact hgood j (by omega)
    have hm : (8 - IntKind.i64.wrap ((i : Int) + 1)).toNat < (8 - (i : Int)).toNat := by rw [w _ (by omega) (by omega)]; omega
    have bad : ¬ GoodAt l i → (vbool false) = vbool (poolOk l hand) := fun q => vbool_c (poolOk_false fun p => q (p.good i (by omega))).symm
    refine ⟨by omega, by simp; omega, _, getD_map encFrame l _ zFrame (by omega), ?_⟩
    conv => whnf
    split
    · rename_i h1
      conv => whnf
      refine ⟨by decide +kernel, by decide +kernel, ?_⟩
      conv => whnf
      have h1' : ((at' l i).b == 0) = true := h1
      have hfr := frOk_zero h1'
      split
      · rename_i h2
        conv => whnf
        refine ⟨trivial, ?_⟩
        conv => whnf
        refine ⟨bad fun q => ?_, rfl⟩
        have h2' : (!zeroB (at' l i)) = true := h2
        rw [← hfr, q.fr] at h2'
        cases h2'
      · rename_i h2
        conv => whnf
        have h2' : (!zeroB (at' l i)) = false := h2
        refine ⟨_, rfl, rfl, fin ⟨by rw [hfr]; simpa using h2', fun k _ hb => ?_⟩, hm⟩
        have := eq_of_beq h1'
        omega
    · rename_i h1
      conv => whnf
      have h1' : ((at' l i).b == 0) = false := h1
      have hfr := frOk_full h1'
      have ends : (GoodAt l i → False) → vbool false = vbool (poolOk l hand) ∧ ([] : List Blk) = [] := fun q => ⟨bad q, rfl⟩
      refine .mk _ _ false Try.call46 (house_ok _) (Nat.le_of_ble_eq_true rfl) (.inl rfl) ?_
      conv => whnf
      split
      · rename_i h2
        conv => whnf
        refine ⟨trivial, ?_⟩
        conv => whnf
        refine ends fun q => ?_
        have g := q.fr
        rw [hfr] at g
        simp only [Bool.and_eq_true] at g
        have h2' : (!inR (at' l i).a 0 1) = true := h2
        rw [g.1.1.1] at h2'; cases h2'
      rename_i h2
      conv => whnf
      refine .mk _ _ false Try.call45 (within_ok _ _ _) (Nat.le_of_ble_eq_true rfl) (.inl rfl) ?_
      conv => whnf
      split
      · rename_i h3
        conv => whnf
        refine ⟨trivial, ?_⟩
        conv => whnf
        refine ends fun q => ?_
        have g := q.fr
        rw [hfr] at g
        simp only [Bool.and_eq_true] at g
        have h2' : (!inR (at' l i).b 1 99999) = true := h3
        rw [g.1.1.2] at h2'; cases h2'
      rename_i h3
      conv => whnf
      refine .mk _ _ false Try.call45 (within_ok _ _ _) (Nat.le_of_ble_eq_true rfl) (.inl rfl) ?_
      conv => whnf
      split
      · rename_i h4
        conv => whnf
        refine ⟨trivial, ?_⟩
        conv => whnf
        refine ends fun q => ?_
        have g := q.fr
        rw [hfr] at g
        simp only [Bool.and_eq_true] at g
        have h2' : (!inR (at' l i).c 0 23) = true := h4
        rw [g.1.2] at h2'; cases h2'
      rename_i h4
      conv => whnf
      refine .mk _ _ false Try.call45 (within_ok _ _ _) (Nat.le_of_ble_eq_true rfl) (.inl rfl) ?_
      conv => whnf
      split
      · rename_i h5
        conv => whnf
        refine ⟨trivial, ?_⟩
        conv => whnf
        refine ends fun q => ?_
        have g := q.fr
        rw [hfr] at g
        simp only [Bool.and_eq_true] at g
        have h2' : (!inR (at' l i).d 0 99999) = true := h5
        rw [g.2] at h2'; cases h2'
      rename_i h5
      conv => whnf
      refine .mk _ _ false Try.call47 (find_ok l hand _ _ (by omega)) (Nat.le_of_ble_eq_true rfl) (.inl rfl) ?_
      conv => whnf
      have hb1 : inR (at' l i).b 1 99999 = true := by have h3' : (!inR (at' l i).b 1 99999) = false := h3; simpa using h3'
      split
      · rename_i h6
        conv => whnf
        refine ⟨trivial, ?_⟩
        conv => whnf
        refine ends fun q => ?_
        have h6' : (find (at' l i).b (at' l i).c l != (i : Int)) = true := h6
        rw [find_at (i := i) (by omega) (fun k hk => ?_) (by unfold hit; simp [at'])] at h6'
        · simp at h6'
        · have hn := q.new k hk (by unfold inR at hb1; simp only [Bool.and_eq_true, decide_eq_true_eq] at hb1; omega)
          rw [Bool.eq_false_iff]
          intro hh
          unfold hit at hh
          simp only [Bool.and_eq_true, beq_iff_eq] at hh
          exact hn ⟨hh.1.symm, hh.2.symm⟩
      rename_i h6
      conv => whnf
      refine ⟨_, rfl, rfl, fin ⟨?_, fun k hk _ hh => ?_⟩, hm⟩
      · rw [hfr]
        have g2 : (!inR (at' l i).a 0 1) = false := h2
        have g4 : (!inR (at' l i).c 0 23) = false := h4
        have g5 : (!inR (at' l i).d 0 99999) = false := h5
        simp only [Bool.not_eq_false'] at g2 g4 g5
        rw [g2, hb1, g4, g5]; rfl
      · have h6' : (find (at' l i).b (at' l i).c l != (i : Int)) = false := h6
        have := find_first (i := i) (by simpa using h6') k hk
        unfold hit at this
        rw [show l.getD k zFrame = at' l k from rfl, hh.1, hh.2] at this
        simp at this
  · rename_i h
    simp [hlen] at h
    obtain rfl : i = 8 := by omega
    have e1 : IntKind.i64.wrap (0 + 1) = 1 := by rw [wrap_in _ (by omega) (by omega)]; rfl
    have e2 : IntKind.i64.wrap (IntKind.i64.wrap (0 + 1) + 1) = 2 := by rw [e1, wrap_in _ (by omega) (by omega)]; rfl
    conv => whnf
    refine VLoop.step noM ?_
    conv => whnf
    refine .mk _ _ false Try.call48 (of_ok l hand _ (by omega)) (Nat.le_of_ble_eq_true rfl) (.inl rfl) ?_
    conv => whnf
    split
    · rename_i h1
      conv => whnf
      refine ⟨trivial, ?_⟩
      conv => whnf
      refine ⟨vbool_c (poolOk_false fun p => ?_).symm, rfl⟩
      have h1' := of_decide_eq_true h1
      have := p.c0
      omega
    rename_i h1
    conv => whnf
    refine VLoop.step noM ?_
    conv => whnf
    split
    case h_2 h2 => rw [e1] at h2; simp at h2
    conv => whnf
    refine .mk _ _ false Try.call48 (of_ok l hand _ (by omega)) (Nat.le_of_ble_eq_true rfl) (.inl rfl) ?_
    conv => whnf
    split
    · rename_i h3
      conv => whnf
      refine ⟨trivial, ?_⟩
      conv => whnf
      refine ⟨vbool_c (poolOk_false fun p => ?_).symm, rfl⟩
      have h1' := of_decide_eq_true h3
      rw [e1] at h1'
      have := p.c1
      omega
    rename_i h3
    conv => whnf
    refine VLoop.step noM ?_
    conv => whnf
    split
    case h_1 h4 => rw [e2] at h4; simp at h4
    conv => whnf
    refine ⟨trivial, ?_⟩
    conv => whnf
    refine ⟨vbool_c (poolOk_true ⟨hlen, hh, hgood, ?_, ?_⟩).symm, rfl⟩
    · have := of_decide_eq_false h1; omega
    · have := of_decide_eq_false h3; rw [e1] at this; omega
end Go.Abs.B
