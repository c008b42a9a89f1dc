import Derived.Test.YtlfnjkcgefcidaaGLaw11
set_option linter.unusedSimpArgs false
set_option linter.unusedVariables false
namespace Go.Abs.B
open Go Go.Abs Go.Proofs
/-- The mark of a frame that was taken. -/
theorem take_mark {l : Fs} {h : Nat} {ho e b : Int} (p : PoolOkP l h) (hc : (takeS l h ho e b).2.2.2 = 0 ∨ (takeS l h ho e b).2.2.2 = 1) : (at' (takeS l h ho e b).1 (takeS l h ho e b).2.2.1.toNat).e = true := by
  have hlen := p.len
  have hh := p.hand8
  unfold takeS at hc ⊢
  split at hc
  · rename_i g
    have g' := of_decide_eq_true g
    have hlt := find_lt (e := e) (b := b) (l := l)
    split at hc
    · simp at hc
    · rename_i g2
      simp only [g2]
      rw [at_set (by omega), if_pos rfl]; rfl
  · rename_i g
    split at hc
    · simp at hc
    · rename_i g2
      simp only [g2]
      have g2' := of_decide_eq_false g2
      have hs := victim_sim (own := decide (cnt ho l ≥ 5)) (ho := ho) (n := 17) (l := l) (h := h) hlen hh
      have hv := victim_lt (own := decide (cnt ho l ≥ 5)) (ho := ho) (n := 17) (l := l) (h := h) hh
      rw [at_set (by rw [hs.len]; omega), if_pos rfl]
/-- The only frame with an edition and a block is found. -/
theorem find_only {l : Fs} {h : Int} {e b : Int} {k : Nat} (p : PoolOkP l h) (hk : k < 8) (he : e ≥ 1) (hb : (at' l k).b = e) (hc : (at' l k).c = b) : find e b l = k := by
  have hlen := p.len
  refine find_at (by omega) (fun j hj => ?_) ?_
  · show hit e b (at' l j) = false
    unfold hit
    cases q : ((at' l j).b == e && (at' l j).c == b) with
    | false => rfl
    | true =>
      simp only [Bool.and_eq_true, beq_iff_eq] at q
      exact absurd ⟨by rw [hb, q.1], by rw [hc, q.2]⟩ ((p.good k hk).new j hj (by omega))
  · show hit e b (at' l k) = true
    unfold hit
    rw [hb, hc]; simp
/-- Taken again: a hit at the same frame, if it is not held too often. -/
theorem take_again {l : Fs} {h : Nat} {ho e b : Int} {f : Nat} (p : PoolOkP l h) (hf : f < 8) (h1 : inR ho 0 1 = true) (h2 : inR e 1 99999 = true) (h3 : inR b 0 23 = true) (fa : (at' l f).a = ho) (fb : (at' l f).b = e) (fc : (at' l f).c = b) :
    takeP l h ho e b = if (at' l f).d ≥ 99999 then (l, h, 0, 3) else (l.set f (held (at' l f)), h, (f : Int), 0) := by
  unfold takeP
  rw [h1, h2, h3]
  show takeS l h ho e b = _
  unfold takeS
  rw [find_only p hf (inR_iff.1 h2).1 fb fc]
  have : decide ((f : Int) ≥ 0) = true := by simp
  rw [this]
  simp only [Int.toNat_natCast]
  rw [fa]
  by_cases q : (at' l f).d ≥ 99999
  · rw [if_pos q, decide_eq_true q]; rfl
  · rw [if_neg q, decide_eq_false q]; simp
theorem set_at {l : Fs} {f : Nat} (hf : f < l.length) : l.set f (at' l f) = l := by
  unfold at'
  rw [List.getD_eq_getElem?_getD, List.getElem?_eq_getElem hf]
  exact List.set_getElem_self hf
/-- Let go, what was taken again is as it was. -/
theorem let_again {l : Fs} {f : Nat} (hf : f < 8) (hl : l.length = 8) (hd : (at' l f).d > 0) (he : (at' l f).e = true) : letP (l.set f (held (at' l f))) f = (l, true) := by
  unfold letP
  have h0 : at' (l.set f (held (at' l f))) (f : Int).toNat = held (at' l f) := by rw [Int.toNat_natCast, at_set (by omega), if_pos rfl]
  rw [h0]
  have h1 : inR (f : Int) 0 7 = true := inR_iff.2 (by omega)
  have h2 : ((held (at' l f)).d == 0) = false := by rw [beq_eq_false_iff_ne]; show (at' l f).d + 1 ≠ 0; omega
  rw [h1, h2]
  simp only [Bool.not_false, Bool.and_true, Int.toNat_natCast, List.set_set]
  have h3 : eased (held (at' l f)) = at' l f := by
    have : ∀ x : RFrame, x.e = true → eased (held x) = x := by
      intro x hx
      obtain ⟨a, b, c, d, e⟩ := x
      simp only at hx; subst hx
      show RFrame.mk a b c (d + 1 - 1) true = _
      rw [Int.add_sub_cancel]
    exact this _ he
  rw [h3, set_at (by omega)]
theorem let_held {l : Fs} {f : Nat} (hf : f < 8) (hd : (at' l f).d > 0) : letP l f = (l.set f (eased (at' l f)), true) := by
  unfold letP
  have h1 : inR (f : Int) 0 7 = true := inR_iff.2 (by omega)
  have h2 : ((at' l f).d == 0) = false := by rw [beq_eq_false_iff_ne]; omega
  rw [Int.toNat_natCast, h1, h2]; rfl
/-- How the counts go when a block is taken: the house's own does not fall, nor does the sum. -/
theorem take_cnt {l : Fs} {h : Nat} {ho o e b : Int} (p : PoolOkP l h) (hne : ho ≠ o) (he : e ≥ 1) : cnt ho l ≤ cnt ho (takeS l h ho e b).1 ∧ cnt ho l + cnt o l ≤ cnt ho (takeS l h ho e b).1 + cnt o (takeS l h ho e b).1 := by
  have hlen := p.len
  have hh := p.hand8
  unfold takeS
  split
  · rename_i g
    have g' := of_decide_eq_true g
    have hlt := find_lt (e := e) (b := b) (l := l)
    split
    · exact ⟨Nat.le_refl _, Nat.le_refl _⟩
    · have hk : (find e b l).toNat < 8 := by omega
      generalize (find e b l).toNat = k at hk ⊢
      have q : ∀ c, cnt c (l.set k (held (at' l k))) = cnt c l := by
        intro c
        have q := cnt_set (ho := c) (x := held (at' l k)) (l := l) (i := k) (by omega)
        rw [show ofH c (held (at' l k)) = ofH c (at' l k) from rfl] at q
        omega
      show cnt ho l ≤ cnt ho (l.set k (held (at' l k))) ∧ _ ≤ cnt ho (l.set k (held (at' l k))) + cnt o (l.set k (held (at' l k)))
      rw [q, q]; exact ⟨Nat.le_refl _, Nat.le_refl _⟩
  · split
    · exact ⟨Nat.le_refl _, Nat.le_refl _⟩
    · rename_i g2
      have g2' := of_decide_eq_false g2
      have hs := victim_sim (own := decide (cnt ho l ≥ 5)) (ho := ho) (n := 17) (l := l) (h := h) hlen hh
      have hv := victim_lt (own := decide (cnt ho l ≥ 5)) (ho := ho) (n := 17) (l := l) (h := h) hh
      generalize victim (decide (cnt ho l ≥ 5)) ho 17 l h = V at g2' hs hv ⊢
      obtain ⟨L, h', v⟩ := V
      simp only at g2' hs hv ⊢
      have hL : L.length = 8 := hs.len.trans hlen
      have hk : v.toNat < 8 := by omega
      generalize v.toNat = k at hk ⊢
      have hcL : ∀ c, cnt c L = cnt c l := fun c => cnt_congr hs.len (fun j => ⟨(hs.same j).1, (hs.same j).2.1⟩)
      have q1 := cnt_set (ho := ho) (x := ⟨ho, e, b, 1, true⟩) (l := L) (i := k) (by omega)
      have q2 := cnt_set (ho := o) (x := ⟨ho, e, b, 1, true⟩) (l := L) (i := k) (by omega)
      have n1 : ofH ho (⟨ho, e, b, 1, true⟩ : RFrame) = true := by unfold ofH; simp; omega
      have n2 : ¬ ofH o (⟨ho, e, b, 1, true⟩ : RFrame) = true := by unfold ofH; simp; intro _ q; exact hne q
      rw [if_pos n1, hcL] at q1
      rw [if_neg n2, hcL] at q2
      by_cases m1 : ofH ho (at' L k) = true
      · have m2 : ¬ ofH o (at' L k) = true := by
          intro m2
          unfold ofH at m1 m2
          simp only [Bool.and_eq_true, decide_eq_true_eq] at m1 m2
          exact hne (m1.2.symm.trans m2.2)
        rw [if_pos m1] at q1
        rw [if_neg m2] at q2
        omega
      · rw [if_neg m1] at q1
        split at q2 <;> omega
theorem let_cnt {l : Fs} {f c : Int} (hl : l.length = 8) : cnt c (letP l f).1 = cnt c l := by
  unfold letP
  split
  · rename_i g
    simp only [Bool.and_eq_true] at g
    have hf := inR_iff.1 g.1
    have q := cnt_set (ho := c) (x := eased (at' l f.toNat)) (l := l) (i := f.toNat) (by omega)
    rw [show ofH c (eased (at' l f.toNat)) = ofH c (at' l f.toNat) from rfl] at q
    show cnt c (l.set f.toNat (eased (at' l f.toNat))) = _
    omega
  · rfl
end Go.Abs.B
