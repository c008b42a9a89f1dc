import Derived.Test.YtlfnjkcgefcidaaGPoolM
set_option linter.unusedSimpArgs false
set_option linter.unusedVariables false
namespace Go.Abs.B
open Go Go.Abs Go.Proofs
/-- What a take that went well leaves. -/
structure Took (l : Fs) (h : Nat) (ho e b : Int) (T : Fs × Nat × Int × Int) : Prop where
  ok : PoolOkP T.1 T.2.1
  lo : 0 ≤ T.2.2.1
  hi : T.2.2.1 < 8
  fa : (at' T.1 T.2.2.1.toNat).a = ho
  fb : (at' T.1 T.2.2.1.toNat).b = e
  fc : (at' T.1 T.2.2.1.toNat).c = b
  fd : (at' T.1 T.2.2.1.toNat).d > 0
  stay : ∀ i, i < 8 → (at' l i).d > 0 → (at' T.1 i).b = (at' l i).b ∧ (at' T.1 i).c = (at' l i).c ∧ (at' l i).d ≤ (at' T.1 i).d
theorem take_took {l : Fs} {h : Nat} {ho e b : Int} (p : PoolOkP l h) (h1 : inR ho 0 1 = true) (h2 : inR e 1 99999 = true) (h3 : inR b 0 23 = true) (hc : (takeS l h ho e b).2.2.2 = 0 ∨ (takeS l h ho e b).2.2.2 = 1) : Took l h ho e b (takeS l h ho e b) := by
  have hok := take_keeps p h1 h2 h3
  have hlen := p.len
  have hh := p.hand8
  unfold takeS at hc hok ⊢
  split at hc
  · rename_i g
    have g' := of_decide_eq_true g
    have hlt := find_lt (e := e) (b := b) (l := l)
    simp only [g] at hok ⊢
    split at hc
    · simp at hc
    · rename_i g2
      simp only [g2] at hok ⊢
      have hk : (find e b l).toNat < 8 := by omega
      have hit0 := find_pos (e := e) (b := b) (l := l) (by omega)
      unfold hit at hit0
      simp only [Bool.and_eq_true, beq_iff_eq] at hit0
      simp only [Bool.or_eq_false_iff] at g2
      have hd := p.room.held _ hk
      have hs : ∀ j, at' (l.set (find e b l).toNat (held (at' l (find e b l).toNat))) j = if j = (find e b l).toNat then held (at' l (find e b l).toNat) else at' l j := at_set (by omega)
      refine ⟨hok, by show 0 ≤ find e b l; omega, by show find e b l < 8; omega, ?_, ?_, ?_, ?_, fun i hi hdi => ?_⟩
      · show (at' (l.set _ _) _).a = ho
        rw [hs, if_pos rfl]
        have := g2.2
        show (at' l _).a = ho
        simpa using this
      · show (at' (l.set _ _) _).b = e
        rw [hs, if_pos rfl]; exact hit0.1
      · show (at' (l.set _ _) _).c = b
        rw [hs, if_pos rfl]; exact hit0.2
      · show (at' (l.set _ _) _).d > 0
        rw [hs, if_pos rfl]
        show (at' l _).d + 1 > 0
        omega
      · show (at' (l.set _ _) i).b = _ ∧ (at' (l.set _ _) i).c = _ ∧ _ ≤ (at' (l.set _ _) i).d
        rw [hs]
        by_cases q : i = (find e b l).toNat
        · rw [if_pos q, q]
          refine ⟨rfl, rfl, ?_⟩
          show (at' l _).d ≤ (at' l _).d + 1
          omega
        · rw [if_neg q]; exact ⟨rfl, rfl, Int.le_refl _⟩
  · rename_i g
    simp only [g] at hok ⊢
    split at hc
    · simp at hc
    · rename_i g2
      simp only [g2] at hok ⊢
      have g2' := of_decide_eq_false g2
      have hs := victim_sim (own := decide (cnt ho l ≥ 5)) (ho := ho) (n := 17) (l := l) (h := h) hlen hh
      have hf := victim_found (own := decide (cnt ho l ≥ 5)) (ho := ho) (n := 17) (l := l) (h := h) hlen hh (by omega)
      have hv := victim_lt (own := decide (cnt ho l ≥ 5)) (ho := ho) (n := 17) (l := l) (h := h) hh
      generalize victim (decide (cnt ho l ≥ 5)) ho 17 l h = V at g2' hs hf hv hok ⊢
      obtain ⟨L, h', v⟩ := V
      simp only at g2' hs hf hv hok ⊢
      have hk : v.toNat < L.length := by rw [hs.len]; omega
      have hst : ∀ j, at' (L.set v.toNat ⟨ho, e, b, 1, true⟩) j = if j = v.toNat then ⟨ho, e, b, 1, true⟩ else at' L j := at_set hk
      refine ⟨hok, by show 0 ≤ v; omega, hv.1, ?_, ?_, ?_, ?_, fun i hi hdi => ?_⟩
      · show (at' (L.set _ _) v.toNat).a = ho
        rw [hst, if_pos rfl]
      · show (at' (L.set _ _) v.toNat).b = e
        rw [hst, if_pos rfl]
      · show (at' (L.set _ _) v.toNat).c = b
        rw [hst, if_pos rfl]
      · show (at' (L.set _ _) v.toNat).d > 0
        rw [hst, if_pos rfl]
        show (1 : Int) > 0
        omega
      · show (at' (L.set _ _) i).b = _ ∧ (at' (L.set _ _) i).c = _ ∧ _ ≤ (at' (L.set _ _) i).d
        rw [hst]
        obtain ⟨_, s2, s3, s4⟩ := hs.same i
        by_cases q : i = v.toNat
        · exfalso
          have := hf.2
          rw [← q, s4] at this
          omega
        · rw [if_neg q, s2, s3, s4]; exact ⟨rfl, rfl, Int.le_refl _⟩
end Go.Abs.B
