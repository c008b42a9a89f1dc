import Derived.Test.YtfhcoohdmjfkbaaDoorGW5
set_option linter.unusedSimpArgs false
set_option linter.unusedVariables false
namespace Go.Abs.D
open Go Go.Abs Go.Proofs
attribute [local irreducible] IntKind.wrap

def okS (w : RWord) : Bool := match inR w.b 0 99999 with
  | false => false
  | true => match inR w.c 1 99999 with
  | false => false
  | true => match inR w.d 0 99999 with
  | false => false
  | true => match inR w.e 0 99999 with
  | false => false
  | true => match decide ((w.g.size : Int) > 80) with
  | true => false
  | false => match w.a == 1 with
    | true => (match nameOk w.f with
      | false => false
      | true => match w.e == 0 with
        | true => w.g.toList == (ByteArray.mk #[]).toList
        | false => false)
    | false => match !(w.f.toList == (ByteArray.mk #[]).toList) with
      | true => false
      | false => match w.a == 6 with
        | true => (match w.e == 0 with
          | true => w.g.toList == (ByteArray.mk #[]).toList
          | false => false)
        | false => match w.a == 2 with
          | true => (match decide (w.d > 0) with
            | true => (match w.e == 0 with
              | true => !(w.g.toList == (ByteArray.mk #[]).toList)
              | false => false)
            | false => false)
          | false => match w.a == 3 with
            | true => (match decide (w.d > 0) with
              | true => !(w.g.toList == (ByteArray.mk #[]).toList)
              | false => false)
            | false => match w.a == 4 with
              | true => (match decide (w.d > 0) with
                | true => w.g.toList == (ByteArray.mk #[]).toList
                | false => false)
              | false => match w.a == 5 with
                | true => (match decide (w.d > 0) with
                  | true => w.g.toList == (ByteArray.mk #[]).toList
                  | false => false)
                | false => false
theorem ok_same (w : RWord) : okS w = okI w := by
  unfold okS okI
  cases inR w.b 0 99999 with
  | false => rfl
  | true =>
  cases inR w.d 0 99999 with
  | false => cases inR w.c 1 99999 <;> rfl
  | true =>
  cases inR w.c 1 99999 with
  | false => cases inR w.e 0 99999 <;> rfl
  | true =>
  cases he : inR w.e 0 99999 with
  | false => rfl
  | true =>
  have h0 : (w.e == 0) = !decide (w.e > 0) := by
    have := inR_iff.1 he
    by_cases q : w.e = 0
    · rw [q]; rfl
    · rw [beq_eq_false_iff_ne.2 q, decide_eq_true (by omega)]; rfl
  rw [h0]
  cases decide ((w.g.size : Int) > 80) with
  | true => rfl
  | false =>
  generalize decide (w.e > 0) = E
  generalize decide (w.d > 0) = D
  generalize (w.g.toList == (ByteArray.mk #[]).toList) = G
  generalize (w.f.toList == (ByteArray.mk #[]).toList) = F
  generalize nameOk w.f = N
  by_cases h1 : w.a = 1
  · rw [h1]; revert E D G F N; decide
  by_cases h2 : w.a = 2
  · rw [h2]; revert E D G F N; decide
  by_cases h3 : w.a = 3
  · rw [h3]; revert E D G F N; decide
  by_cases h4 : w.a = 4
  · rw [h4]; revert E D G F N; decide
  by_cases h5 : w.a = 5
  · rw [h5]; revert E D G F N; decide
  by_cases h6 : w.a = 6
  · rw [h6]; revert E D G F N; decide
  rw [beq_eq_false_iff_ne.2 h1, beq_eq_false_iff_ne.2 h2, beq_eq_false_iff_ne.2 h3, beq_eq_false_iff_ne.2 h4, beq_eq_false_iff_ne.2 h5, beq_eq_false_iff_ne.2 h6]
  cases F <;> rfl
theorem nameOk_size {s : ByteArray} (h : nameOk s = true) : s.size ≤ 6 := by
  unfold nameOk at h
  simp only [Bool.and_eq_true] at h
  have := (inR_iff.1 h.2).2
  omega
theorem empty_size {s : ByteArray} (h : (s.toList == (ByteArray.mk #[]).toList) = true) : s.size = 0 := by
  rw [beq_iff_eq] at h
  rw [ByteArray.toList_eq, ByteArray.toList_eq] at h
  show s.data.size = 0
  rw [← Array.length_toList, h]; rfl
theorem okS_lim {w : RWord} (h : okS w = true) : Lim w := by
  unfold okS at h
  split at h
  · cases h
  rename_i hb
  split at h
  · cases h
  rename_i hc
  split at h
  · cases h
  rename_i hd
  split at h
  · cases h
  rename_i he
  split at h
  · cases h
  rename_i hg
  have hb := inR_iff.1 hb; have hc := inR_iff.1 hc; have hd := inR_iff.1 hd; have he := inR_iff.1 he
  have hg := of_decide_eq_false hg
  have mk : (1 ≤ w.a ∧ w.a ≤ 6) → w.f.size ≤ 6 → Lim w := fun h1 h2 => ⟨by omega, by omega, by omega, by omega, by omega, by omega, by omega, by omega, by omega, by omega, h2, by omega⟩
  split at h
  · rename_i k
    simp only [beq_iff_eq] at k
    split at h
    · cases h
    · rename_i hn; exact mk (by omega) (nameOk_size hn)
  · split at h
    · cases h
    · rename_i hf
      have hf : w.f.size ≤ 6 := by
        have := empty_size (s := w.f) (by simpa using hf)
        omega
      split at h
      · rename_i k; simp only [beq_iff_eq] at k; exact mk (by omega) hf
      split at h
      · rename_i k; simp only [beq_iff_eq] at k; exact mk (by omega) hf
      split at h
      · rename_i k; simp only [beq_iff_eq] at k; exact mk (by omega) hf
      split at h
      · rename_i k; simp only [beq_iff_eq] at k; exact mk (by omega) hf
      split at h
      · rename_i k; simp only [beq_iff_eq] at k; exact mk (by omega) hf
      · cases h
set_option maxHeartbeats 16000000 in
set_option maxRecDepth 100000 in
theorem specOk_ok (w : RWord) (hf : w.f.size ≤ 9223372036854775807) : Good Tryd.prog 17 [word w] [] (vbool (okS w)) [] := by
  refine good_e noM Tryd.func17 rfl rfl ?_
  unfold okS
  conv => whnf
  refine .mk _ _ false Tryd.call43 (l1In_ok _ _ _) (Nat.le_of_ble_eq_true rfl) (.inl rfl) ?_
  conv => whnf
  cases inR w.b 0 99999 with
  | false =>
    conv => whnf
    refine ⟨trivial, ?_⟩
    conv => whnf
    exact ⟨rfl, rfl⟩
  | true =>
    conv => whnf
    refine .mk _ _ false Tryd.call43 (l1In_ok _ _ _) (Nat.le_of_ble_eq_true rfl) (.inl rfl) ?_
    conv => whnf
    cases inR w.c 1 99999 with
    | false =>
      conv => whnf
      refine ⟨trivial, ?_⟩
      conv => whnf
      exact ⟨rfl, rfl⟩
    | true =>
      conv => whnf
      refine .mk _ _ false Tryd.call43 (l1In_ok _ _ _) (Nat.le_of_ble_eq_true rfl) (.inl rfl) ?_
      conv => whnf
      cases inR w.d 0 99999 with
      | false =>
        conv => whnf
        refine ⟨trivial, ?_⟩
        conv => whnf
        exact ⟨rfl, rfl⟩
      | true =>
        conv => whnf
        refine .mk _ _ false Tryd.call43 (l1In_ok _ _ _) (Nat.le_of_ble_eq_true rfl) (.inl rfl) ?_
        conv => whnf
        cases inR w.e 0 99999 with
        | false =>
          conv => whnf
          refine ⟨trivial, ?_⟩
          conv => whnf
          exact ⟨rfl, rfl⟩
        | true =>
          conv => whnf
          split
          · rename_i q23; rw [q23]
            conv => whnf
            refine ⟨trivial, ?_⟩
            conv => whnf
            exact ⟨rfl, rfl⟩
          · rename_i q23; rw [q23]
            conv => whnf
            cases k1 : (w.a == 1) with
            | true =>
              conv => whnf
              refine .mk _ _ false Tryd.call44 (specName_ok _ hf) (Nat.le_of_ble_eq_true rfl) (.inl rfl) ?_
              conv => whnf
              cases nameOk w.f with
              | false =>
                conv => whnf
                refine ⟨trivial, ?_⟩
                conv => whnf
                exact ⟨rfl, rfl⟩
              | true =>
                conv => whnf
                rw [k1]
                conv => whnf
                split
                · rename_i q10; rw [q10]
                  conv => whnf
                  refine ⟨trivial, ?_⟩
                  conv => whnf
                  exact ⟨rfl, rfl⟩
                · rename_i q10; rw [q10]
                  conv => whnf
                  refine ⟨trivial, ?_⟩
                  conv => whnf
                  exact ⟨rfl, rfl⟩
            | false =>
              conv => whnf
              split
              · rename_i q22; rw [q22]
                conv => whnf
                refine ⟨trivial, ?_⟩
                conv => whnf
                exact ⟨rfl, rfl⟩
              · rename_i q22; rw [q22]
                conv => whnf
                rw [k1]
                conv => whnf
                split
                · rename_i q21; rw [q21]
                  conv => whnf
                  split
                  · rename_i q11; rw [q11]
                    conv => whnf
                    refine ⟨trivial, ?_⟩
                    conv => whnf
                    exact ⟨rfl, rfl⟩
                  · rename_i q11; rw [q11]
                    conv => whnf
                    refine ⟨trivial, ?_⟩
                    conv => whnf
                    exact ⟨rfl, rfl⟩
                · rename_i q21; rw [q21]
                  conv => whnf
                  split
                  · rename_i q20; rw [q20]
                    conv => whnf
                    split
                    · rename_i q13; rw [q13]
                      conv => whnf
                      split
                      · rename_i q12; rw [q12]
                        conv => whnf
                        refine ⟨trivial, ?_⟩
                        conv => whnf
                        exact ⟨rfl, rfl⟩
                      · rename_i q12; rw [q12]
                        conv => whnf
                        refine ⟨trivial, ?_⟩
                        conv => whnf
                        exact ⟨rfl, rfl⟩
                    · rename_i q13; rw [q13]
                      conv => whnf
                      refine ⟨trivial, ?_⟩
                      conv => whnf
                      exact ⟨rfl, rfl⟩
                  · rename_i q20; rw [q20]
                    conv => whnf
                    split
                    · rename_i q19; rw [q19]
                      conv => whnf
                      split
                      · rename_i q14; rw [q14]
                        conv => whnf
                        refine ⟨trivial, ?_⟩
                        conv => whnf
                        exact ⟨rfl, rfl⟩
                      · rename_i q14; rw [q14]
                        conv => whnf
                        refine ⟨trivial, ?_⟩
                        conv => whnf
                        exact ⟨rfl, rfl⟩
                    · rename_i q19; rw [q19]
                      conv => whnf
                      split
                      · rename_i q18; rw [q18]
                        conv => whnf
                        split
                        · rename_i q15; rw [q15]
                          conv => whnf
                          refine ⟨trivial, ?_⟩
                          conv => whnf
                          exact ⟨rfl, rfl⟩
                        · rename_i q15; rw [q15]
                          conv => whnf
                          refine ⟨trivial, ?_⟩
                          conv => whnf
                          exact ⟨rfl, rfl⟩
                      · rename_i q18; rw [q18]
                        conv => whnf
                        split
                        · rename_i q17; rw [q17]
                          conv => whnf
                          split
                          · rename_i q16; rw [q16]
                            conv => whnf
                            refine ⟨trivial, ?_⟩
                            conv => whnf
                            exact ⟨rfl, rfl⟩
                          · rename_i q16; rw [q16]
                            conv => whnf
                            refine ⟨trivial, ?_⟩
                            conv => whnf
                            exact ⟨rfl, rfl⟩
                        · rename_i q17; rw [q17]
                          conv => whnf
                          refine ⟨trivial, ?_⟩
                          conv => whnf
                          exact ⟨rfl, rfl⟩
end Go.Abs.D
