import Derived.Test.YtfhcoohdmjfkbaaDoorGW4
set_option linter.unusedSimpArgs false
set_option linter.unusedVariables false
namespace Go.Abs.D
open Go Go.Abs Go.Proofs
attribute [local irreducible] IntKind.wrap

@[reducible] def daB (w : RWord) : Bool := !(w.g.toList == (ByteArray.mk #[]).toList)
@[reducible] def nmB (w : RWord) : Bool := !(w.f.toList == (ByteArray.mk #[]).toList)
def okI (w : RWord) : Bool := match inR w.b 0 99999 with
  | false => false
  | true => match inR w.d 0 99999 with
  | false => false
  | true => match inR w.e 0 99999 with
  | false => false
  | true => match inR w.c 1 99999 with
  | false => false
  | true => match decide ((w.g.size : Int) > 80) with
  | true => false
  | false => match w.a == 1 with
    | true => (match nameOk w.f with
      | false => false
      | true => match !decide (w.e > 0) with
        | true => !(!(w.g.toList == (ByteArray.mk #[]).toList))
        | false => false)
    | false => match w.a == 2 with
      | true => (match decide (w.d > 0) with
        | true => (match !(w.g.toList == (ByteArray.mk #[]).toList) with
          | true => (match !decide (w.e > 0) with
            | true => !(!(w.f.toList == (ByteArray.mk #[]).toList))
            | false => false)
          | false => false)
        | false => false)
      | false => match w.a == 3 with
        | true => (match decide (w.d > 0) with
          | true => (match !(w.g.toList == (ByteArray.mk #[]).toList) with
            | true => !(!(w.f.toList == (ByteArray.mk #[]).toList))
            | false => false)
          | false => false)
        | false => match w.a == 4 with
          | true => (match decide (w.d > 0) with
            | true => (match !(!(w.f.toList == (ByteArray.mk #[]).toList)) with
              | true => !(!(w.g.toList == (ByteArray.mk #[]).toList))
              | false => false)
            | false => false)
          | false => match w.a == 5 with
            | true => (match decide (w.d > 0) with
              | true => (match !(!(w.f.toList == (ByteArray.mk #[]).toList)) with
                | true => !(!(w.g.toList == (ByteArray.mk #[]).toList))
                | false => false)
              | false => false)
            | false => match w.a == 6 with
              | true => (match !decide (w.e > 0) with
                | true => (match !(!(w.f.toList == (ByteArray.mk #[]).toList)) with
                  | true => !(!(w.g.toList == (ByteArray.mk #[]).toList))
                  | false => false)
                | false => false)
              | false => false
set_option maxHeartbeats 16000000 in
set_option maxRecDepth 100000 in
theorem implOk_ok (w : RWord) (hf : w.f.size ≤ 9223372036854775807) : Good Tryd.prog 18 [word w] [] (vbool (okI w)) [] := by
  refine good_e noM Tryd.func18 rfl rfl ?_
  unfold okI
  conv => whnf
  refine .mk _ _ false Tryd.call45 (within_ok _ _ _) (Nat.le_of_ble_eq_true rfl) (.inl rfl) ?_
  conv => whnf
  cases inR w.b 0 99999 with
  | false =>
    conv => whnf
    refine ⟨trivial, ?_⟩
    conv => whnf
    exact ⟨rfl, rfl⟩
  | true =>
    conv => whnf
    refine .mk _ _ false Tryd.call45 (within_ok _ _ _) (Nat.le_of_ble_eq_true rfl) (.inl rfl) ?_
    conv => whnf
    cases inR w.d 0 99999 with
    | false =>
      conv => whnf
      refine ⟨trivial, ?_⟩
      conv => whnf
      exact ⟨rfl, rfl⟩
    | true =>
      conv => whnf
      refine .mk _ _ false Tryd.call45 (within_ok _ _ _) (Nat.le_of_ble_eq_true rfl) (.inl rfl) ?_
      conv => whnf
      cases inR w.e 0 99999 with
      | false =>
        conv => whnf
        refine ⟨trivial, ?_⟩
        conv => whnf
        exact ⟨rfl, rfl⟩
      | true =>
        conv => whnf
        refine .mk _ _ false Tryd.call45 (within_ok _ _ _) (Nat.le_of_ble_eq_true rfl) (.inl rfl) ?_
        conv => whnf
        cases inR w.c 1 99999 with
        | false =>
          conv => whnf
          refine ⟨trivial, ?_⟩
          conv => whnf
          exact ⟨rfl, rfl⟩
        | true =>
          conv => whnf
          split
          · rename_i q19; rw [q19]
            conv => whnf
            refine ⟨trivial, ?_⟩
            conv => whnf
            exact ⟨rfl, rfl⟩
          · rename_i q19; rw [q19]
            conv => whnf
            refine VDraw.go ⟨_, [0, 1, 3, 0, 8, 24, 0, 64, 192, 0, 512, 1536, 7, 4159, 12799, 32767], [], []⟩ rfl rfl (by decide +kernel) ?_
            conv => whnf
            split
            · rename_i q18; rw [q18]
              conv => whnf
              refine .mk _ _ false Tryd.call46 (implName_ok _ hf) (Nat.le_of_ble_eq_true rfl) (.inl rfl) ?_
              conv => whnf
              cases nameOk w.f with
              | false =>
                conv => whnf
                refine ⟨trivial, ?_⟩
                conv => whnf
                exact ⟨rfl, rfl⟩
              | true =>
                conv => whnf
                split
                · rename_i q1; rw [q1]
                  conv => whnf
                  refine ⟨trivial, ?_⟩
                  conv => whnf
                  exact ⟨rfl, rfl⟩
                · rename_i q1; rw [q1]
                  conv => whnf
                  refine ⟨trivial, ?_⟩
                  conv => whnf
                  exact ⟨rfl, rfl⟩
            · rename_i q18; rw [q18]
              conv => whnf
              split
              · rename_i q17; rw [q17]
                conv => whnf
                split
                · rename_i q4; rw [q4]
                  conv => whnf
                  split
                  · rename_i q3; rw [q3]
                    conv => whnf
                    split
                    · rename_i q2; rw [q2]
                      conv => whnf
                      refine ⟨trivial, ?_⟩
                      conv => whnf
                      exact ⟨rfl, rfl⟩
                    · rename_i q2; rw [q2]
                      conv => whnf
                      refine ⟨trivial, ?_⟩
                      conv => whnf
                      exact ⟨rfl, rfl⟩
                  · rename_i q3; rw [q3]
                    conv => whnf
                    refine ⟨trivial, ?_⟩
                    conv => whnf
                    exact ⟨rfl, rfl⟩
                · rename_i q4; rw [q4]
                  conv => whnf
                  refine ⟨trivial, ?_⟩
                  conv => whnf
                  exact ⟨rfl, rfl⟩
              · rename_i q17; rw [q17]
                conv => whnf
                split
                · rename_i q16; rw [q16]
                  conv => whnf
                  split
                  · rename_i q6; rw [q6]
                    conv => whnf
                    split
                    · rename_i q5; rw [q5]
                      conv => whnf
                      refine ⟨trivial, ?_⟩
                      conv => whnf
                      exact ⟨rfl, rfl⟩
                    · rename_i q5; rw [q5]
                      conv => whnf
                      refine ⟨trivial, ?_⟩
                      conv => whnf
                      exact ⟨rfl, rfl⟩
                  · rename_i q6; rw [q6]
                    conv => whnf
                    refine ⟨trivial, ?_⟩
                    conv => whnf
                    exact ⟨rfl, rfl⟩
                · rename_i q16; rw [q16]
                  conv => whnf
                  split
                  · rename_i q15; rw [q15]
                    conv => whnf
                    split
                    · rename_i q8; rw [q8]
                      conv => whnf
                      split
                      · rename_i q7; rw [q7]
                        conv => whnf
                        refine ⟨trivial, ?_⟩
                        conv => whnf
                        exact ⟨rfl, rfl⟩
                      · rename_i q7; rw [q7]
                        conv => whnf
                        refine ⟨trivial, ?_⟩
                        conv => whnf
                        exact ⟨rfl, rfl⟩
                    · rename_i q8; rw [q8]
                      conv => whnf
                      refine ⟨trivial, ?_⟩
                      conv => whnf
                      exact ⟨rfl, rfl⟩
                  · rename_i q15; rw [q15]
                    conv => whnf
                    split
                    · rename_i q14; rw [q14]
                      conv => whnf
                      split
                      · rename_i q10; rw [q10]
                        conv => whnf
                        split
                        · rename_i q9; rw [q9]
                          conv => whnf
                          refine ⟨trivial, ?_⟩
                          conv => whnf
                          exact ⟨rfl, rfl⟩
                        · rename_i q9; rw [q9]
                          conv => whnf
                          refine ⟨trivial, ?_⟩
                          conv => whnf
                          exact ⟨rfl, rfl⟩
                      · rename_i q10; rw [q10]
                        conv => whnf
                        refine ⟨trivial, ?_⟩
                        conv => whnf
                        exact ⟨rfl, rfl⟩
                    · rename_i q14; rw [q14]
                      conv => whnf
                      split
                      · rename_i q13; rw [q13]
                        conv => whnf
                        split
                        · rename_i q12; rw [q12]
                          conv => whnf
                          split
                          · rename_i q11; rw [q11]
                            conv => whnf
                            refine ⟨trivial, ?_⟩
                            conv => whnf
                            exact ⟨rfl, rfl⟩
                          · rename_i q11; rw [q11]
                            conv => whnf
                            refine ⟨trivial, ?_⟩
                            conv => whnf
                            exact ⟨rfl, rfl⟩
                        · rename_i q12; rw [q12]
                          conv => whnf
                          refine ⟨trivial, ?_⟩
                          conv => whnf
                          exact ⟨rfl, rfl⟩
                      · rename_i q13; rw [q13]
                        conv => whnf
                        refine ⟨trivial, ?_⟩
                        conv => whnf
                        exact ⟨rfl, rfl⟩
end Go.Abs.D
