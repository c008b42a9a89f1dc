import Derived.Test.YtbpmfdpbgcpjeaaGCat3
set_option linter.unusedSimpArgs false
set_option linter.unusedVariables false
namespace Go.Abs.C
open Go Go.Abs Go.Proofs
attribute [local irreducible] IntKind.wrap

theorem small_of {l : Is} (h : ∀ j, j < l.length → itemOk (ia l j) = true) : ∀ x ∈ l, x.d.size ≤ 1000 := by
  intro x hx
  obtain ⟨k, hk, rfl⟩ := List.mem_iff_getElem.1 hx
  have := h k hk
  rw [ia_lt hk] at this
  unfold itemOk at this
  simp only [Bool.and_eq_true] at this
  have := (inR_iff.1 this.2.2).2
  omega
theorem ItemAt.of {l : Is} {last : Int} {i : Nat} (h1 : itemOk (ia l i) = true) (h2 : inR (ia l i).c 1 last = true) (h3 : 0 < i → less (ia l (i - 1)) (ia l i).a (ia l i).b = true) (h4 : ∀ k, k < i → (ia l k).c ≠ (ia l i).c) : ItemAt l last i := ⟨h1, h2, h3, h4⟩
set_option maxHeartbeats 16000000 in
set_option maxRecDepth 100000 in
theorem specOk_ok (l : Is) (last : Int) (hl : l.length < 1100000) (hs : ∀ x ∈ l, x.b.size ≤ 9223372036854775807) : Good Try.prog 14 [cat l last] [] (vbool (catOk l last)) [] := by
  have hm : (l.map encItem).length = l.length := by rw [List.length_map]
  have hsi : ∀ i, i < l.length → (ia l i).b.size ≤ 9223372036854775807 := fun i hi => by rw [ia_lt hi]; exact hs _ (List.getElem_mem hi)
  refine good_e noM Try.func14 rfl rfl ?_
  conv => whnf
  refine .mk _ _ false Try.call36 (l1In_ok _ _ _) (Nat.le_of_ble_eq_true rfl) (.inl rfl) ?_
  conv => whnf
  cases h0 : inR last 0 99999 with
  | false =>
    conv => whnf
    refine ⟨trivial, ?_⟩
    conv => whnf
    rw [catOk_false (fun p => by rw [p.lst] at h0; cases h0)]
    exact ⟨rfl, rfl⟩
  | true =>
    conv => whnf
    split
    · rename_i q
      have q' := of_decide_eq_true q
      conv => whnf
      refine ⟨trivial, ?_⟩
      conv => whnf
      rw [catOk_false (fun p => by have := p.len; omega)]
      exact ⟨rfl, rfl⟩
    · rename_i q
      have q' := of_decide_eq_false q
      have hl8 : l.length ≤ 8 := by omega
      conv => whnf
      refine VLoop.enter [1, 3] ?_
      conv => whnf
      refine VLoop.ind1 (n0 := 1) (α := Int) noM [1, 3] (fun a => ⟨81, 0, [(1, .one (.hp 0 0 0)), (3, vint a)], [(0, some (.box [.p (.lit (.int .i64 last)), .p (.sl (l.map encItem))]))]⟩)
        (fun a => ∃ i : Nat, a = i ∧ i ≤ l.length ∧ ∀ k, k < i → ItemAt l last k) (fun a => ((l.length : Int) - a).toNat) ?_ 0 ⟨0, rfl, by omega, fun k hk => by omega⟩
      rintro _ ⟨i, rfl, hi, hp⟩
      conv => whnf
      split
      · rename_i q1
        have q1' := of_decide_eq_true q1
        have hil : i < l.length := by omega
        have en : (i : Int).toNat = i := Int.toNat_natCast i
        have hw : IntKind.i64.wrap ((i : Int) + 1) = i + 1 := wi _ (by omega) (by omega)
        conv => whnf
        refine ⟨by omega, by omega, _, ia_at l en hil, ?_⟩
        conv => whnf
        refine VDraw.go ⟨_, [0, 1, 3, 7, 15, 31, 15, 79, 255, 511, 1023, 2047, 4095, 8191, 16383, 32767, 65535, 32767, 163839, 524287, 1048575, 32767, 2129919, 32767, 8421375, 33554431, 67108863, 134217727, 268435455], [1, 8, 25], []⟩ rfl rfl (by decide +kernel) ?_
        conv => whnf
        refine .mk _ _ false Try.call37 (l9Ok_ok _ (hsi i hil)) (Nat.le_of_ble_eq_true rfl) (.inl rfl) ?_
        conv => whnf
        cases h1 : itemOk (ia l i) with
        | false =>
          conv => whnf
          refine ⟨trivial, ?_⟩
          conv => whnf
          rw [catOk_false (fun p => by rw [(p.at_ i hil).ok] at h1; cases h1)]
          exact ⟨rfl, rfl⟩
        | true =>
          conv => whnf
          refine .mk _ _ false Try.call36 (l1In_ok _ _ _) (Nat.le_of_ble_eq_true rfl) (.inl rfl) ?_
          conv => whnf
          cases h2 : inR (ia l i).c 1 last with
          | false =>
            conv => whnf
            refine ⟨trivial, ?_⟩
            conv => whnf
            rw [catOk_false (fun p => by rw [(p.at_ i hil).ed] at h2; cases h2)]
            exact ⟨rfl, rfl⟩
          | true =>
            conv => whnf
            split
            · rename_i q2
              have q2' := of_decide_eq_true q2
              have hw1 : IntKind.i64.wrap ((i : Int) - 1) = ((i - 1 : Nat) : Int) := by rw [wi _ (by omega) (by omega)]; omega
              have en1 : ((i - 1 : Nat) : Int).toNat = i - 1 := Int.toNat_natCast _
              conv => whnf
              rw [hw1]
              refine ⟨by omega, by omega, _, ia_at l en1 (by omega), ?_⟩
              conv => whnf
              refine .mk _ _ false Try.call38 (l9Less_ok _ _ _) (Nat.le_of_ble_eq_true rfl) (.inl rfl) ?_
              conv => whnf
              cases h3 : less (ia l (i - 1)) (ia l i).a (ia l i).b with
              | false =>
                conv => whnf
                refine ⟨trivial, ?_⟩
                conv => whnf
                rw [catOk_false (fun p => by rw [(p.at_ i hil).ord (by omega)] at h3; cases h3)]
                exact ⟨rfl, rfl⟩
              | true =>
                conv => whnf
                refine VLoop.enter [1, 3, 4, 5] ?_
                conv => whnf
                refine VLoop.ind1 (n0 := 2) (α := Int) noM [1, 3, 4, 5] (fun a => ⟨81, 0, [(1, .one (.hp 0 0 0)), (3, vint i), (4, .one (.hp 1 0 0)), (5, vint a)], [(0, some (.box [.p (.lit (.int .i64 last)), .p (.sl (l.map encItem))])), (1, some (.box ((encItem (ia l i)).map .p)))]⟩)
                  (fun a => ∃ k : Nat, a = k ∧ k ≤ i ∧ ∀ j, j < k → (ia l j).c ≠ (ia l i).c) (fun a => ((i : Int) - a).toNat) ?_ 0 ⟨0, rfl, by omega, fun k hk => by omega⟩
                rintro _ ⟨k, rfl, hk, hn⟩
                conv => whnf
                split
                · rename_i q4
                  have q4' := of_decide_eq_true q4
                  have enk : (k : Int).toNat = k := Int.toNat_natCast k
                  have hwk : IntKind.i64.wrap ((k : Int) + 1) = k + 1 := wi _ (by omega) (by omega)
                  conv => whnf
                  refine VDraw.go ⟨_, [0, 1, 0, 7, 15, 31, 0, 64, 255], [], []⟩ rfl rfl (by decide +kernel) ?_
                  conv => whnf
                  refine ⟨by omega, by omega, _, ia_at l enk (by omega), ?_⟩
                  conv => whnf
                  split
                  · rename_i q5
                    simp only [beq_iff_eq] at q5
                    conv => whnf
                    refine ⟨trivial, ?_⟩
                    conv => whnf
                    rw [catOk_false (fun p => (p.at_ i hil).new k (by omega) q5)]
                    exact ⟨rfl, rfl⟩
                  · rename_i q5
                    simp only [beq_eq_false_iff_ne] at q5
                    conv => whnf
                    refine ⟨_, rfl, rfl, ⟨k + 1, by rw [hwk]; simp, by omega, fun j hj => ?_⟩, by rw [hwk]; omega⟩
                    by_cases e : j = k
                    · subst e; exact q5
                    · exact hn j (by omega)
                · rename_i q4
                  have q4' := of_decide_eq_false q4
                  conv => whnf
                  refine ⟨_, rfl, rfl, ⟨i + 1, by rw [hw]; simp, by omega, fun j hj => ?_⟩, by rw [hw]; omega⟩
                  by_cases e : j = i
                  · subst e; exact .of h1 h2 (fun _ => h3) (fun k2 hk2 => hn k2 (by omega))
                  · exact hp j (by omega)
            · rename_i q2
              have q2' := of_decide_eq_false q2
              conv => whnf
              refine VLoop.enter [1, 3, 4, 5] ?_
              conv => whnf
              refine VLoop.ind1 (n0 := 2) (α := Int) noM [1, 3, 4, 5] (fun a => ⟨81, 0, [(1, .one (.hp 0 0 0)), (3, vint i), (4, .one (.hp 1 0 0)), (5, vint a)], [(0, some (.box [.p (.lit (.int .i64 last)), .p (.sl (l.map encItem))])), (1, some (.box ((encItem (ia l i)).map .p)))]⟩)
                (fun a => ∃ k : Nat, a = k ∧ k ≤ i ∧ ∀ j, j < k → (ia l j).c ≠ (ia l i).c) (fun a => ((i : Int) - a).toNat) ?_ 0 ⟨0, rfl, by omega, fun k hk => by omega⟩
              rintro _ ⟨k, rfl, hk, hn⟩
              conv => whnf
              split
              · rename_i q4
                have q4' := of_decide_eq_true q4
                have enk : (k : Int).toNat = k := Int.toNat_natCast k
                have hwk : IntKind.i64.wrap ((k : Int) + 1) = k + 1 := wi _ (by omega) (by omega)
                conv => whnf
                refine VDraw.go ⟨_, [0, 1, 0, 7, 15, 31, 0, 64, 255], [], []⟩ rfl rfl (by decide +kernel) ?_
                conv => whnf
                refine ⟨by omega, by omega, _, ia_at l enk (by omega), ?_⟩
                conv => whnf
                split
                · rename_i q5
                  simp only [beq_iff_eq] at q5
                  conv => whnf
                  refine ⟨trivial, ?_⟩
                  conv => whnf
                  rw [catOk_false (fun p => (p.at_ i hil).new k (by omega) q5)]
                  exact ⟨rfl, rfl⟩
                · rename_i q5
                  simp only [beq_eq_false_iff_ne] at q5
                  conv => whnf
                  refine ⟨_, rfl, rfl, ⟨k + 1, by rw [hwk]; simp, by omega, fun j hj => ?_⟩, by rw [hwk]; omega⟩
                  by_cases e : j = k
                  · subst e; exact q5
                  · exact hn j (by omega)
              · rename_i q4
                have q4' := of_decide_eq_false q4
                conv => whnf
                refine ⟨_, rfl, rfl, ⟨i + 1, by rw [hw]; simp, by omega, fun j hj => ?_⟩, by rw [hw]; omega⟩
                by_cases e : j = i
                · subst e; exact .of h1 h2 (fun q => absurd q (by omega)) (fun k2 hk2 => hn k2 (by omega))
                · exact hp j (by omega)
      · rename_i q1
        have q1' := of_decide_eq_false q1
        have hall : ∀ k, k < l.length → ItemAt l last k := fun k hk => hp k (by omega)
        have hsm := small_of fun k hk => (hall k hk).ok
        have w1 : IntKind.i64.wrap (0 + 1) = 1 := wi _ (by omega) (by omega)
        have w2 : IntKind.i64.wrap (1 + 1) = 2 := wi _ (by omega) (by omega)
        conv => whnf
        refine VLoop.step noM ?_
        conv => whnf
        refine .mk _ _ false Try.call39 (l9Bytes_ok l 0 (by omega) hsm) (Nat.le_of_ble_eq_true rfl) (.inl rfl) ?_
        conv => whnf
        split
        · rename_i q2
          have q2' := of_decide_eq_true q2
          conv => whnf
          refine ⟨trivial, ?_⟩
          conv => whnf
          rw [catOk_false (fun p => by have := p.b0; omega)]
          exact ⟨rfl, rfl⟩
        · rename_i q2
          have q2' := of_decide_eq_false q2
          conv => whnf
          refine VLoop.step noM ?_
          conv => whnf
          rw [w1]
          conv => whnf
          refine .mk _ _ false Try.call39 (l9Bytes_ok l 1 (by omega) hsm) (Nat.le_of_ble_eq_true rfl) (.inl rfl) ?_
          conv => whnf
          split
          · rename_i q3
            have q3' := of_decide_eq_true q3
            conv => whnf
            refine ⟨trivial, ?_⟩
            conv => whnf
            rw [catOk_false (fun p => by have := p.b1; omega)]
            exact ⟨rfl, rfl⟩
          · rename_i q3
            have q3' := of_decide_eq_false q3
            conv => whnf
            refine VLoop.step noM ?_
            conv => whnf
            rw [w2]
            conv => whnf
            refine ⟨trivial, ?_⟩
            conv => whnf
            rw [catOk_true ⟨h0, hl8, hall, by omega, by omega⟩]
            exact ⟨rfl, rfl⟩
end Go.Abs.C
