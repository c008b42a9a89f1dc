import Derived.Test.YtbpmfdpbgcpjeaaGCat4
set_option linter.unusedSimpArgs false
set_option linter.unusedVariables false
namespace Go.Abs.C
open Go Go.Abs Go.Proofs
attribute [local irreducible] IntKind.wrap

set_option maxHeartbeats 16000000 in
set_option maxRecDepth 100000 in
theorem implOk_ok (l : Is) (last : Int) (hl : l.length < 1100000) (hs : ∀ x ∈ l, x.b.size ≤ 9223372036854775807) : Good Try.prog 16 [cat l last] [] (vbool (catOk l last)) [] := by
  have hm : (l.map encItem).length = l.length := by rw [List.length_map]
  have hsi : ∀ i, i < l.length → (ia l i).b.size ≤ 9223372036854775807 := fun i hi => by rw [ia_lt hi]; exact hs _ (List.getElem_mem hi)
  refine good_e noM Try.func16 rfl rfl ?_
  conv => whnf
  refine .mk _ _ false Try.call41 (within_ok _ _ _) (Nat.le_of_ble_eq_true rfl) (.inl rfl) ?_
  conv => whnf
  cases h0 : inR last 0 99999 with
  | false =>
    conv => whnf
    refine ⟨trivial, ?_⟩
    conv => whnf
    rw [catOk_false (fun p => by rw [p.lst] at h0; cases h0)]
    exact ⟨rfl, rfl⟩
  | true =>
    conv => whnf
    split
    · rename_i q
      have q' := of_decide_eq_true q
      conv => whnf
      refine ⟨trivial, ?_⟩
      conv => whnf
      rw [catOk_false (fun p => by have := p.len; omega)]
      exact ⟨rfl, rfl⟩
    · rename_i q
      have q' := of_decide_eq_false q
      have hl8 : l.length ≤ 8 := by omega
      conv => whnf
      refine VLoop.enter [1, 17, 18, 19] ?_
      conv => whnf
      refine VLoop.ind1 (n0 := 1) (α := Int) noM [1, 17, 18, 19] (fun a => ⟨72, 0, [(1, .one (.hp 0 0 0)), (17, .one (.p (.sl (l.map encItem)))), (18, vint (l.map encItem).length), (19, vint a)], [(0, some (.box [.p (.lit (.int .i64 last)), .p (.sl (l.map encItem))]))]⟩)
        (fun a => ∃ i : Nat, a = i ∧ i ≤ l.length ∧ ∀ k, k < i → ItemAt l last k) (fun a => ((l.length : Int) - a).toNat) ?_ 0 ⟨0, rfl, by omega, fun k hk => by omega⟩
      rintro _ ⟨i, rfl, hi, hp⟩
      conv => whnf
      split
      · rename_i q1
        have q1' := of_decide_eq_true q1
        have hil : i < l.length := by omega
        have en : (i : Int).toNat = i := Int.toNat_natCast i
        have hw : IntKind.i64.wrap ((i : Int) + 1) = i + 1 := wi _ (by omega) (by omega)
        conv => whnf
        refine ⟨by omega, by omega, _, ia_at l en hil, ?_⟩
        conv => whnf
        refine VDraw.go ⟨_, [0, 1, 0, 4, 0, 16, 63, 127, 255, 511, 1023, 511, 2559, 8191, 16383, 32767, 65535, 131071, 131071, 393215, 1048575, 131071, 4194303, 8388607, 16777215, 33554431, 67108863, 134217727, 268435455, 536870911, 268435455, 1342177279, 4294967295, 8589934591, 268435455, 34359738367, 68719476735, 137438953471, 274877906943], [6, 13, 20, 35], []⟩ rfl rfl (by decide +kernel) ?_
        conv => whnf
        refine .mk _ _ false Try.call42 (publ_ok _ (hsi i hil)) (Nat.le_of_ble_eq_true rfl) (.inl rfl) ?_
        conv => whnf
        cases h1 : itemOk (ia l i) with
        | false =>
          conv => whnf
          refine ⟨trivial, ?_⟩
          conv => whnf
          rw [catOk_false (fun p => by rw [(p.at_ i hil).ok] at h1; cases h1)]
          exact ⟨rfl, rfl⟩
        | true =>
          conv => whnf
          refine .mk _ _ false Try.call41 (within_ok _ _ _) (Nat.le_of_ble_eq_true rfl) (.inl rfl) ?_
          conv => whnf
          cases h2 : inR (ia l i).c 1 last with
          | false =>
            conv => whnf
            refine ⟨trivial, ?_⟩
            conv => whnf
            rw [catOk_false (fun p => by rw [(p.at_ i hil).ed] at h2; cases h2)]
            exact ⟨rfl, rfl⟩
          | true =>
            conv => whnf
            refine .mk _ _ false Try.call43 (edition_ok l last _ hl) (Nat.le_of_ble_eq_true rfl) (.inl rfl) ?_
            conv => whnf
            split
            · rename_i q2
              simp only [bne_iff_ne] at q2
              conv => whnf
              refine ⟨trivial, ?_⟩
              conv => whnf
              rw [catOk_false (fun p => q2 (edit_self p hil))]
              exact ⟨rfl, rfl⟩
            · rename_i q2
              simp only [bne_eq_false_iff_eq] at q2
              have hnew : ∀ k, k < i → (ia l k).c ≠ (ia l i).c := by
                have hfi := findI_pos (p := fun x => x.c == (ia l i).c) (l := l) (by omega)
                rw [q2, Int.toNat_natCast] at hfi
                intro k hk
                have := hfi.2.2 k hk
                simpa using this
              conv => whnf
              split
              · rename_i q3
                have q3' := of_decide_eq_true q3
                have hw1 : IntKind.i64.wrap ((i : Int) - 1) = ((i - 1 : Nat) : Int) := by rw [wi _ (by omega) (by omega)]; omega
                have en1 : ((i - 1 : Nat) : Int).toNat = i - 1 := Int.toNat_natCast _
                conv => whnf
                rw [hw1]
                refine ⟨by omega, by omega, _, ia_at l en1 (by omega), ?_⟩
                conv => whnf
                refine .mk _ _ false Try.call44 (order_ok _ _) (Nat.le_of_ble_eq_true rfl) (.inl rfl) ?_
                conv => whnf
                have hord := @ordI_neg (ia l (i - 1)) (ia l i)
                split
                · rename_i q4
                  have q4' := of_decide_eq_true q4
                  conv => whnf
                  refine ⟨trivial, ?_⟩
                  conv => whnf
                  rw [catOk_false (fun p => by have := hord.2 ((p.at_ i hil).ord (by omega)); omega)]
                  exact ⟨rfl, rfl⟩
                · rename_i q4
                  have q4' := of_decide_eq_false q4
                  conv => whnf
                  refine ⟨_, rfl, rfl, ⟨i + 1, by rw [hw]; simp, by omega, fun j hj => ?_⟩, by rw [hw]; omega⟩
                  by_cases e : j = i
                  · subst e; exact .of h1 h2 (fun _ => hord.1 (by omega)) hnew
                  · exact hp j (by omega)
              · rename_i q3
                have q3' := of_decide_eq_false q3
                conv => whnf
                refine ⟨_, rfl, rfl, ⟨i + 1, by rw [hw]; simp, by omega, fun j hj => ?_⟩, by rw [hw]; omega⟩
                by_cases e : j = i
                · subst e; exact .of h1 h2 (fun q => absurd q (by omega)) hnew
                · exact hp j (by omega)
      · rename_i q1
        have q1' := of_decide_eq_false q1
        have hall : ∀ k, k < l.length → ItemAt l last k := fun k hk => hp k (by omega)
        have hsm := small_of fun k hk => (hall k hk).ok
        have w1 : IntKind.i64.wrap (0 + 1) = 1 := wi _ (by omega) (by omega)
        have w2 : IntKind.i64.wrap (1 + 1) = 2 := wi _ (by omega) (by omega)
        conv => whnf
        refine VLoop.step noM ?_
        conv => whnf
        refine .mk _ _ false Try.call45 (bytes_ok l last 0 (by omega) hsm) (Nat.le_of_ble_eq_true rfl) (.inl rfl) ?_
        conv => whnf
        split
        · rename_i q2
          have q2' := of_decide_eq_true q2
          conv => whnf
          refine ⟨trivial, ?_⟩
          conv => whnf
          rw [catOk_false (fun p => by have := p.b0; omega)]
          exact ⟨rfl, rfl⟩
        · rename_i q2
          have q2' := of_decide_eq_false q2
          conv => whnf
          refine VLoop.step noM ?_
          conv => whnf
          rw [w1]
          conv => whnf
          refine .mk _ _ false Try.call45 (bytes_ok l last 1 (by omega) hsm) (Nat.le_of_ble_eq_true rfl) (.inl rfl) ?_
          conv => whnf
          split
          · rename_i q3
            have q3' := of_decide_eq_true q3
            conv => whnf
            refine ⟨trivial, ?_⟩
            conv => whnf
            rw [catOk_false (fun p => by have := p.b1; omega)]
            exact ⟨rfl, rfl⟩
          · rename_i q3
            have q3' := of_decide_eq_false q3
            conv => whnf
            refine VLoop.step noM ?_
            conv => whnf
            rw [w2]
            conv => whnf
            refine ⟨trivial, ?_⟩
            conv => whnf
            rw [catOk_true ⟨h0, hl8, hall, by omega, by omega⟩]
            exact ⟨rfl, rfl⟩
end Go.Abs.C
