import Derived.Test.YtilogdijodgcgaaDoorGLog3
set_option linter.unusedSimpArgs false
set_option linter.unusedVariables false
namespace Go.Abs.E
open Go Go.Abs Go.Proofs Go.RowKit
attribute [local irreducible] IntKind.wrap
attribute [local irreducible] lineS hashS
theorem find32_ok (s : ByteArray) (hs : s.size ≤ 281474976710656) (i : Nat) (hi : i ≤ 281474976710656) : Good Tryd.prog 55 [vstr s, vint (i : Int), lit (.int .u8 32)] [] (vint (findB 32 s.data.toList i)) [] := l7Find_ok s hs i hi 32
theorem rec_none {log : ByteArray} {at_ n : Nat} {o : Option ByteArray} (ho : ∀ r, o = some r ↔ IsRec log at_ n r) (h : ∀ r, ¬ IsRec log at_ n r) : o = none := by
  cases o with
  | none => rfl
  | some w => exact (h w ((ho w).1 rfl)).elim
def lenO (n : Nat) (o : Option ByteArray) : Nat := match o with
  | some r => (lineS n r).size
  | none => 0
set_option maxHeartbeats 16000000 in
set_option maxRecDepth 100000 in
theorem next_ok (log : ByteArray) (hs : log.size ≤ 2000000) (at0 n : Nat) (hat : at0 ≤ log.size) (hn : n < 100000) (o : Option ByteArray) (ho : ∀ r, o = some r ↔ IsRec log at0 n r) :
    Good Tryd.prog 44 [vstr log, vint (at0 : Int), vint (n : Int)] [] (.tup [vstr (o.getD ⟨#[]⟩), vint (lenO n o : Int)]) [] := by
  have hl := szl log
  have hdn := dn_len hn
  refine good_e noM Tryd.func44 rfl rfl ?_
  conv => whnf
  refine .mk _ _ false Tryd.call55 (find32_ok log (by omega) at0 (by omega)) (Nat.le_of_ble_eq_true rfl) (.inl rfl) ?_
  conv => whnf
  cases hx : idx 32 (log.data.toList.drop at0) with
  | none =>
    have e : findB 32 log.data.toList at0 = -1 := by unfold findB; rw [hx]
    obtain rfl := rec_none ho fun r hr => by have := hr.idx1; rw [hx] at this; cases this
    rw [e]
    conv => whnf
    refine ⟨trivial, ?_⟩
    conv => whnf
    exact ⟨rfl, rfl⟩
  | some k =>
    have e : findB 32 log.data.toList at0 = ((at0 + k : Nat) : Int) := by unfold findB; rw [hx]
    have hk := (idx_some hx).1
    rw [List.length_drop] at hk
    rw [e]
    conv => whnf
    refine ⟨⟨by omega, by omega, by omega⟩, ?_⟩
    conv => whnf
    have hex : log.extract (at0 : Int).toNat ((at0 + k : Nat) : Int).toNat = mkS ((log.data.toList.drop at0).take k) := by
      rw [extract_eq, Int.toNat_natCast, Int.toNat_natCast, Nat.add_sub_cancel_left]
    have hsz : (mkS ((log.data.toList.drop at0).take k)).size ≤ log.size := by rw [mkS_size, List.length_take, List.length_drop]; omega
    rw [hex]
    refine .mk _ _ false Tryd.call56 (l5Num_ok (mkS ((log.data.toList.drop at0).take k)) (by omega)) (Nat.le_of_ble_eq_true rfl) (.inl rfl) ?_
    conv => whnf
    have hkd : ∀ r, IsRec log at0 n r → k = (dn n).length ∧ (log.data.toList.drop at0).take k = dn n := fun r hr => by
      have h1 := hr.idx1
      rw [hx] at h1
      obtain rfl := Option.some.inj h1
      exact ⟨rfl, hr.take1⟩
    by_cases hne : numS (mkS ((log.data.toList.drop at0).take k)) = (n : Int)
    rotate_left
    · rw [show (numS (mkS ((log.data.toList.drop at0).take k)) != (n : Int)) = true from bne_iff_ne.2 hne]
      obtain rfl := rec_none ho fun r hr => by rw [(hkd r hr).2] at hne; exact hne (numS_dn hn)
      conv => whnf
      refine ⟨trivial, ?_⟩
      conv => whnf
      exact ⟨rfl, rfl⟩
    rw [hne]
    rw [show ((n : Int) != (n : Int)) = false by simp]
    conv => whnf
    have hw1 : IntKind.i64.wrap (((at0 + k : Nat) : Int) + 1) = ((at0 + k + 1 : Nat) : Int) := by rw [wrap_in _ (by omega) (by omega)]; omega
    rw [hw1]
    refine .mk _ _ false Tryd.call55 (find32_ok log (by omega) (at0 + k + 1) (by omega)) (Nat.le_of_ble_eq_true rfl) (.inl rfl) ?_
    conv => whnf
    cases hx2 : idx 32 (log.data.toList.drop (at0 + k + 1)) with
    | none =>
      have e : findB 32 log.data.toList (at0 + k + 1) = -1 := by unfold findB; rw [hx2]
      obtain rfl := rec_none ho fun r hr => by
        have := hr.idx2
        rw [← (hkd r hr).1, List.drop_drop, ← Nat.add_assoc, hx2] at this; cases this
      rw [e]
      conv => whnf
      refine ⟨trivial, ?_⟩
      conv => whnf
      exact ⟨rfl, rfl⟩
    | some j =>
      have e : findB 32 log.data.toList (at0 + k + 1) = ((at0 + k + 1 + j : Nat) : Int) := by unfold findB; rw [hx2]
      have hj := (idx_some hx2).1
      rw [List.length_drop] at hj
      rw [e]
      conv => whnf
      rw [hw1]
      refine ⟨⟨by omega, by omega, by omega⟩, ?_⟩
      conv => whnf
      have hex2 : log.extract ((at0 + k + 1 : Nat) : Int).toNat ((at0 + k + 1 + j : Nat) : Int).toNat = mkS ((log.data.toList.drop (at0 + k + 1)).take j) := by
        rw [extract_eq, Int.toNat_natCast, Int.toNat_natCast, Nat.add_sub_cancel_left]
      have hsz2 : (mkS ((log.data.toList.drop (at0 + k + 1)).take j)).size ≤ log.size := by rw [mkS_size, List.length_take, List.length_drop]; omega
      rw [hex2]
      refine .mk _ _ false Tryd.call56 (l5Num_ok (mkS ((log.data.toList.drop (at0 + k + 1)).take j)) (by omega)) (Nat.le_of_ble_eq_true rfl) (.inl rfl) ?_
      conv => whnf
      have hm : ∀ r, IsRec log at0 n r → j = (dn r.size).length ∧ numS (mkS ((log.data.toList.drop (at0 + k + 1)).take j)) = (r.size : Int) := fun r hr => by
        have h1 := hr.idx2
        rw [← (hkd r hr).1, List.drop_drop, ← Nat.add_assoc, hx2] at h1
        have h1' := Option.some.inj h1
        have h2 := hr.take2
        rw [← (hkd r hr).1, List.drop_drop, ← Nat.add_assoc, ← h1'] at h2
        exact ⟨h1', by rw [h2]; exact numS_dn (by have := hr.max; omega)⟩
      generalize numS (mkS ((log.data.toList.drop (at0 + k + 1)).take j)) = M at hm ⊢
      refine .mk _ _ false Tryd.call30 (l1In_ok M 1 500) (Nat.le_of_ble_eq_true rfl) (.inl rfl) ?_
      conv => whnf
      cases hin : inR M 1 500 with
      | false =>
        obtain rfl := rec_none ho fun r hr => by
          have e2 := (hm r hr).2
          have h1 := hr.pos; have h2 := hr.max
          rw [show inR M 1 500 = true from inR_iff.2 ⟨by omega, by omega⟩] at hin
          cases hin
        conv => whnf
        refine ⟨trivial, ?_⟩
        conv => whnf
        exact ⟨rfl, rfl⟩
      | true =>
        have hin' := inR_iff.1 hin
        obtain ⟨m, rfl⟩ := Int.eq_ofNat_of_zero_le (show 0 ≤ M by omega)
        conv => whnf
        obtain ⟨F, hF⟩ : ∃ F, F = at0 + k + 1 + j + 18 := ⟨_, rfl⟩
        have hwF : IntKind.i64.wrap (((at0 + k + 1 + j : Nat) : Int) + 18) = (F : Int) := by rw [wrap_in _ (by omega) (by omega)]; omega
        have hw2 : IntKind.i64.wrap (IntKind.i64.wrap ((F : Int) + (m : Int)) + 1) = ((F + m + 1 : Nat) : Int) := by rw [wrap_in ((F : Int) + (m : Int)) (by omega) (by omega), wrap_in _ (by omega) (by omega)]; omega
        have hw3 : IntKind.i64.wrap ((F : Int) + (m : Int)) = ((F + m : Nat) : Int) := by rw [wrap_in _ (by omega) (by omega)]; omega
        have hw4 : IntKind.i64.wrap (((F + m : Nat) : Int) + 1) = ((F + m + 1 : Nat) : Int) := by rw [wrap_in _ (by omega) (by omega)]; omega
        have hFr : ∀ r, IsRec log at0 n r → F = at0 + ((dn n).length + 1 + (dn r.size).length + 18) ∧ m = r.size := fun r hr => by
          have h1 := hkd r hr; have h2 := hm r hr
          omega
        rw [hwF, hw2]
        split
        · rename_i q
          have q' := of_decide_eq_true q
          obtain rfl := rec_none ho fun r hr => by
            have h1 := hr.fits; have h2 := lineS_size n r; have h3 := hFr r hr
            omega
          conv => whnf
          refine ⟨trivial, ?_⟩
          conv => whnf
          exact ⟨rfl, rfl⟩
        rename_i q
        have q' := of_decide_eq_false q
        conv => whnf
        rw [hw3]
        refine ⟨⟨by omega, by omega, by omega⟩, ?_⟩
        conv => whnf
        rw [Int.toNat_natCast, Int.toNat_natCast]
        obtain ⟨rec, hrec⟩ : ∃ rec, rec = log.extract F (F + m) := ⟨_, rfl⟩
        have hrs : rec.size = m := by rw [hrec, ByteArray.size_extract]; omega
        rw [← hrec]
        refine .mk _ _ false Tryd.call31 (specLine_ok n hn rec (by omega)) (Nat.le_of_ble_eq_true rfl) (.inl rfl) ?_
        conv => whnf
        rw [hw3, hw4]
        refine ⟨⟨by omega, by omega, by omega⟩, ?_⟩
        conv => whnf
        rw [Int.toNat_natCast, Int.toNat_natCast]
        have hone : ∀ r, IsRec log at0 n r → r = rec := fun r hr => by
          have hb := hr.bodyS
          have h3 := hFr r hr
          rw [← h3.1, ← h3.2, ← hrec] at hb
          exact hb.symm
        by_cases heq : log.extract at0 (F + m + 1) = lineS n rec
        · have hsz3 : (lineS n rec).size = F + m + 1 - at0 := by rw [← heq, ByteArray.size_extract]; omega
          have hrr : IsRec log at0 n rec := isRec_of (by omega) (by omega) (prefix_iff.1 (by
            rw [Bool.and_eq_true, decide_eq_true_eq, str_eq, hsz3, mkS_size, List.length_drop]
            refine ⟨by omega, ?_⟩
            rw [extract_eq, mkS_list, List.drop_zero, Nat.sub_zero, ← heq, extract_eq]))
          have ho' := (ho rec).2 hrr
          subst ho'
          rw [heq, str_t rfl]
          conv => whnf
          rw [hw3]
          refine ⟨⟨by omega, by omega, by omega⟩, ?_⟩
          conv => whnf
          rw [Int.toNat_natCast, Int.toNat_natCast, ← hrec]
          refine ⟨trivial, ?_⟩
          conv => whnf
          exact ⟨rfl, rfl⟩
        · rw [str_f heq]
          obtain rfl := rec_none ho fun r hr => by
            have e3 := hone r hr
            subst e3
            have h1 := hr.line; have h2 := lineS_size n r; have h3 := hFr r hr
            apply heq
            rw [show F + m + 1 = at0 + (lineS n r).size by omega]
            exact h1
          conv => whnf
          refine ⟨trivial, ?_⟩
          conv => whnf
          exact ⟨rfl, rfl⟩
end Go.Abs.E
