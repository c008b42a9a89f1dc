import Derived.Test.YtilogdijodgcgaaDoorGSha6
import Derived.Test.YtilogdijodgcgaaDoorGCutA
set_option linter.unusedSimpArgs false
set_option linter.unusedVariables false
namespace Go.Abs.E
open Go Go.Abs Go.Proofs Go.RowKit
attribute [local irreducible] IntKind.wrap
theorem cat_list (a b : ByteArray) : (a ++ b).data.toList = a.data.toList ++ b.data.toList := by rw [ByteArray.data_append, Array.toList_append]
def dn (n : Nat) : List UInt8 := Lib.decDigits n
theorem dec_list (n : Nat) : (dec (n : Int)).data.toList = dn n := by rw [dec_eq]; rfl
theorem dn_no (n : Nat) : ∀ x ∈ dn n, x ≠ 32 := by
  intro x hx e
  have := (decDigits_plain n).1.dg x hx
  rw [e] at this; revert this; decide
theorem dn_len {n : Nat} (h : n < 100000) : 1 ≤ (dn n).length ∧ (dn n).length ≤ 5 := by
  have h1 := dec_size (n := n) (k := 4) (by omega)
  have h2 := szl (dec (n : Int))
  rw [dec_list] at h2
  have h3 : (dn n).length ≠ 0 := fun q => (decDigits_plain n).1.ne (List.length_eq_zero_iff.1 q)
  omega
theorem num_dn {n : Nat} (h : n < 100000) : num (mkS (dn n)) = some n := by
  have := dn_len h
  exact numOf_dec (by show (dn n).length ≤ 6; omega)
theorem numS_dn {n : Nat} (h : n < 100000) : numS (mkS (dn n)) = n := by unfold numS; rw [num_dn h]
theorem numI_dn {n : Nat} (h : n < 100000) : numI (mkS (dn n)) = n := by unfold numI; rw [num_dn h]
theorem numOk_dn {n : Nat} (h : n < 100000) : numOk (mkS (dn n)) = true := by unfold numOk; rw [num_dn h]; rfl
@[reducible] def sp : ByteArray := ⟨#[32]⟩
@[reducible] def nl : ByteArray := ⟨#[10]⟩
theorem sp1 : (ByteArray.mk #[32]).size = 1 := rfl
theorem nl1 : (ByteArray.mk #[10]).size = 1 := rfl
def hdS (n : Nat) (r : ByteArray) : ByteArray := dec (n : Int) ++ sp ++ dec (r.size : Int) ++ sp
def sum16 (n : Nat) (r : ByteArray) : ByteArray := (hashS (hdS n r ++ r)).extract 0 16
/-- The line of a record that has a number. -/
def lineS (n : Nat) (r : ByteArray) : ByteArray := hdS n r ++ sum16 n r ++ sp ++ r ++ nl
theorem sum16_size (n : Nat) (r : ByteArray) : (sum16 n r).size = 16 := by unfold sum16; rw [ByteArray.size_extract, hashS_size]; rfl
theorem hdS_size (n : Nat) (r : ByteArray) : (hdS n r).size = (dn n).length + (dn r.size).length + 2 := by
  have h1 := szl (dec (n : Int)); have h2 := szl (dec (r.size : Int))
  rw [dec_list] at h1 h2
  unfold hdS sp
  simp only [ByteArray.size_append, sp1]
  omega
theorem lineS_size (n : Nat) (r : ByteArray) : (lineS n r).size = (dn n).length + (dn r.size).length + r.size + 20 := by
  have h1 := hdS_size n r; have h2 := sum16_size n r
  unfold lineS sp nl
  simp only [ByteArray.size_append, sp1, nl1]
  omega
theorem lineS_list (n : Nat) (r : ByteArray) : (lineS n r).data.toList = dn n ++ 32 :: (dn r.size ++ 32 :: ((sum16 n r).data.toList ++ 32 :: (r.data.toList ++ [10]))) := by
  unfold lineS hdS sp nl
  simp only [cat_list, dec_list, List.append_assoc, List.cons_append, List.nil_append]
set_option maxHeartbeats 16000000 in
set_option maxRecDepth 100000 in
theorem implLine_ok (n : Nat) (hn : n < 100000) (r : ByteArray) (hr : r.size ≤ 500) : Good Tryd.prog 33 [vint (n : Int), vstr r] [] (vstr (lineS n r)) [] := by
  have h1 := dn_len hn; have h2 := dn_len (n := r.size) (by omega); have h3 := hdS_size n r; have h4 := sum16_size n r
  have d1 := szl (dec (n : Int)); have d2 := szl (dec (r.size : Int))
  rw [dec_list] at d1 d2
  have hg := implHash_ok (hdS n r ++ r) (by rw [ByteArray.size_append]; omega)
  have h64 := hashS_size (hdS n r ++ r)
  have hL : lineS n r = hdS n r ++ (hashS (hdS n r ++ r)).extract 0 16 ++ sp ++ r ++ nl := rfl
  have h4' : ((hashS (hdS n r ++ r)).extract 0 16).size = 16 := h4
  rw [hL]
  generalize hashS (hdS n r ++ r) = H at hg h64 h4' ⊢
  have hD : hdS n r = dec (n : Int) ++ sp ++ dec (r.size : Int) ++ sp := rfl
  rw [hD] at hg h3 ⊢
  clear hL hD h4
  have h4'' : (H.extract (Int.toNat 0) (Int.toNat 16)).size = 16 := h4'
  refine good_e noM Tryd.func33 rfl rfl ?_
  conv => whnf
  refine .mk _ _ false Tryd.call36 (itoa_ok (n : Int) (by omega) (by omega)) (Nat.le_of_ble_eq_true rfl) (.inl rfl) ?_
  conv => whnf
  rw [abin_cat (a := _) (b := _) rfl rfl (by show (dec (n : Int)).size + 1 ≤ _; omega)]
  conv => whnf
  refine .mk _ _ false Tryd.call36 (itoa_ok (r.size : Int) (by omega) (by omega)) (Nat.le_of_ble_eq_true rfl) (.inl rfl) ?_
  conv => whnf
  rw [abin_cat (a := _) (b := _) rfl rfl (by simp only [ByteArray.size_append, sp1]; omega)]
  conv => whnf
  rw [abin_cat (a := _) (b := _) rfl rfl (by simp only [ByteArray.size_append, sp1]; omega)]
  conv => whnf
  rw [abin_cat (a := _) (b := _) rfl rfl (by simp only [ByteArray.size_append, sp1]; omega)]
  conv => whnf
  refine .mk _ _ false Tryd.call47 hg (Nat.le_of_ble_eq_true rfl) (.inl rfl) ?_
  conv => whnf
  refine ⟨⟨by omega, by omega, by rw [h64]; decide⟩, ?_⟩
  conv => whnf
  rw [abin_cat (a := _) (b := _) rfl rfl (by rw [show (H.extract (Int.toNat 0) (Int.toNat 16)).size = 16 from h4']; simp only [ByteArray.size_append, sp1]; omega)]
  conv => whnf
  rw [abin_cat (a := _) (b := _) rfl rfl (by simp only [ByteArray.size_append, sp1]; omega)]
  conv => whnf
  rw [abin_cat (a := _) (b := _) rfl rfl (by simp only [ByteArray.size_append, sp1]; omega)]
  conv => whnf
  rw [abin_cat (a := _) (b := _) rfl rfl (by simp only [ByteArray.size_append, sp1, nl1]; omega)]
  conv => whnf
  refine ⟨trivial, ?_⟩
  conv => whnf
  exact ⟨rfl, rfl⟩
set_option maxHeartbeats 16000000 in
set_option maxRecDepth 100000 in
theorem specLine_ok (n : Nat) (hn : n < 100000) (r : ByteArray) (hr : r.size ≤ 500) : Good Tryd.prog 31 [vint (n : Int), vstr r] [] (vstr (lineS n r)) [] := by
  have h1 := dn_len hn; have h2 := dn_len (n := r.size) (by omega); have h3 := hdS_size n r; have h4 := sum16_size n r
  have d1 := szl (dec (n : Int)); have d2 := szl (dec (r.size : Int))
  rw [dec_list] at d1 d2
  have hg := specHash_ok (hdS n r ++ r) (by rw [ByteArray.size_append]; omega)
  have h64 := hashS_size (hdS n r ++ r)
  have hL : lineS n r = hdS n r ++ (hashS (hdS n r ++ r)).extract 0 16 ++ sp ++ r ++ nl := rfl
  have h4' : ((hashS (hdS n r ++ r)).extract 0 16).size = 16 := h4
  rw [hL]
  generalize hashS (hdS n r ++ r) = H at hg h64 h4' ⊢
  have hD : hdS n r = dec (n : Int) ++ sp ++ dec (r.size : Int) ++ sp := rfl
  rw [hD] at hg h3 ⊢
  clear hL hD h4
  have h4'' : (H.extract (Int.toNat 0) (Int.toNat 16)).size = 16 := h4'
  refine good_e noM Tryd.func31 rfl rfl ?_
  conv => whnf
  refine .mk _ _ false Tryd.call45 (l1Dec_ok n (by omega)) (Nat.le_of_ble_eq_true rfl) (.inl rfl) ?_
  conv => whnf
  rw [abin_cat (a := _) (b := _) rfl rfl (by show (dec (n : Int)).size + 1 ≤ _; omega)]
  conv => whnf
  refine .mk _ _ false Tryd.call45 (l1Dec_ok r.size (by omega)) (Nat.le_of_ble_eq_true rfl) (.inl rfl) ?_
  conv => whnf
  rw [abin_cat (a := _) (b := _) rfl rfl (by simp only [ByteArray.size_append, sp1]; omega)]
  conv => whnf
  rw [abin_cat (a := _) (b := _) rfl rfl (by simp only [ByteArray.size_append, sp1]; omega)]
  conv => whnf
  rw [abin_cat (a := _) (b := _) rfl rfl (by simp only [ByteArray.size_append, sp1]; omega)]
  conv => whnf
  refine .mk _ _ false Tryd.call46 hg (Nat.le_of_ble_eq_true rfl) (.inl rfl) ?_
  conv => whnf
  refine ⟨⟨by omega, by omega, by rw [h64]; decide⟩, ?_⟩
  conv => whnf
  rw [abin_cat (a := _) (b := _) rfl rfl (by rw [show (H.extract (Int.toNat 0) (Int.toNat 16)).size = 16 from h4']; simp only [ByteArray.size_append, sp1]; omega)]
  conv => whnf
  rw [abin_cat (a := _) (b := _) rfl rfl (by simp only [ByteArray.size_append, sp1]; omega)]
  conv => whnf
  rw [abin_cat (a := _) (b := _) rfl rfl (by simp only [ByteArray.size_append, sp1]; omega)]
  conv => whnf
  rw [abin_cat (a := _) (b := _) rfl rfl (by simp only [ByteArray.size_append, sp1, nl1]; omega)]
  conv => whnf
  refine ⟨trivial, ?_⟩
  conv => whnf
  exact ⟨rfl, rfl⟩
set_option maxHeartbeats 16000000 in
set_option maxRecDepth 100000 in
theorem sprefix_ok (s p : ByteArray) : Good Tryd.prog 51 [vstr s, vstr p] [] (vbool (decide (p.size ≤ s.size) && ((s.extract 0 p.size).toList == p.toList))) [] := by
  refine good_e noM Tryd.func51 rfl rfl ?_
  conv => whnf
  split
  · rename_i q
    have q' := of_decide_eq_true q
    rw [decide_eq_true (show p.size ≤ s.size by omega)]
    conv => whnf
    refine ⟨⟨by omega, by omega, by omega⟩, ?_⟩
    conv => whnf
    refine ⟨trivial, ?_⟩
    conv => whnf
    exact ⟨rfl, rfl⟩
  · rename_i q
    have q' := of_decide_eq_false q
    rw [decide_eq_false (show ¬ p.size ≤ s.size by omega)]
    conv => whnf
    refine ⟨trivial, ?_⟩
    conv => whnf
    exact ⟨rfl, rfl⟩
set_option maxHeartbeats 16000000 in
set_option maxRecDepth 100000 in
theorem prefix_ok (s p : ByteArray) : Good Tryd.prog 37 [vstr s, vstr p] [] (vbool (decide (p.size ≤ s.size) && ((s.extract 0 p.size).toList == p.toList))) [] := by
  refine good_e noM Tryd.func37 rfl rfl ?_
  conv => whnf
  refine .mk _ _ false Tryd.call51 (sprefix_ok s p) (Nat.le_of_ble_eq_true rfl) (.inl rfl) ?_
  conv => whnf
  refine ⟨trivial, ?_⟩
  conv => whnf
  exact ⟨rfl, rfl⟩
theorem prefix_iff {s p : ByteArray} : (decide (p.size ≤ s.size) && ((s.extract 0 p.size).toList == p.toList)) = true ↔ ∃ t, s.data.toList = p.data.toList ++ t := by
  have hs := szl s; have hp := szl p
  rw [Bool.and_eq_true, decide_eq_true_eq, str_eq, extract_eq]
  simp only [List.drop_zero, Nat.sub_zero]
  constructor
  · rintro ⟨h1, h2⟩
    refine ⟨s.data.toList.drop p.size, ?_⟩
    have := congrArg (fun z => z.data.toList) h2
    simp only [mkS_list] at this
    rw [← this, List.take_append_drop]
  · rintro ⟨t, e⟩
    have hl := congrArg List.length e
    rw [List.length_append] at hl
    refine ⟨by omega, ?_⟩
    rw [e, ← hp, List.take_left' rfl, mkS_of]
end Go.Abs.E
