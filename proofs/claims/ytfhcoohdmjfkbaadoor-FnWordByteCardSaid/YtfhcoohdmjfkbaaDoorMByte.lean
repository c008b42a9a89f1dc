import Derived.Test.YtfhcoohdmjfkbaaDoorMText
set_option linter.unusedSimpArgs false
set_option linter.unusedVariables false
namespace Go.Abs.D
open Go Go.Abs Go.Proofs Go.RowKit
attribute [local irreducible] IntKind.wrap
theorem valL_zero (l : List UInt8) : valL (48 :: l) = valL l := by
  unfold valL
  rw [List.foldl_cons]
  rfl
theorem valL_pad7 (k : Nat) : ∀ (s : ByteArray), valL (pad7 k s).data.toList = valL s.data.toList := by
  induction k with
  | zero => intro s; rfl
  | succ k ih =>
    intro s
    unfold pad7
    split
    · rw [ih, cat_list]
      exact valL_zero _
    · rfl
theorem seven_val (n : Nat) : valL (seven n).data.toList = n := by
  unfold seven
  rw [valL_pad7, dec_list, (decDigits_plain n).2.1]
theorem seven_inj {n m : Nat} (h : seven n = seven m) : n = m := by rw [← seven_val n, ← seven_val m, h]
theorem bt_at (s : ByteArray) (i : Nat) : bt s i = ((s.data.toList.getD i 0).toNat : Int) := by
  unfold bt
  rfl
theorem sumTo_nn (s : ByteArray) (i : Nat) : 0 ≤ sumTo s i ∧ sumTo s i < 1000003 := by
  induction i with
  | zero => exact ⟨by show (0 : Int) ≤ 1; omega, by show (1 : Int) < _; omega⟩
  | succ i ih =>
    have hb := bt_rng s i
    unfold sumTo
    rw [Int.tmod_eq_emod_of_nonneg (by omega)]
    omega
theorem sumTo_eq (s : ByteArray) (i : Nat) : sumTo s (i + 1) = (sumTo s i * 31 + bt s i + 7) % 1000003 := by
  have h := sumTo_nn s i
  have hb := bt_rng s i
  show ((sumTo s i) * 31 + bt s i + 7).tmod 1000003 = _
  rw [Int.tmod_eq_emod_of_nonneg (by omega)]
theorem sumTo_same {s t : ByteArray} (n : Nat) (h : ∀ k, k < n → bt s k = bt t k) : sumTo s n = sumTo t n := by
  induction n with
  | zero => rfl
  | succ n ih => rw [sumTo_eq, sumTo_eq, ih (fun k hk => h k (by omega)), h n (by omega)]
theorem step_ne {x y b : Int} (hx : 0 ≤ x ∧ x < 1000003) (hy : 0 ≤ y ∧ y < 1000003) (hne : x ≠ y) : (x * 31 + b + 7) % 1000003 ≠ (y * 31 + b + 7) % 1000003 := by
  omega
theorem sumTo_ne {s t : ByteArray} {j : Nat} (h : ∀ k, k ≠ j → bt s k = bt t k) (hj : bt s j ≠ bt t j) : ∀ n, j < n → sumTo s n ≠ sumTo t n := by
  intro n
  induction n with
  | zero => intro h; omega
  | succ n ih =>
    intro hn
    rw [sumTo_eq, sumTo_eq]
    have h1 := sumTo_nn s n; have h2 := sumTo_nn t n
    by_cases q : j = n
    · subst q
      rw [sumTo_same (t := t) j fun k hk => h k (by omega)]
      have b1 := bt_rng s j; have b2 := bt_rng t j
      rw [sumTo_same (s := s) (t := t) j fun k hk => h k (by omega)] at h1
      omega
    · rw [h n (by omega)]
      exact step_ne h1 h2 (ih (by omega))
/-- A word's text with one byte changed reads as no word. -/
theorem byte_no {w : RWord} (hok : okS w = true) {t : ByteArray} {i : Nat} (hi : i < (wtext w).size) (hs : t.size = (wtext w).size) (h : ∀ k, k ≠ i → t.data.toList.getD k 0 = (wtext w).data.toList.getD k 0)
    (hne : t.data.toList.getD i 0 ≠ (wtext w).data.toList.getD i 0) (w' : RWord) : ¬ Reads t w' := by
  intro hr
  have ht := hr.wr
  rw [wtext_ok hr.ok] at ht
  rw [wtext_ok hok] at hi hs h hne
  have z7 := seven_7 (sum_lt (wbody w)); have z7' := seven_7 (sum_lt (wbody w'))
  have l7 : (seven (sumTo (wbody w) (wbody w).size).toNat).data.toList.length = 7 := by rw [szl, z7]
  have l7' : (seven (sumTo (wbody w') (wbody w').size).toNat).data.toList.length = 7 := by rw [szl, z7']
  have hB : (wbody w').size = (wbody w).size := by
    rw [← ht, ByteArray.size_append, ByteArray.size_append, z7, z7'] at hs; omega
  rw [← ht] at h hne
  simp only [cat_list] at h hne
  have hlo : ∀ k, k < 7 → ∀ (a b : List UInt8), a.length = 7 → (a ++ b).getD k 0 = a.getD k 0 := fun k hk a b ha => by
    rw [List.getD_eq_getElem?_getD, List.getElem?_append_left (by omega), ← List.getD_eq_getElem?_getD]
  have hhi : ∀ k (a b : List UInt8), a.length = 7 → (a ++ b).getD (7 + k) 0 = b.getD k 0 := fun k a b ha => by
    rw [List.getD_eq_getElem?_getD, List.getElem?_append_right (by omega), ha, Nat.add_sub_cancel_left, ← List.getD_eq_getElem?_getD]
  by_cases q : i < 7
  · -- the body is the same: so is the sum
    have hb : wbody w' = wbody w := by
      apply ByteArray.ext
      apply Array.ext'
      apply List.ext_getElem (by rw [szl, szl, hB])
      intro k h1 h2
      have := h (7 + k) (by omega)
      rw [hhi k _ _ l7, hhi k _ _ l7', List.getD_eq_getElem?_getD, List.getD_eq_getElem?_getD, List.getElem?_eq_getElem h1, List.getElem?_eq_getElem h2] at this
      exact this
    rw [hb] at hne
    exact hne rfl
  · obtain ⟨j, rfl⟩ : ∃ j, i = 7 + j := ⟨i - 7, by omega⟩
    have hse : seven (sumTo (wbody w') (wbody w').size).toNat = seven (sumTo (wbody w) (wbody w).size).toNat := by
      apply ByteArray.ext
      apply Array.ext'
      apply List.ext_getElem (by rw [l7, l7'])
      intro k h1 h2
      have := h k (by omega)
      rw [hlo k (by omega) _ _ l7, hlo k (by omega) _ _ l7', List.getD_eq_getElem?_getD, List.getD_eq_getElem?_getD, List.getElem?_eq_getElem h1, List.getElem?_eq_getElem h2] at this
      exact this
    have hsum := seven_inj hse
    have n1 := sumTo_nn (wbody w') (wbody w').size; have n2 := sumTo_nn (wbody w) (wbody w).size
    refine sumTo_ne (s := wbody w') (t := wbody w) (j := j) (fun k hk => ?_) ?_ (wbody w).size ?_ ?_
    · have := h (7 + k) (by omega)
      rw [hhi k _ _ l7, hhi k _ _ l7'] at this
      rw [bt_at, bt_at, this]
    · rw [hhi j _ _ l7, hhi j _ _ l7'] at hne
      rw [bt_at, bt_at]
      intro e
      apply hne
      apply UInt8.toNat_inj.1
      omega
    · rw [ByteArray.size_append, z7] at hi; omega
    · rw [hB] at hsum n1; omega
end Go.Abs.D

set_option linter.unusedSimpArgs false
set_option linter.unusedVariables false
namespace Go.Abs.D
open Go Go.Abs Go.Proofs Go.RowKit
attribute [local irreducible] IntKind.wrap
theorem elsBytes_list (els : List (List PV)) : (elsBytes els).data.toList = els.map byteOf := by
  show ((els.map byteOf).toArray).toList = _
  simp
theorem wtext_ne {w : RWord} (h : okS w = false) : wtext w = ⟨#[]⟩ := wtext_bad h
theorem xor_ne (c : UInt8) {d : Int} (h0 : 1 ≤ d) (h1 : d ≤ 255) : UInt8.ofNat (IntKind.u8.wrap (((BitVec.ofInt IntKind.u8.bits (c.toNat : Int) ^^^ BitVec.ofInt IntKind.u8.bits d).toNat : Nat) : Int)).toNat ≠ c := by
  show UInt8.ofNat (IntKind.u8.wrap (((BitVec.ofInt 8 (c.toNat : Int) ^^^ BitVec.ofInt 8 d).toNat : Nat) : Int)).toNat ≠ c
  obtain ⟨x, hx⟩ : ∃ x : BitVec 8, x = BitVec.ofInt 8 (c.toNat : Int) := ⟨_, rfl⟩
  obtain ⟨y, hy⟩ : ∃ y : BitVec 8, y = BitVec.ofInt 8 d := ⟨_, rfl⟩
  rw [← hx, ← hy]
  have hlt : (x ^^^ y).toNat < 256 := (x ^^^ y).isLt
  rw [wrap_u8 _ (by omega) (by omega), Int.toNat_natCast]
  intro e
  have e1 := congrArg UInt8.toNat e
  rw [UInt8.toNat_ofNat', Nat.mod_eq_of_lt (show (x ^^^ y).toNat < 2 ^ 8 from hlt)] at e1
  have hx' : x.toNat = c.toNat := by
    rw [hx, BitVec.toNat_ofInt]
    have := c.toNat_lt
    show (((c.toNat : Int)) % ((2 ^ 8 : Nat) : Int)).toNat = _
    omega
  have e2 : x ^^^ y = x := BitVec.eq_of_toNat_eq (by rw [e1, hx'])
  have e3 : y = 0#8 := by
    have h3 : x ^^^ (x ^^^ y) = x ^^^ x := by rw [e2]
    rw [← BitVec.xor_assoc, BitVec.xor_self, BitVec.zero_xor] at h3
    exact h3
  have e4 : y.toNat = d.toNat := by
    rw [hy, BitVec.toNat_ofInt]
    show (d % ((2 ^ 8 : Nat) : Int)).toNat = _
    omega
  rw [e3] at e4
  have : (0#8).toNat = 0 := rfl
  omega
set_option maxHeartbeats 16000000 in
set_option maxRecDepth 100000 in
theorem wordByte_law (xs ys : List Int) (hx : ∀ x ∈ xs, 0 ≤ x ∧ x ≤ 255) (hxl : xs.length ≤ 9223372036854775807) : ∃ r out, r = vbool true ∧ Good Tryd.prog 5 [.one (.p (.sl (xs.map encU))), .one (.p (.sl (ys.map encU)))] [] r out := by
  refine good_v noM Tryd.func5 rfl rfl ?_
  conv => whnf
  split
  · conv => whnf
    refine ⟨trivial, ?_⟩
    conv => whnf
    rfl
  rename_i q
  conv => whnf
  split
  · conv => whnf
    refine ⟨trivial, ?_⟩
    conv => whnf
    rfl
  rename_i q2
  have q' := of_decide_eq_false q
  have q2' := of_decide_eq_false q2
  conv => whnf
  obtain ⟨_, _, ⟨w, hsz, rfl, rfl⟩, hg⟩ := drawWrite_ok xs hx hxl
  have hf : w.f.size ≤ 9223372036854775807 := by have := hsz.f; omega
  refine .mk _ _ false Tryd.call15 hg (Nat.le_of_ble_eq_true rfl) (.inl rfl) ?_
  conv => whnf
  refine .mk _ _ false Tryd.call11 (implWrite_ok w hf) (Nat.le_of_ble_eq_true rfl) (.inl rfl) ?_
  conv => whnf
  refine .mk _ _ false Tryd.call9 (specWrite_ok w hf) (Nat.le_of_ble_eq_true rfl) (.inl rfl) ?_
  conv => whnf
  rw [str_t rfl]
  conv => whnf
  cases hok : okS w with
  | false =>
    rw [wtext_bad hok, e_tt]
    conv => whnf
    refine .mk _ _ false Tryd.call9 (specWrite_ok w hf) (Nat.le_of_ble_eq_true rfl) (.inl rfl) ?_
    conv => whnf
    refine ⟨trivial, ?_⟩
    conv => whnf
    refine congrArg vbool ?_
    rw [wtext_bad hok]
    exact str_t rfl
  | true =>
    have hr := wtext_rng hok
    rw [str_f (ne_size hr.1)]
    conv => whnf
    refine ⟨trivial, ?_⟩
    conv => whnf
    rw [abin_rem (k := IntKind.i64) (b := ((wtext w).size : Int)) rfl rfl (by omega)]
    conv => whnf
    obtain ⟨a, ha⟩ : ∃ a, a = ((ys.map encU).length : Int).tmod ((wtext w).size : Int) := ⟨_, rfl⟩
    rw [← ha]
    have ha0 : 0 ≤ a ∧ a < (wtext w).size := by rw [ha]; exact ⟨Int.tmod_nonneg _ (by omega), Int.tmod_lt_of_pos _ (by omega)⟩
    have hlen := bytesEls_len (wtext w)
    refine ⟨ha0.1, ha0.2, by rw [hlen]; omega, ?_⟩
    conv => whnf
    refine ⟨_, bytesEls_at (wtext w) (0 + a.toNat) (by omega), ?_⟩
    conv => whnf
    refine ⟨trivial, ?_⟩
    conv => whnf
    refine ⟨ha0.1, ha0.2, by rw [hlen]; omega, ?_⟩
    conv => whnf
    refine ⟨_, bytesEls_at (wtext w) (0 + a.toNat) (by omega), by rw [hlen]; omega, ?_⟩
    conv => whnf
    refine ⟨⟨by rw [List.length_set, hlen]; omega, fun el hel => ?_⟩, ?_⟩
    · exact isByte_set (bytesEls_isByte (wtext w)) el (List.mem_of_mem_drop (List.mem_of_mem_take hel))
    conv => whnf
    obtain ⟨d, hd⟩ : ∃ d, d = IntKind.u8.wrap (IntKind.i64.wrap (1 + ((xs.map encU).length : Int).tmod 255)) := ⟨_, rfl⟩
    rw [← hd]
    have hd1 : 1 ≤ d ∧ d ≤ 255 := by
      have t1 : 0 ≤ ((xs.map encU).length : Int).tmod 255 := Int.tmod_nonneg _ (by omega)
      have t2 : ((xs.map encU).length : Int).tmod 255 < 255 := Int.tmod_lt_of_pos _ (by omega)
      rw [wrap_in (1 + ((xs.map encU).length : Int).tmod 255) (by omega) (by omega), wrap_u8 _ (by omega) (by omega)] at hd
      omega
    obtain ⟨E, hE⟩ : ∃ E, E = (List.take (wtext w).size (List.drop 0 ((bytesEls (wtext w)).set (0 + a.toNat) [PV.lit (Value.int IntKind.u8 (IntKind.u8.wrap (((BitVec.ofInt IntKind.u8.bits ((((wtext w).data.toList.getD (0 + a.toNat) 0).toNat : Nat) : Int) ^^^ BitVec.ofInt IntKind.u8.bits d).toNat : Nat) : Int)))]))) := ⟨_, rfl⟩
    obtain ⟨n, hn⟩ : ∃ n : Nat, n = a.toNat := ⟨_, rfl⟩
    have hE2 : E = (bytesEls (wtext w)).set n [PV.lit (Value.int IntKind.u8 (IntKind.u8.wrap (((BitVec.ofInt IntKind.u8.bits ((((wtext w).data.toList.getD n 0).toNat : Nat) : Int) ^^^ BitVec.ofInt IntKind.u8.bits d).toNat : Nat) : Int)))] := by
      rw [hE, Nat.zero_add, ← hn, List.drop_zero, List.take_of_length_le (by rw [List.length_set, hlen]; exact Nat.le_refl _)]
    have hlist : (elsBytes E).data.toList = (wtext w).data.toList.set n (UInt8.ofNat (IntKind.u8.wrap (((BitVec.ofInt IntKind.u8.bits ((((wtext w).data.toList.getD n 0).toNat : Nat) : Int) ^^^ BitVec.ofInt IntKind.u8.bits d).toNat : Nat) : Int)).toNat) := by
      rw [elsBytes_list, hE2, List.map_set]
      congr 1
      unfold bytesEls
      rw [List.map_map]
      conv => rhs; rw [← List.map_id (wtext w).data.toList]
      apply List.map_congr_left
      intro c _
      show UInt8.ofNat ((c.toNat : Nat) : Int).toNat = c
      rw [Int.toNat_natCast]
      exact UInt8.ofNat_toNat
    have hno : ∀ w', ¬ Reads (elsBytes E) w' := fun w' => by
      refine byte_no hok (i := n) (by omega) ?_ (fun k hk => ?_) ?_ w'
      · rw [elsBytes_size, hE2, List.length_set, hlen]
      · rw [hlist, List.getD_eq_getElem?_getD, List.getElem?_set_ne (fun e => hk e.symm), ← List.getD_eq_getElem?_getD]
      · rw [hlist, List.getD_eq_getElem?_getD, List.getElem?_set_self (by rw [szl]; omega)]
        exact xor_ne _ hd1.1 hd1.2
    obtain ⟨o, ho⟩ := reads_ex (elsBytes E)
    have hnone : o = none := none_of ho hno
    have hg3 := implRead_ok (elsBytes E) (by rw [elsBytes_size, hE2, List.length_set, hlen]; omega) o ho
    rw [hE, hnone] at hg3
    refine .mk _ _ false Tryd.call13 hg3 (Nat.le_of_ble_eq_true rfl) (.inl rfl) ?_
    conv => whnf
    refine ⟨by decide +kernel, by decide +kernel, ?_⟩
    conv => whnf
    refine ⟨trivial, ?_⟩
    conv => whnf
    exact congrArg vbool (eqW_same w0)
theorem fnWordByte_good (xs ys : List Int) (hx : xs.length ≤ 9223372036854775807 ∧ ∀ x ∈ xs, (Lit.int .u8 x).wf = true) (hy : ys.length ≤ 9223372036854775807 ∧ ∀ x ∈ ys, (Lit.int .u8 x).wf = true) : ∃ r out, r = vbool true ∧ Good Tryd.prog 5 [.one (.p (.sl (xs.map encU))), .one (.p (.sl (ys.map encU)))] [] r out := wordByte_law xs ys (fun x h => wf8 (hx.2 x h)) hx.1
end Go.Abs.D
