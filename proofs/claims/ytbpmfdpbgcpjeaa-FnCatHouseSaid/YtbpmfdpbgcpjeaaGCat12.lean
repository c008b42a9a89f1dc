import Derived.Test.YtbpmfdpbgcpjeaaGCat10
set_option linter.unusedSimpArgs false
set_option linter.unusedVariables false
namespace Go.Abs.C
open Go Go.Abs Go.Proofs
attribute [local irreducible] IntKind.wrap
@[reducible] def encU (n : Int) : List PV := [.lit (.int .u8 n)]
@[reducible] def rdB (bs : List Int) (p : Int) : Blk := .box [.p (.sl (bs.map encU)), .p (.lit (.int .i64 p))]
theorem xor_nn {x y : Int} (h1 : 0 ≤ x) (h2 : x < 1099511627776) (h3 : 0 ≤ y) (h4 : y < 1099511627776) : 0 ≤ IntKind.i64.wrap (((BitVec.ofInt IntKind.i64.bits x ^^^ BitVec.ofInt IntKind.i64.bits y).toNat : Nat) : Int) := by
  obtain ⟨a, rfl⟩ := Int.eq_ofNat_of_zero_le h1
  obtain ⟨b, rfl⟩ := Int.eq_ofNat_of_zero_le h3
  have ha : a < 2 ^ 40 := by omega
  have hb : b < 2 ^ 40 := by omega
  have hx := Nat.xor_lt_two_pow ha hb
  have e : (BitVec.ofInt IntKind.i64.bits (a : Int) ^^^ BitVec.ofInt IntKind.i64.bits (b : Int)).toNat = a ^^^ b := by
    rw [BitVec.toNat_xor, BitVec.toNat_ofInt, BitVec.toNat_ofInt]
    have e1 : ((a : Int) % ((2 ^ IntKind.i64.bits : Nat) : Int)).toNat = a := by
      show ((a : Int) % ((2 ^ 64 : Nat) : Int)).toNat = a
      omega
    have e2 : ((b : Int) % ((2 ^ IntKind.i64.bits : Nat) : Int)).toNat = b := by
      show ((b : Int) % ((2 ^ 64 : Nat) : Int)).toNat = b
      omega
    rw [e1, e2]
  rw [e, wrap_in _ (by omega) (by omega)]
  omega
set_option maxHeartbeats 8000000 in
set_option maxRecDepth 100000 in
theorem pick_ok (bs : List Int) (p n : Int) (hb : ∀ x ∈ bs, 0 ≤ x ∧ x ≤ 255) (hl : bs.length ≤ 2000) (h0 : 0 ≤ p) (h1 : p < 1000000) (hn : 1 ≤ n) (hn2 : n < 1000) :
    ∃ r out, (∃ v : Int, 0 ≤ v ∧ v < n ∧ r = vint v ∧ out = [rdB bs (p + 1)]) ∧ Good Try.prog 52 [.one (.hp 0 0 0), vint n] [rdB bs p] r out := by
  refine good_v noM Try.func52 rfl rfl ?_
  have w1 : IntKind.i64.wrap (p + 1) = p + 1 := wrap_in _ (by omega) (by omega)
  have w2 : IntKind.i64.wrap (p + 1 - 1) = p := by rw [wrap_in _ (by omega) (by omega)]; omega
  conv => whnf
  rw [w1]
  split
  · rename_i h; have := of_decide_eq_true h; omega
  rename_i h
  conv => whnf
  split
  · rename_i h2
    conv => whnf
    refine ⟨trivial, ?_⟩
    conv => whnf
    exact ⟨0, by omega, by omega, rfl, rfl⟩
  rename_i h2
  have h2' : ((bs.map encU).length : Int) ≠ 0 := by simpa using h2
  rw [List.length_map] at h2'
  conv => whnf
  rw [w2]
  split
  · rename_i h3
    have h3' := of_decide_eq_true h3
    rw [List.length_map] at h3'
    conv => whnf
    refine ⟨by omega, by rw [List.length_map]; omega, _, getD_map encU bs _ 0 (by omega), ?_⟩
    conv => whnf
    refine ⟨trivial, ?_⟩
    conv => whnf
    have hbv := hb (bs.getD p.toNat 0) (by rw [List.getD_eq_getElem?_getD, List.getElem?_eq_getElem (by omega)]; exact List.getElem_mem _)
    rw [abin_rem (a := IntKind.i64.wrap (bs.getD p.toNat 0)) (b := n) rfl rfl (by omega)]
    conv => whnf
    refine ⟨trivial, ?_⟩
    conv => whnf
    rw [wrap_in _ (by omega) (by omega), Int.tmod_eq_emod_of_nonneg (by omega)]
    exact ⟨_, Int.emod_nonneg _ (by omega), Int.emod_lt_of_pos _ (by omega), rfl, rfl⟩
  rename_i h3
  have h3' := of_decide_eq_false h3
  rw [List.length_map] at h3'
  conv => whnf
  refine VDraw.go ⟨265, [0, 1, 3, 7, 0, 0, 32, 96, 224, 480, 1008, 2047, 4095, 8191, 16383, 0, 32768, 98304, 229376, 0, 524288, 1572864, 0, 4194304, 12582912, 29360128, 62914560, 133693440, 268402688, 536838144, 1073709056, 2147450880, 4294967295, 0, 8589934592, 34359738367, 0, 0, 137438953472, 412316860416, 962072674304, 2061584302080, 4329327034368, 8727373545472, 17592186044415, 35184372088831], [13, 30], []⟩ rfl rfl (by decide +kernel) ?_
  conv => whnf
  have hL : ((bs.map encU).length : Int) = bs.length := by rw [List.length_map]
  have hr1 : ∀ q : Int, 0 ≤ q → 0 ≤ q.tmod ((bs.map encU).length : Int) ∧ q.tmod ((bs.map encU).length : Int) < ((bs.map encU).length : Int) := fun q hq => by
    rw [Int.tmod_eq_emod_of_nonneg hq]; exact ⟨Int.emod_nonneg _ (by omega), Int.emod_lt_of_pos _ (by omega)⟩
  have hbv : ∀ q : Int, 0 ≤ q → q < bs.length → 0 ≤ bs.getD q.toNat 0 ∧ bs.getD q.toNat 0 ≤ 255 := fun q h1 h2 => hb _ (by rw [List.getD_eq_getElem?_getD, List.getElem?_eq_getElem (by omega)]; exact List.getElem_mem _)
  rw [abin_rem (a := p) (b := ((bs.map encU).length : Int)) rfl rfl (by omega)]
  conv => whnf
  have ha := hr1 p h0
  generalize p.tmod ((bs.map encU).length : Int) = q1 at ha ⊢
  have hq1 := hbv q1 (by omega) (by omega)
  refine ⟨by omega, by omega, _, getD_map encU bs _ 0 (by omega), ?_⟩
  conv => whnf
  refine ⟨trivial, ?_⟩
  conv => whnf
  have w7 : IntKind.i64.wrap (IntKind.i64.wrap (p * 7) + 3) = p * 7 + 3 := by rw [wrap_in (p * 7) (by omega) (by omega), wrap_in _ (by omega) (by omega)]
  rw [abin_rem (a := IntKind.i64.wrap (IntKind.i64.wrap (p * 7) + 3)) (b := ((bs.map encU).length : Int)) rfl rfl (by omega)]
  rw [w7]
  conv => whnf
  have ha2 := hr1 (p * 7 + 3) (by omega)
  generalize (p * 7 + 3).tmod ((bs.map encU).length : Int) = q2 at ha2 ⊢
  have hq2 := hbv q2 (by omega) (by omega)
  refine ⟨by omega, by omega, _, getD_map encU bs _ 0 (by omega), ?_⟩
  conv => whnf
  refine ⟨trivial, ?_⟩
  conv => whnf
  rw [abin_quo (a := p) (b := ((bs.map encU).length : Int)) rfl rfl (by omega)]
  conv => whnf
  have hq3 : 0 ≤ p.tdiv ((bs.map encU).length : Int) ∧ p.tdiv ((bs.map encU).length : Int) ≤ p := by
    rw [Int.tdiv_eq_ediv_of_nonneg h0]
    exact ⟨Int.ediv_nonneg h0 (by omega), Int.ediv_le_self _ h0⟩
  generalize p.tdiv ((bs.map encU).length : Int) = q3 at hq3 ⊢
  rw [abin_rem (k := IntKind.i64) (b := n) rfl rfl (by omega)]
  conv => whnf
  refine ⟨trivial, ?_⟩
  conv => whnf
  refine ⟨_, ?_, ?_, rfl, rfl⟩
  · refine Int.tmod_nonneg _ ?_
    have w : ∀ x : Int, 0 ≤ x → x < 1099511627776 → IntKind.i64.wrap x = x := fun x h1 h2 => wrap_in _ (by omega) (by omega)
    simp (disch := omega) only [w]
    have hX0 : 0 ≤ bs.getD q1.toNat 0 * 131 + bs.getD q2.toNat 0 * 1117 + p * 29 + q3 * 53 := by omega
    have hX1 : bs.getD q1.toNat 0 * 131 + bs.getD q2.toNat 0 * 1117 + p * 29 + q3 * 53 < 1099511627776 := by omega
    generalize bs.getD q1.toNat 0 * 131 + bs.getD q2.toNat 0 * 1117 + p * 29 + q3 * 53 = X at hX0 hX1 ⊢
    have hd : IntKind.i64.wrap (X.tdiv 64) = X / 64 := by rw [Int.tdiv_eq_ediv_of_nonneg hX0, wrap_in _ (by omega) (by omega)]
    refine xor_nn hX0 hX1 ?_ ?_
    · rw [hd]; omega
    · rw [hd]; omega
  · exact Int.tmod_lt_of_pos _ (by omega)
structure Bytes (bs : List Int) : Prop where
  rng : ∀ x ∈ bs, 0 ≤ x ∧ x ≤ 255
  len : bs.length ≤ 2000
set_option maxHeartbeats 8000000 in
set_option maxRecDepth 100000 in
theorem l1Open_ok (bs : List Int) (hb : ∀ x ∈ bs, 0 ≤ x ∧ x ≤ 255) (hl : bs.length ≤ 9223372036854775807) :
    ∃ r out, (∃ bs', Bytes bs' ∧ r = .one (.hp 0 0 0) ∧ out = [rdB bs' 0]) ∧ Good Try.prog 50 [.one (.p (.sl (bs.map encU)))] [] r out := by
  refine good_v noM Try.func50 rfl rfl ?_
  conv => whnf
  split
  · rename_i h
    have h' := of_decide_eq_true h
    rw [List.length_map] at h'
    conv => whnf
    refine ⟨⟨by decide, by decide, by rw [List.length_map]; omega, by decide +kernel, fun x hx => by obtain ⟨y, _, rfl⟩ := List.mem_map.1 hx; rw [show Try.prog.cellsOf 5 = 1 by decide +kernel]; rfl⟩, ?_⟩
    conv => whnf
    refine ⟨trivial, ?_⟩
    conv => whnf
    refine ⟨bs.take 2000, ⟨fun x hx => hb x (List.mem_of_mem_take hx), by rw [List.length_take]; omega⟩, rfl, ?_⟩
    show [Blk.box [.p (.sl (List.take 2000 (List.drop 0 (bs.map encU)))), .p (.lit (.int .i64 0))]] = _
    rw [List.drop_zero, ← List.map_take]
  · rename_i h
    have h' := of_decide_eq_false h
    rw [List.length_map] at h'
    conv => whnf
    refine ⟨trivial, ?_⟩
    conv => whnf
    exact ⟨bs, ⟨hb, by omega⟩, rfl, rfl⟩
@[reducible] def encS (s : ByteArray) : List PV := [.lit (.string s)]
set_option maxHeartbeats 16000000 in
set_option maxRecDepth 100000 in
theorem of_ok (bs : List Int) (p : Int) (L : List ByteArray) (hb : Bytes bs) (h0 : 0 ≤ p) (h1 : p < 1000000) (hn : 1 ≤ L.length) (hn2 : L.length < 1000) :
    ∃ r out, (∃ s, s ∈ L ∧ r = vstr s ∧ out = [rdB bs (p + 1)]) ∧ Good Try.prog 58 [.one (.hp 0 0 0), .one (.p (.sl (L.map encS)))] [rdB bs p] r out := by
  have hm : (L.map encS).length = L.length := by rw [List.length_map]
  refine good_v noM Try.func58 rfl rfl ?_
  conv => whnf
  rw [hm]
  obtain ⟨_, _, ⟨v, hv0, hv1, rfl, rfl⟩, hg⟩ := pick_ok bs p L.length hb.rng hb.len h0 h1 (by omega) (by omega)
  refine .mk _ _ false Try.call52 hg (Nat.le_of_ble_eq_true rfl) (.inl rfl) ?_
  conv => whnf
  refine ⟨by omega, by omega, _, getD_map encS L v.toNat ByteArray.empty (by omega), ?_⟩
  conv => whnf
  refine ⟨trivial, ?_⟩
  conv => whnf
  exact ⟨L.getD v.toNat ByteArray.empty, by rw [List.getD_eq_getElem?_getD, List.getElem?_eq_getElem (by omega)]; exact List.getElem_mem _, rfl, rfl⟩
set_option maxHeartbeats 16000000 in
set_option maxRecDepth 100000 in
theorem l1Many_ok (s : ByteArray) (n : Int) (hn : n ≤ 1000) (hs : s.size ≤ 100) : ∃ r out, (∃ s', r = vstr s' ∧ s'.size ≤ 100000 ∧ out = []) ∧ Good Try.prog 59 [vstr s, vint n] [] r out := by
  refine good_v noM Try.func59 rfl rfl ?_
  conv => whnf
  refine VLoop.enter [0, 1, 5] ?_
  conv => whnf
  refine VLoop.ind3 (n0 := 0) (α := ByteArray) (β := Int) (γ := ByteArray) noM [0, 1, 5] (fun s n o => ⟨20, 0, [(0, vstr s), (1, vint n), (5, vstr o)], []⟩)
    (fun s n o => n ≤ 1000 ∧ o.size + s.size * n.toNat ≤ 100000) (fun _ n _ => n.toNat) ?_ s n _ ⟨hn, ?_⟩
  rotate_left
  · show 0 + s.size * n.toNat ≤ _
    have := Nat.mul_le_mul hs (show n.toNat ≤ 1000 by omega)
    omega
  rintro s n o ⟨hn, hs⟩
  conv => whnf
  split
  · rename_i q
    have q' := of_decide_eq_true q
    obtain ⟨m, rfl⟩ := Int.eq_ofNat_of_zero_le (show 0 ≤ n by omega)
    rw [Int.toNat_natCast] at hs
    have hm0 : 1 ≤ m := by omega
    have hw : IntKind.i64.wrap ((m : Int).tdiv 2) = ((m / 2 : Nat) : Int) := by rw [Int.tdiv_eq_ediv_of_nonneg (by omega), wi _ (by omega) (by omega)]; omega
    have hr : ((m : Int).tmod 2) = ((m % 2 : Nat) : Int) := by rw [Int.tmod_eq_emod_of_nonneg (by omega)]; omega
    have hss : s.size ≤ s.size * m := Nat.le_mul_of_pos_right _ hm0
    have hdm := Nat.div_add_mod m 2
    have key : (s ++ s).size * (m / 2) + s.size * (m % 2) = s.size * m := by
      rw [ByteArray.size_append]
      calc (s.size + s.size) * (m / 2) + s.size * (m % 2) = s.size * (2 * (m / 2) + m % 2) := by rw [Nat.mul_add, ← Nat.mul_assoc, Nat.mul_two]
        _ = s.size * m := by rw [hdm]
    have k2 : (m % 2 = 0 ∨ m % 2 = 1) := by omega
    conv => whnf
    split
    · rename_i q1
      rw [hr] at q1
      simp only [beq_iff_eq] at q1
      have q1' : m % 2 = 1 := by omega
      rw [q1', Nat.mul_one] at key
      conv => whnf
      rw [abin_cat (a := _) (b := _) rfl rfl (by omega)]
      conv => whnf
      rw [abin_cat (a := _) (b := _) rfl rfl (by omega)]
      conv => whnf
      refine ⟨_, _, _, rfl, rfl, ⟨by rw [hw]; omega, ?_⟩, by rw [hw]; omega⟩
      rw [hw, Int.toNat_natCast, ByteArray.size_append]; omega
    · rename_i q1
      rw [hr] at q1
      simp only [beq_eq_false_iff_ne] at q1
      have q1' : m % 2 = 0 := by omega
      rw [q1', Nat.mul_zero] at key
      conv => whnf
      rw [abin_cat (a := _) (b := _) rfl rfl (by omega)]
      conv => whnf
      refine ⟨_, _, _, rfl, rfl, ⟨by rw [hw]; omega, ?_⟩, by rw [hw]; omega⟩
      rw [hw, Int.toNat_natCast]; omega
  · conv => whnf
    refine ⟨trivial, ?_⟩
    conv => whnf
    exact ⟨_, rfl, by omega, rfl⟩
theorem bytes5 : Try.prog.bytesOf 5 + 1 ≤ 100 := by decide +kernel
theorem appB5 {n : Nat} (h : n ≤ 1100000) : n * (Try.prog.bytesOf 5 + 1) ≤ 140737488355328 := Nat.le_trans (Nat.mul_le_mul h bytes5) (by decide)
set_option maxHeartbeats 16000000 in
set_option maxRecDepth 100000 in
theorem l15Thing_ok (bs : List Int) (p n : Int) (hb : Bytes bs) (h0 : 0 ≤ p) (h1 : p < 900000) (hn1 : 1 ≤ n) (hn2 : n ≤ 300) :
    ∃ r out, (∃ s, s.size ≤ 300 ∧ r = vstr s ∧ out = [rdB bs (p + n)]) ∧ Good Try.prog 80 [.one (.hp 0 0 0), vint n] [rdB bs p] r out := by
  refine good_v noM Try.func80 rfl rfl ?_
  conv => whnf
  refine VLoop.enter [0, 1, 5, 6] ?_
  conv => whnf
  refine VLoop.ind4 (n0 := 2) (α := Int) (β := Int) (γ := Nat) (δ := List (List PV)) noM [0, 1, 5, 6] (fun a q L E => ⟨21, 1, [(0, .one (.hp 0 0 0)), (1, vint n), (5, .one (.hs 1 0 L)), (6, vint a)], [(0, some (rdB bs q)), (1, some (.arr 1 E))]⟩)
    (fun a q L E => 0 ≤ a ∧ a ≤ n ∧ q = p + a ∧ (L : Int) = a ∧ E.length = L ∧ ∀ el ∈ E, isByte el) (fun a _ _ _ => (n - a).toNat) ?_ 0 p 0 [] ⟨by omega, by omega, by omega, rfl, rfl, fun el hel => by cases hel⟩
  rintro a q L E ⟨ha0, ha1, rfl, hL, hE, hby⟩
  conv => whnf
  split
  · rename_i k1
    have k1' := of_decide_eq_true k1
    have hw : IntKind.i64.wrap (a + 1) = a + 1 := wi _ (by omega) (by omega)
    conv => whnf
    obtain ⟨_, _, ⟨v, hv0, hv1, rfl, rfl⟩, hg⟩ := pick_ok bs (p + a) 8 hb.rng hb.len (by omega) (by omega) (by omega) (by omega)
    refine .mk _ _ false Try.call52 hg (Nat.le_of_ble_eq_true rfl) (.inl rfl) ?_
    conv => whnf
    refine ⟨hv0, hv1, ?_⟩
    conv => whnf
    refine ⟨⟨rfl, hE.symm, rfl⟩, Nat.le_refl 1, ?_⟩
    conv => whnf
    refine ⟨(fun q => by cases q), appB5 (show E.length + 1 ≤ 1100000 by omega), fun el hel => by cases List.mem_singleton.1 hel; rfl, ?_⟩
    conv => whnf
    refine ⟨_, _, _, _, rfl, rfl, ⟨by rw [hw]; omega, by rw [hw]; omega, by rw [hw]; omega, ?_, ?_, fun el hel => ?_⟩, by rw [hw]; omega⟩
    · rw [hw]; show ((E.length + 1 : Nat) : Int) = a + 1; omega
    · rw [List.length_append]
    · rcases List.mem_append.1 hel with h | h
      · exact hby el h
      · cases List.mem_singleton.1 h; exact isByte_mk
  · rename_i k1
    have k1' := of_decide_eq_false k1
    obtain rfl : a = n := by omega
    conv => whnf
    refine ⟨⟨by omega, fun el hel => hby el (List.mem_of_mem_drop (List.mem_of_mem_take hel))⟩, ?_⟩
    conv => whnf
    refine ⟨trivial, ?_⟩
    conv => whnf
    refine ⟨_, ?_, rfl, rfl⟩
    rw [elsBytes_size, List.length_take, List.length_drop]; omega
end Go.Abs.C
