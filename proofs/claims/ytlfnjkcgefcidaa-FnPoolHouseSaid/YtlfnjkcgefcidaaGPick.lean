import Derived.Test.YtlfnjkcgefcidaaGPool7
set_option linter.unusedSimpArgs false
set_option linter.unusedVariables false
namespace Go.Abs.B
open Go Go.Abs Go.Proofs
attribute [local irreducible] IntKind.wrap
@[reducible] def encU (n : Int) : List PV := [.lit (.int .u8 n)]
@[reducible] def rdB (bs : List Int) (p : Int) : Blk := .box [.p (.sl (bs.map encU)), .p (.lit (.int .i64 p))]
theorem abin_rem {P : Program} {st : St} {t : TypeId} {y z : Operand} {k : IntKind} {a b : Int} (hy : ev st y = some (lit (.int k a))) (hz : ev st z = some (lit (.int k b))) (hb : b ≠ 0) : abin P st .rem t y z = some ⟨True, lit (.int k (a.tmod b)), []⟩ := by
  have e1 : Go.binOp .rem t (.int k a) (.int k b) = pure (.int k (a.tmod b)) := by simp [Go.binOp, Op.intDiv, hb]
  unfold abin
  rw [hy, hz]
  simp only [e1]
  rfl
theorem xor_nn {x y : Int} (h1 : 0 ≤ x) (h2 : x < 1099511627776) (h3 : 0 ≤ y) (h4 : y < 1099511627776) : 0 ≤ IntKind.i64.wrap (((BitVec.ofInt IntKind.i64.bits x ^^^ BitVec.ofInt IntKind.i64.bits y).toNat : Nat) : Int) := by
  obtain ⟨a, rfl⟩ := Int.eq_ofNat_of_zero_le h1
  obtain ⟨b, rfl⟩ := Int.eq_ofNat_of_zero_le h3
  have ha : a < 2 ^ 40 := by omega
  have hb : b < 2 ^ 40 := by omega
  have hx := Nat.xor_lt_two_pow ha hb
  have e : (BitVec.ofInt IntKind.i64.bits (a : Int) ^^^ BitVec.ofInt IntKind.i64.bits (b : Int)).toNat = a ^^^ b := by
    rw [BitVec.toNat_xor, BitVec.toNat_ofInt, BitVec.toNat_ofInt]
    have e1 : ((a : Int) % ((2 ^ IntKind.i64.bits : Nat) : Int)).toNat = a := by
      show ((a : Int) % ((2 ^ 64 : Nat) : Int)).toNat = a
      omega
    have e2 : ((b : Int) % ((2 ^ IntKind.i64.bits : Nat) : Int)).toNat = b := by
      show ((b : Int) % ((2 ^ 64 : Nat) : Int)).toNat = b
      omega
    rw [e1, e2]
  rw [e, wrap_in _ (by omega) (by omega)]
  omega
theorem abin_quo {P : Program} {st : St} {t : TypeId} {y z : Operand} {k : IntKind} {a b : Int} (hy : ev st y = some (lit (.int k a))) (hz : ev st z = some (lit (.int k b))) (hb : b ≠ 0) : abin P st .quo t y z = some ⟨True, lit (.int k (k.wrap (a.tdiv b))), []⟩ := by
  have e1 : Go.binOp .quo t (.int k a) (.int k b) = pure (.int k (k.wrap (a.tdiv b))) := by simp [Go.binOp, Op.intDiv, hb]
  unfold abin
  rw [hy, hz]
  simp only [e1]
  rfl
set_option maxHeartbeats 8000000 in
set_option maxRecDepth 100000 in
theorem pick_ok (bs : List Int) (p n : Int) (hb : ∀ x ∈ bs, 0 ≤ x ∧ x ≤ 255) (hl : bs.length ≤ 2000) (h0 : 0 ≤ p) (h1 : p < 1000000) (hn : 1 ≤ n) (hn2 : n < 1000) :
    ∃ r out, (∃ v : Int, 0 ≤ v ∧ v < n ∧ r = vint v ∧ out = [rdB bs (p + 1)]) ∧ Good Try.prog 52 [.one (.hp 0 0 0), vint n] [rdB bs p] r out := by
  refine good_v noM Try.func52 rfl rfl ?_
  have w1 : IntKind.i64.wrap (p + 1) = p + 1 := wrap_in _ (by omega) (by omega)
  have w2 : IntKind.i64.wrap (p + 1 - 1) = p := by rw [wrap_in _ (by omega) (by omega)]; omega
  conv => whnf
  rw [w1]
  split
  · rename_i h; have := of_decide_eq_true h; omega
  rename_i h
  conv => whnf
  split
  · rename_i h2
    conv => whnf
    refine ⟨trivial, ?_⟩
    conv => whnf
    exact ⟨0, by omega, by omega, rfl, rfl⟩
  rename_i h2
  have h2' : ((bs.map encU).length : Int) ≠ 0 := by simpa using h2
  rw [List.length_map] at h2'
  conv => whnf
  rw [w2]
  split
  · rename_i h3
    have h3' := of_decide_eq_true h3
    rw [List.length_map] at h3'
    conv => whnf
    refine ⟨by omega, by rw [List.length_map]; omega, _, getD_map encU bs _ 0 (by omega), ?_⟩
    conv => whnf
    refine ⟨trivial, ?_⟩
    conv => whnf
    have hbv := hb (bs.getD p.toNat 0) (by rw [List.getD_eq_getElem?_getD, List.getElem?_eq_getElem (by omega)]; exact List.getElem_mem _)
    rw [abin_rem (a := IntKind.i64.wrap (bs.getD p.toNat 0)) (b := n) rfl rfl (by omega)]
    conv => whnf
    refine ⟨trivial, ?_⟩
    conv => whnf
    rw [wrap_in _ (by omega) (by omega), Int.tmod_eq_emod_of_nonneg (by omega)]
    exact ⟨_, Int.emod_nonneg _ (by omega), Int.emod_lt_of_pos _ (by omega), rfl, rfl⟩
  rename_i h3
  have h3' := of_decide_eq_false h3
  rw [List.length_map] at h3'
  conv => whnf
  refine VDraw.go ⟨265, [0, 1, 3, 7, 0, 0, 32, 96, 224, 480, 1008, 2047, 4095, 8191, 16383, 0, 32768, 98304, 229376, 0, 524288, 1572864, 0, 4194304, 12582912, 29360128, 62914560, 133693440, 268402688, 536838144, 1073709056, 2147450880, 4294967295, 0, 8589934592, 34359738367, 0, 0, 137438953472, 412316860416, 962072674304, 2061584302080, 4329327034368, 8727373545472, 17592186044415, 35184372088831], [13, 30], []⟩ rfl rfl (by decide +kernel) ?_
  conv => whnf
  have hL : ((bs.map encU).length : Int) = bs.length := by rw [List.length_map]
  have hr1 : ∀ q : Int, 0 ≤ q → 0 ≤ q.tmod ((bs.map encU).length : Int) ∧ q.tmod ((bs.map encU).length : Int) < ((bs.map encU).length : Int) := fun q hq => by
    rw [Int.tmod_eq_emod_of_nonneg hq]; exact ⟨Int.emod_nonneg _ (by omega), Int.emod_lt_of_pos _ (by omega)⟩
  have hbv : ∀ q : Int, 0 ≤ q → q < bs.length → 0 ≤ bs.getD q.toNat 0 ∧ bs.getD q.toNat 0 ≤ 255 := fun q h1 h2 => hb _ (by rw [List.getD_eq_getElem?_getD, List.getElem?_eq_getElem (by omega)]; exact List.getElem_mem _)
  rw [abin_rem (a := p) (b := ((bs.map encU).length : Int)) rfl rfl (by omega)]
  conv => whnf
  have ha := hr1 p h0
  generalize p.tmod ((bs.map encU).length : Int) = q1 at ha ⊢
  have hq1 := hbv q1 (by omega) (by omega)
  refine ⟨by omega, by omega, _, getD_map encU bs _ 0 (by omega), ?_⟩
  conv => whnf
  refine ⟨trivial, ?_⟩
  conv => whnf
  have w7 : IntKind.i64.wrap (IntKind.i64.wrap (p * 7) + 3) = p * 7 + 3 := by rw [wrap_in (p * 7) (by omega) (by omega), wrap_in _ (by omega) (by omega)]
  rw [abin_rem (a := IntKind.i64.wrap (IntKind.i64.wrap (p * 7) + 3)) (b := ((bs.map encU).length : Int)) rfl rfl (by omega)]
  rw [w7]
  conv => whnf
  have ha2 := hr1 (p * 7 + 3) (by omega)
  generalize (p * 7 + 3).tmod ((bs.map encU).length : Int) = q2 at ha2 ⊢
  have hq2 := hbv q2 (by omega) (by omega)
  refine ⟨by omega, by omega, _, getD_map encU bs _ 0 (by omega), ?_⟩
  conv => whnf
  refine ⟨trivial, ?_⟩
  conv => whnf
  rw [abin_quo (a := p) (b := ((bs.map encU).length : Int)) rfl rfl (by omega)]
  conv => whnf
  have hq3 : 0 ≤ p.tdiv ((bs.map encU).length : Int) ∧ p.tdiv ((bs.map encU).length : Int) ≤ p := by
    rw [Int.tdiv_eq_ediv_of_nonneg h0]
    exact ⟨Int.ediv_nonneg h0 (by omega), Int.ediv_le_self _ h0⟩
  generalize p.tdiv ((bs.map encU).length : Int) = q3 at hq3 ⊢
  rw [abin_rem (k := IntKind.i64) (b := n) rfl rfl (by omega)]
  conv => whnf
  refine ⟨trivial, ?_⟩
  conv => whnf
  refine ⟨_, ?_, ?_, rfl, rfl⟩
  · refine Int.tmod_nonneg _ ?_
    have w : ∀ x : Int, 0 ≤ x → x < 1099511627776 → IntKind.i64.wrap x = x := fun x h1 h2 => wrap_in _ (by omega) (by omega)
    simp (disch := omega) only [w]
    have hX0 : 0 ≤ bs.getD q1.toNat 0 * 131 + bs.getD q2.toNat 0 * 1117 + p * 29 + q3 * 53 := by omega
    have hX1 : bs.getD q1.toNat 0 * 131 + bs.getD q2.toNat 0 * 1117 + p * 29 + q3 * 53 < 1099511627776 := by omega
    generalize bs.getD q1.toNat 0 * 131 + bs.getD q2.toNat 0 * 1117 + p * 29 + q3 * 53 = X at hX0 hX1 ⊢
    have hd : IntKind.i64.wrap (X.tdiv 64) = X / 64 := by rw [Int.tdiv_eq_ediv_of_nonneg hX0, wrap_in _ (by omega) (by omega)]
    refine xor_nn hX0 hX1 ?_ ?_
    · rw [hd]; omega
    · rw [hd]; omega
  · exact Int.tmod_lt_of_pos _ (by omega)
end Go.Abs.B
