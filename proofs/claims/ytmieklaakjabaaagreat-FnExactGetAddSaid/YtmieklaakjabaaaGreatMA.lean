import Derived.Test.YtmieklaakjabaaaGreatGAbs26
import Derived.Test.YtmieklaakjabaaaGreatGShelf
set_option linter.unusedSimpArgs false
set_option linter.unusedVariables false
namespace Go.Abs.F
open Go Go.Abs Go.Proofs Go.RowKit
attribute [local irreducible] IntKind.wrap
def inR (n lo hi : Int) : Bool := decide (lo ≤ n) && decide (n ≤ hi)
theorem inR_iff {n lo hi : Int} : inR n lo hi = true ↔ lo ≤ n ∧ n ≤ hi := by unfold inR; simp
theorem wi (x : Int) (h1 : -100000000 ≤ x) (h2 : x < 2000000000) : IntKind.i64.wrap x = x := wrap_in _ (by omega) (by omega)
set_option maxHeartbeats 4000000 in
set_option maxRecDepth 100000 in
theorem within_ok (n lo hi : Int) : Good Tryz.prog 29 [vint n, vint lo, vint hi] [] (vbool (inR n lo hi)) [] := by
  refine good_e noM Tryz.func29 rfl rfl ?_
  conv => whnf
  split
  all_goals
    rename_i h
    unfold inR
    rw [h]
    conv => whnf
    refine ⟨trivial, ?_⟩
    conv => whnf
    exact ⟨rfl, rfl⟩
set_option maxHeartbeats 4000000 in
set_option maxRecDepth 100000 in
theorem l1In_ok (n lo hi : Int) : Good Tryz.prog 33 [vint n, vint lo, vint hi] [] (vbool (inR n lo hi)) [] := by
  refine good_e noM Tryz.func33 rfl rfl ?_
  conv => whnf
  split
  all_goals
    rename_i h
    unfold inR
    rw [h]
    conv => whnf
    refine ⟨trivial, ?_⟩
    conv => whnf
    exact ⟨rfl, rfl⟩
end Go.Abs.F

set_option linter.unusedSimpArgs false
set_option linter.unusedVariables false
namespace Go.Abs.F
open Go Go.Abs Go.Proofs Go.RowKit
attribute [local irreducible] IntKind.wrap
@[reducible] def encU (n : Int) : List PV := [.lit (.int .u8 n)]
@[reducible] def rdB (bs : List Int) (p : Int) : Blk := .box [.p (.sl (bs.map encU)), .p (.lit (.int .i64 p))]
theorem xor_nn {x y : Int} (h1 : 0 ≤ x) (h2 : x < 1099511627776) (h3 : 0 ≤ y) (h4 : y < 1099511627776) : 0 ≤ IntKind.i64.wrap (((BitVec.ofInt IntKind.i64.bits x ^^^ BitVec.ofInt IntKind.i64.bits y).toNat : Nat) : Int) := by
  obtain ⟨a, rfl⟩ := Int.eq_ofNat_of_zero_le h1
  obtain ⟨b, rfl⟩ := Int.eq_ofNat_of_zero_le h3
  have ha : a < 2 ^ 40 := by omega
  have hb : b < 2 ^ 40 := by omega
  have hx := Nat.xor_lt_two_pow ha hb
  have e : (BitVec.ofInt IntKind.i64.bits (a : Int) ^^^ BitVec.ofInt IntKind.i64.bits (b : Int)).toNat = a ^^^ b := by
    rw [BitVec.toNat_xor, BitVec.toNat_ofInt, BitVec.toNat_ofInt]
    have e1 : ((a : Int) % ((2 ^ IntKind.i64.bits : Nat) : Int)).toNat = a := by
      show ((a : Int) % ((2 ^ 64 : Nat) : Int)).toNat = a
      omega
    have e2 : ((b : Int) % ((2 ^ IntKind.i64.bits : Nat) : Int)).toNat = b := by
      show ((b : Int) % ((2 ^ 64 : Nat) : Int)).toNat = b
      omega
    rw [e1, e2]
  rw [e, wrap_in _ (by omega) (by omega)]
  omega
set_option maxHeartbeats 8000000 in
set_option maxRecDepth 100000 in
theorem pick_ok (bs : List Int) (p n : Int) (hb : ∀ x ∈ bs, 0 ≤ x ∧ x ≤ 255) (hl : bs.length ≤ 2000) (h0 : 0 ≤ p) (h1 : p < 1000000) (hn : 1 ≤ n) (hn2 : n < 1000000) :
    ∃ r out, (∃ v : Int, 0 ≤ v ∧ v < n ∧ r = vint v ∧ out = [rdB bs (p + 1)]) ∧ Good Tryz.prog 26 [.one (.hp 0 0 0), vint n] [rdB bs p] r out := by
  refine good_v noM Tryz.func26 rfl rfl ?_
  have w1 : IntKind.i64.wrap (p + 1) = p + 1 := wrap_in _ (by omega) (by omega)
  have w2 : IntKind.i64.wrap (p + 1 - 1) = p := by rw [wrap_in _ (by omega) (by omega)]; omega
  conv => whnf
  rw [w1]
  split
  · rename_i h; have := of_decide_eq_true h; omega
  rename_i h
  conv => whnf
  split
  · rename_i h2
    conv => whnf
    refine ⟨trivial, ?_⟩
    conv => whnf
    exact ⟨0, by omega, by omega, rfl, rfl⟩
  rename_i h2
  have h2' : ((bs.map encU).length : Int) ≠ 0 := by simpa using h2
  rw [List.length_map] at h2'
  conv => whnf
  rw [w2]
  split
  · rename_i h3
    have h3' := of_decide_eq_true h3
    rw [List.length_map] at h3'
    conv => whnf
    refine ⟨by omega, by rw [List.length_map]; omega, _, getD_map encU bs _ 0 (by omega), ?_⟩
    conv => whnf
    refine ⟨trivial, ?_⟩
    conv => whnf
    have hbv := hb (bs.getD p.toNat 0) (by rw [List.getD_eq_getElem?_getD, List.getElem?_eq_getElem (by omega)]; exact List.getElem_mem _)
    rw [abin_rem (a := IntKind.i64.wrap (bs.getD p.toNat 0)) (b := n) rfl rfl (by omega)]
    conv => whnf
    refine ⟨trivial, ?_⟩
    conv => whnf
    rw [wrap_in _ (by omega) (by omega), Int.tmod_eq_emod_of_nonneg (by omega)]
    exact ⟨_, Int.emod_nonneg _ (by omega), Int.emod_lt_of_pos _ (by omega), rfl, rfl⟩
  rename_i h3
  have h3' := of_decide_eq_false h3
  rw [List.length_map] at h3'
  conv => whnf
  refine VDraw.go ⟨_, [0, 1, 3, 7, 0, 0, 32, 96, 224, 480, 1008, 2047, 4095, 8191, 16383, 0, 32768, 98304, 229376, 0, 524288, 1572864, 0, 4194304, 12582912, 29360128, 62914560, 133693440, 268402688, 536838144, 1073709056, 2147450880, 4294967295, 0, 8589934592, 34359738367, 0, 0, 137438953472, 412316860416, 962072674304, 2061584302080, 4329327034368, 8727373545472, 17592186044415, 35184372088831], [13, 30], []⟩ rfl rfl (by decide +kernel) ?_
  conv => whnf
  have hL : ((bs.map encU).length : Int) = bs.length := by rw [List.length_map]
  have hr1 : ∀ q : Int, 0 ≤ q → 0 ≤ q.tmod ((bs.map encU).length : Int) ∧ q.tmod ((bs.map encU).length : Int) < ((bs.map encU).length : Int) := fun q hq => by
    rw [Int.tmod_eq_emod_of_nonneg hq]; exact ⟨Int.emod_nonneg _ (by omega), Int.emod_lt_of_pos _ (by omega)⟩
  have hbv : ∀ q : Int, 0 ≤ q → q < bs.length → 0 ≤ bs.getD q.toNat 0 ∧ bs.getD q.toNat 0 ≤ 255 := fun q h1 h2 => hb _ (by rw [List.getD_eq_getElem?_getD, List.getElem?_eq_getElem (by omega)]; exact List.getElem_mem _)
  rw [abin_rem (a := p) (b := ((bs.map encU).length : Int)) rfl rfl (by omega)]
  conv => whnf
  have ha := hr1 p h0
  generalize p.tmod ((bs.map encU).length : Int) = q1 at ha ⊢
  have hq1 := hbv q1 (by omega) (by omega)
  refine ⟨by omega, by omega, _, getD_map encU bs _ 0 (by omega), ?_⟩
  conv => whnf
  refine ⟨trivial, ?_⟩
  conv => whnf
  have w7 : IntKind.i64.wrap (IntKind.i64.wrap (p * 7) + 3) = p * 7 + 3 := by rw [wrap_in (p * 7) (by omega) (by omega), wrap_in _ (by omega) (by omega)]
  rw [abin_rem (a := IntKind.i64.wrap (IntKind.i64.wrap (p * 7) + 3)) (b := ((bs.map encU).length : Int)) rfl rfl (by omega)]
  rw [w7]
  conv => whnf
  have ha2 := hr1 (p * 7 + 3) (by omega)
  generalize (p * 7 + 3).tmod ((bs.map encU).length : Int) = q2 at ha2 ⊢
  have hq2 := hbv q2 (by omega) (by omega)
  refine ⟨by omega, by omega, _, getD_map encU bs _ 0 (by omega), ?_⟩
  conv => whnf
  refine ⟨trivial, ?_⟩
  conv => whnf
  rw [abin_quo (a := p) (b := ((bs.map encU).length : Int)) rfl rfl (by omega)]
  conv => whnf
  have hq3 : 0 ≤ p.tdiv ((bs.map encU).length : Int) ∧ p.tdiv ((bs.map encU).length : Int) ≤ p := by
    rw [Int.tdiv_eq_ediv_of_nonneg h0]
    exact ⟨Int.ediv_nonneg h0 (by omega), Int.ediv_le_self _ h0⟩
  generalize p.tdiv ((bs.map encU).length : Int) = q3 at hq3 ⊢
  rw [abin_rem (k := IntKind.i64) (b := n) rfl rfl (by omega)]
  conv => whnf
  refine ⟨trivial, ?_⟩
  conv => whnf
  refine ⟨_, ?_, ?_, rfl, rfl⟩
  · refine Int.tmod_nonneg _ ?_
    have w : ∀ x : Int, 0 ≤ x → x < 1099511627776 → IntKind.i64.wrap x = x := fun x h1 h2 => wrap_in _ (by omega) (by omega)
    simp (disch := omega) only [w]
    have hX0 : 0 ≤ bs.getD q1.toNat 0 * 131 + bs.getD q2.toNat 0 * 1117 + p * 29 + q3 * 53 := by omega
    have hX1 : bs.getD q1.toNat 0 * 131 + bs.getD q2.toNat 0 * 1117 + p * 29 + q3 * 53 < 1099511627776 := by omega
    generalize bs.getD q1.toNat 0 * 131 + bs.getD q2.toNat 0 * 1117 + p * 29 + q3 * 53 = X at hX0 hX1 ⊢
    have hd : IntKind.i64.wrap (X.tdiv 64) = X / 64 := by rw [Int.tdiv_eq_ediv_of_nonneg hX0, wrap_in _ (by omega) (by omega)]
    refine xor_nn hX0 hX1 ?_ ?_
    · rw [hd]; omega
    · rw [hd]; omega
  · exact Int.tmod_lt_of_pos _ (by omega)
structure Bytes (bs : List Int) : Prop where
  rng : ∀ x ∈ bs, 0 ≤ x ∧ x ≤ 255
  len : bs.length ≤ 2000
set_option maxHeartbeats 8000000 in
set_option maxRecDepth 100000 in
theorem l1Open_ok (bs : List Int) (hb : ∀ x ∈ bs, 0 ≤ x ∧ x ≤ 255) (hl : bs.length ≤ 9223372036854775807) :
    ∃ r out, (∃ bs', Bytes bs' ∧ r = .one (.hp 0 0 0) ∧ out = [rdB bs' 0]) ∧ Good Tryz.prog 22 [.one (.p (.sl (bs.map encU)))] [] r out := by
  refine good_v noM Tryz.func22 rfl rfl ?_
  conv => whnf
  split
  · rename_i h
    have h' := of_decide_eq_true h
    rw [List.length_map] at h'
    conv => whnf
    refine ⟨⟨by decide, by decide, by rw [List.length_map]; omega, by decide +kernel, fun x hx => by obtain ⟨y, _, rfl⟩ := List.mem_map.1 hx; rw [show Tryz.prog.cellsOf 5 = 1 by decide +kernel]; rfl⟩, ?_⟩
    conv => whnf
    refine ⟨trivial, ?_⟩
    conv => whnf
    refine ⟨bs.take 2000, ⟨fun x hx => hb x (List.mem_of_mem_take hx), by rw [List.length_take]; omega⟩, rfl, ?_⟩
    show [Blk.box [.p (.sl (List.take 2000 (List.drop 0 (bs.map encU)))), .p (.lit (.int .i64 0))]] = _
    rw [List.drop_zero, ← List.map_take]
  · rename_i h
    have h' := of_decide_eq_false h
    rw [List.length_map] at h'
    conv => whnf
    refine ⟨trivial, ?_⟩
    conv => whnf
    exact ⟨bs, ⟨hb, by omega⟩, rfl, rfl⟩
@[reducible] def encT (s : ByteArray) : List PV := [.lit (.string s)]
set_option maxHeartbeats 16000000 in
set_option maxRecDepth 100000 in
theorem l1Many_ok (s : ByteArray) (n : Int) (hn : n ≤ 1000) (hs : s.size ≤ 100) : ∃ r out, (∃ s', r = vstr s' ∧ s'.size ≤ 100000 ∧ out = []) ∧ Good Tryz.prog 104 [vstr s, vint n] [] r out := by
  refine good_v noM Tryz.func104 rfl rfl ?_
  conv => whnf
  refine VLoop.enter [0, 1, 5] ?_
  conv => whnf
  refine VLoop.ind3 (n0 := 0) (α := ByteArray) (β := Int) (γ := ByteArray) noM [0, 1, 5] (fun s n o => ⟨20, 0, [(0, vstr s), (1, vint n), (5, vstr o)], []⟩)
    (fun s n o => n ≤ 1000 ∧ o.size + s.size * n.toNat ≤ 100000) (fun _ n _ => n.toNat) ?_ s n _ ⟨hn, ?_⟩
  rotate_left
  · show 0 + s.size * n.toNat ≤ _
    have := Nat.mul_le_mul hs (show n.toNat ≤ 1000 by omega)
    omega
  rintro s n o ⟨hn, hs⟩
  conv => whnf
  split
  · rename_i q
    have q' := of_decide_eq_true q
    obtain ⟨m, rfl⟩ := Int.eq_ofNat_of_zero_le (show 0 ≤ n by omega)
    rw [Int.toNat_natCast] at hs
    have hm0 : 1 ≤ m := by omega
    have hw : IntKind.i64.wrap ((m : Int).tdiv 2) = ((m / 2 : Nat) : Int) := by rw [Int.tdiv_eq_ediv_of_nonneg (by omega), wi _ (by omega) (by omega)]; omega
    have hr : ((m : Int).tmod 2) = ((m % 2 : Nat) : Int) := by rw [Int.tmod_eq_emod_of_nonneg (by omega)]; omega
    have hss : s.size ≤ s.size * m := Nat.le_mul_of_pos_right _ hm0
    have hdm := Nat.div_add_mod m 2
    have key : (s ++ s).size * (m / 2) + s.size * (m % 2) = s.size * m := by
      rw [ByteArray.size_append]
      calc (s.size + s.size) * (m / 2) + s.size * (m % 2) = s.size * (2 * (m / 2) + m % 2) := by rw [Nat.mul_add, ← Nat.mul_assoc, Nat.mul_two]
        _ = s.size * m := by rw [hdm]
    have k2 : (m % 2 = 0 ∨ m % 2 = 1) := by omega
    conv => whnf
    split
    · rename_i q1
      rw [hr] at q1
      simp only [beq_iff_eq] at q1
      have q1' : m % 2 = 1 := by omega
      rw [q1', Nat.mul_one] at key
      conv => whnf
      rw [abin_cat (a := _) (b := _) rfl rfl (by omega)]
      conv => whnf
      rw [abin_cat (a := _) (b := _) rfl rfl (by omega)]
      conv => whnf
      refine ⟨_, _, _, rfl, rfl, ⟨by rw [hw]; omega, ?_⟩, by rw [hw]; omega⟩
      rw [hw, Int.toNat_natCast, ByteArray.size_append]; omega
    · rename_i q1
      rw [hr] at q1
      simp only [beq_eq_false_iff_ne] at q1
      have q1' : m % 2 = 0 := by omega
      rw [q1', Nat.mul_zero] at key
      conv => whnf
      rw [abin_cat (a := _) (b := _) rfl rfl (by omega)]
      conv => whnf
      refine ⟨_, _, _, rfl, rfl, ⟨by rw [hw]; omega, ?_⟩, by rw [hw]; omega⟩
      rw [hw, Int.toNat_natCast]; omega
  · conv => whnf
    refine ⟨trivial, ?_⟩
    conv => whnf
    exact ⟨_, rfl, by omega, rfl⟩
end Go.Abs.F

set_option linter.unusedSimpArgs false
set_option linter.unusedVariables false
namespace Go.Abs.F
open Go Go.Abs Go.Proofs Go.RowKit
attribute [local irreducible] IntKind.wrap
@[reducible] def eI (n : Int) : List PV := [.lit (.int .i64 n)]
theorem atI (l : List Int) {j i : Nat} (e : j = i) (h : i < l.length) : (l.map eI).getD j [] = eI (l.getD i 0) := by rw [e]; exact getD_map eI l i 0 h
@[reducible] def slI (l : List Int) : PV := .sl (l.map eI)
@[reducible] def planF (l s : Int) (ws gs : List Int) : AV := .agg [.p (.lit (.int .i64 l)), .p (.lit (.int .i64 s)), .p (slI ws), .p (slI gs)]
/-- How many blocks. -/
def cnt (l s : Int) : Int := IntKind.i64.wrap ((IntKind.i64.wrap (IntKind.i64.wrap (l + s) - 1)).tdiv s)
theorem wb (x : Int) (h1 : -9223372036854775808 ≤ x) (h2 : x ≤ 9223372036854775807) : IntKind.i64.wrap x = x := wrap_in _ h1 h2
theorem cnt_eq {l s : Int} (h1 : 1 ≤ l) (h2 : l ≤ 300) (h3 : 1 ≤ s) (h4 : s ≤ 16) : cnt l s = (l + s - 1) / s := by
  unfold cnt
  rw [wb (l + s) (by omega) (by omega), wb (l + s - 1) (by omega) (by omega), Int.tdiv_eq_ediv_of_nonneg (by omega)]
  have h5 : 0 ≤ (l + s - 1) / s := Int.ediv_nonneg (by omega) (by omega)
  have h6 : (l + s - 1) / s ≤ l + s - 1 := Int.ediv_le_self _ (by omega)
  exact wb _ (by omega) (by omega)
set_option maxHeartbeats 16000000 in
set_option maxRecDepth 100000 in
theorem specCount_ok (l s : Int) (ws gs : List Int) (hs : s ≠ 0) : Good Tryz.prog 43 [planF l s ws gs] [] (vint (cnt l s)) [] := by
  refine good_e noM Tryz.func43 rfl rfl ?_
  conv => whnf
  rw [abin_quo (a := IntKind.i64.wrap (IntKind.i64.wrap (l + s) - 1)) (b := s) rfl rfl hs]
  conv => whnf
  refine ⟨trivial, ?_⟩
  conv => whnf
  exact ⟨rfl, rfl⟩
set_option maxHeartbeats 16000000 in
set_option maxRecDepth 100000 in
theorem implCount_ok (l s : Int) (ws gs : List Int) (hs : s ≠ 0) : Good Tryz.prog 40 [planF l s ws gs] [] (vint (cnt l s)) [] := by
  refine good_e noM Tryz.func40 rfl rfl ?_
  conv => whnf
  rw [abin_quo (a := IntKind.i64.wrap (IntKind.i64.wrap (l + s) - 1)) (b := s) rfl rfl hs]
  conv => whnf
  refine ⟨trivial, ?_⟩
  conv => whnf
  exact ⟨rfl, rfl⟩
structure POk (l s : Int) (ws gs : List Int) : Prop where
  l1 : 1 ≤ l
  l2 : l ≤ 300
  s1 : 1 ≤ s
  s2 : s ≤ 16
  c1 : 1 ≤ cnt l s
  c2 : cnt l s ≤ 24
  w1 : 1 ≤ ws.length
  w2 : ws.length ≤ 3
  g : gs.length = ws.length
  rng : ∀ i, i < ws.length → 1 ≤ ws.getD i 0 ∧ ws.getD i 0 ≤ cnt l s
  asc : ∀ i, i + 1 < ws.length → ws.getD i 0 < ws.getD (i + 1) 0
  wt : ∀ i, i < ws.length → 1 ≤ gs.getD i 0 ∧ gs.getD i 0 ≤ 99
  last : ws.getD (ws.length - 1) 0 = cnt l s
theorem pok_ex (l s : Int) (ws gs : List Int) : ∃ b : Bool, b = true ↔ POk l s ws gs := by
  by_cases h : POk l s ws gs
  · exact ⟨true, fun _ => h, fun _ => rfl⟩
  · exact ⟨false, fun q => by (cases q), fun q => (h q).elim⟩
theorem pok_f {l s : Int} {ws gs : List Int} {b : Bool} (hb : b = true ↔ POk l s ws gs) (h : ¬ POk l s ws gs) : b = false := by
  cases b with
  | false => rfl
  | true => exact (h (hb.1 rfl)).elim
theorem inR_f {n lo hi : Int} (h : inR n lo hi = false) : ¬ (lo ≤ n ∧ n ≤ hi) := fun q => by rw [inR_iff.2 q] at h; cases h
set_option maxHeartbeats 16000000 in
set_option maxRecDepth 100000 in
theorem specPOk_ok (l s : Int) (ws gs : List Int) (hw : ws.length ≤ 1100000) (b : Bool) (hb : b = true ↔ POk l s ws gs) : Good Tryz.prog 41 [planF l s ws gs] [] (vbool b) [] := by
  have hwm : (ws.map eI).length = ws.length := List.length_map ..
  have hgm : (gs.map eI).length = gs.length := List.length_map ..
  refine good_e noM Tryz.func41 rfl rfl ?_
  conv => whnf
  refine .mk _ _ false Tryz.call33 (l1In_ok l 1 300) (Nat.le_of_ble_eq_true rfl) (.inl rfl) ?_
  conv => whnf
  cases h1 : inR l 1 300 with
  | false =>
    obtain rfl := pok_f hb fun q => inR_f h1 ⟨q.l1, q.l2⟩
    conv => whnf
    refine ⟨trivial, ?_⟩
    conv => whnf
    exact ⟨rfl, rfl⟩
  | true =>
  conv => whnf
  refine .mk _ _ false Tryz.call33 (l1In_ok s 1 16) (Nat.le_of_ble_eq_true rfl) (.inl rfl) ?_
  conv => whnf
  cases h2 : inR s 1 16 with
  | false =>
    obtain rfl := pok_f hb fun q => inR_f h2 ⟨q.s1, q.s2⟩
    conv => whnf
    refine ⟨trivial, ?_⟩
    conv => whnf
    exact ⟨rfl, rfl⟩
  | true =>
  have h1' := inR_iff.1 h1
  have h2' := inR_iff.1 h2
  conv => whnf
  refine .mk _ _ false Tryz.call43 (specCount_ok l s ws gs (by omega)) (Nat.le_of_ble_eq_true rfl) (.inl rfl) ?_
  conv => whnf
  refine .mk _ _ false Tryz.call33 (l1In_ok (cnt l s) 1 24) (Nat.le_of_ble_eq_true rfl) (.inl rfl) ?_
  conv => whnf
  cases h3 : inR (cnt l s) 1 24 with
  | false =>
    obtain rfl := pok_f hb fun q => inR_f h3 ⟨q.c1, q.c2⟩
    conv => whnf
    refine ⟨trivial, ?_⟩
    conv => whnf
    exact ⟨rfl, rfl⟩
  | true =>
  have h3' := inR_iff.1 h3
  conv => whnf
  refine .mk _ _ false Tryz.call33 (l1In_ok _ 1 3) (Nat.le_of_ble_eq_true rfl) (.inl rfl) ?_
  conv => whnf
  rw [hwm]
  cases h4 : inR (ws.length : Int) 1 3 with
  | false =>
    obtain rfl := pok_f hb fun q => inR_f h4 ⟨by have := q.w1; omega, by have := q.w2; omega⟩
    conv => whnf
    refine ⟨trivial, ?_⟩
    conv => whnf
    exact ⟨rfl, rfl⟩
  | true =>
  have h4' := inR_iff.1 h4
  conv => whnf
  rw [hgm, hwm]
  split
  · rename_i q
    have q' : ¬ (gs.length : Int) = ws.length := bne_iff_ne.1 q
    obtain rfl := pok_f hb fun p => by have := p.g; omega
    conv => whnf
    refine ⟨trivial, ?_⟩
    conv => whnf
    exact ⟨rfl, rfl⟩
  rename_i q
  have q' : (gs.length : Int) = ws.length := by simpa using q
  have hgl : gs.length = ws.length := by omega
  conv => whnf
  refine VLoop.enter [1, 3] ?_
  conv => whnf
  refine VLoop.ind1 (n0 := 1) (α := Int) noM [1, 3] (fun a => ⟨90, 0, [(1, .one (.hp 0 0 0)), (3, vint a)], [(0, some (.box [.p (.lit (.int .i64 l)), .p (.lit (.int .i64 s)), .p (slI ws), .p (slI gs)]))]⟩)
    (fun a => ∃ i : Nat, a = i ∧ i ≤ ws.length ∧ ∀ k, k < i → (1 ≤ ws.getD k 0 ∧ ws.getD k 0 ≤ cnt l s) ∧ (0 < k → ws.getD (k - 1) 0 < ws.getD k 0) ∧ (1 ≤ gs.getD k 0 ∧ gs.getD k 0 ≤ 99)) (fun a => (ws.length - a).toNat) ?_ 0 ⟨0, rfl, by omega, fun k hk => by omega⟩
  rintro _ ⟨i, rfl, hi, hk⟩
  have en : ((i : Nat) : Int).toNat = i := Int.toNat_natCast i
  conv => whnf
  rw [hwm]
  split
  · rename_i qq
    have qq' : (i : Int) < ws.length := of_decide_eq_true qq
    have hwi : IntKind.i64.wrap ((i : Int) + 1) = ((i + 1 : Nat) : Int) := by rw [wrap_in _ (by omega) (by omega)]; omega
    conv => whnf
    refine VDraw.goR [0, 1, 0, 7, 15, 0, 32, 127, 255, 511, 1023, 2047, 4095, 8191, 16383, 8191, 40959, 131071, 262143, 8191, 532479, 8191, 3678207, 7872511, 16777215, 33554431, 67108863, 134217727, 268435455, 536870911, 268435455, 2147483647, 4294967295, 8589934591, 17179869183, 34359738367] [6, 7, 33] [] [] rfl (by decide +kernel) ?_
    conv => whnf
    refine ⟨by omega, by rw [hwm]; omega, _, atI ws en (by omega), ?_⟩
    conv => whnf
    refine .mk _ _ false Tryz.call43 (specCount_ok l s ws gs (by omega)) (Nat.le_of_ble_eq_true rfl) (.inl rfl) ?_
    conv => whnf
    refine .mk _ _ false Tryz.call33 (l1In_ok (ws.getD i 0) 1 (cnt l s)) (Nat.le_of_ble_eq_true rfl) (.inl rfl) ?_
    conv => whnf
    cases h5 : inR (ws.getD i 0) 1 (cnt l s) with
    | false =>
      obtain rfl := pok_f hb fun p => inR_f h5 (p.rng i (by omega))
      conv => whnf
      refine ⟨trivial, ?_⟩
      conv => whnf
      exact ⟨rfl, rfl⟩
    | true =>
    have h5' := inR_iff.1 h5
    conv => whnf
    split
    · rename_i q1
      have q1' : (i : Int) > 0 := of_decide_eq_true q1
      have hw1 : IntKind.i64.wrap ((i : Int) - 1) = ((i - 1 : Nat) : Int) := by rw [wrap_in _ (by omega) (by omega)]; omega
      have en1 : ((i - 1 : Nat) : Int).toNat = i - 1 := Int.toNat_natCast _
      conv => whnf
      rw [hw1]
      refine ⟨by omega, by rw [hwm]; omega, _, atI ws en1 (by omega), ?_⟩
      conv => whnf
      refine ⟨by omega, by rw [hwm]; omega, _, atI ws en (by omega), ?_⟩
      conv => whnf
      split
      · rename_i q2
        have q2' := of_decide_eq_true q2
        obtain rfl := pok_f hb fun p => by
          have := p.asc (i - 1) (by omega)
          rw [show i - 1 + 1 = i by omega] at this
          omega
        conv => whnf
        refine ⟨trivial, ?_⟩
        conv => whnf
        exact ⟨rfl, rfl⟩
      rename_i q2
      have q2' := of_decide_eq_false q2
      conv => whnf
      refine ⟨by omega, by rw [hgm]; omega, _, atI gs en (by omega), ?_⟩
      conv => whnf
      refine .mk _ _ false Tryz.call33 (l1In_ok (gs.getD i 0) 1 99) (Nat.le_of_ble_eq_true rfl) (.inl rfl) ?_
      conv => whnf
      cases h6 : inR (gs.getD i 0) 1 99 with
      | false =>
        obtain rfl := pok_f hb fun p => inR_f h6 (p.wt i (by omega))
        conv => whnf
        refine ⟨trivial, ?_⟩
        conv => whnf
        exact ⟨rfl, rfl⟩
      | true =>
      have h6' := inR_iff.1 h6
      conv => whnf
      refine ⟨_, rfl, rfl, ⟨i + 1, hwi, by omega, fun k hkk => ?_⟩, by rw [hwi]; omega⟩
      by_cases e : k = i
      · subst e; exact ⟨h5', fun _ => by omega, h6'⟩
      · exact hk k (by omega)
    · rename_i q1
      have q1' : ¬ (i : Int) > 0 := of_decide_eq_false q1
      conv => whnf
      refine ⟨by omega, by rw [hgm]; omega, _, atI gs en (by omega), ?_⟩
      conv => whnf
      refine .mk _ _ false Tryz.call33 (l1In_ok (gs.getD i 0) 1 99) (Nat.le_of_ble_eq_true rfl) (.inl rfl) ?_
      conv => whnf
      cases h6 : inR (gs.getD i 0) 1 99 with
      | false =>
        obtain rfl := pok_f hb fun p => inR_f h6 (p.wt i (by omega))
        conv => whnf
        refine ⟨trivial, ?_⟩
        conv => whnf
        exact ⟨rfl, rfl⟩
      | true =>
      have h6' := inR_iff.1 h6
      conv => whnf
      refine ⟨_, rfl, rfl, ⟨i + 1, hwi, by omega, fun k hkk => ?_⟩, by rw [hwi]; omega⟩
      by_cases e : k = i
      · subst e; exact ⟨h5', fun _ => by omega, h6'⟩
      · exact hk k (by omega)
  · rename_i qq
    have qq' : ¬ (i : Int) < ws.length := of_decide_eq_false qq
    obtain rfl : i = ws.length := by omega
    have hw1 : IntKind.i64.wrap ((ws.length : Int) - 1) = ((ws.length - 1 : Nat) : Int) := by rw [wrap_in _ (by omega) (by omega)]; omega
    have en1 : ((ws.length - 1 : Nat) : Int).toNat = ws.length - 1 := Int.toNat_natCast _
    conv => whnf
    refine VDraw.goR [0, 1, 0, 4, 12, 28, 63, 127, 0, 256, 1023, 2047] [9] [] [] rfl (by decide +kernel) ?_
    conv => whnf
    rw [hwm, hw1]
    refine ⟨by omega, by omega, _, atI ws en1 (by omega), ?_⟩
    conv => whnf
    refine .mk _ _ false Tryz.call43 (specCount_ok l s ws gs (by omega)) (Nat.le_of_ble_eq_true rfl) (.inl rfl) ?_
    conv => whnf
    have hbb : (ws.getD (ws.length - 1) 0 == cnt l s) = b := by
      cases hq : (ws.getD (ws.length - 1) 0 == cnt l s) with
      | true =>
        have := beq_iff_eq.1 hq
        exact (hb.2 ⟨h1'.1, h1'.2, h2'.1, h2'.2, h3'.1, h3'.2, by omega, by omega, hgl, fun k hkk => (hk k hkk).1, fun k hkk => (hk (k + 1) hkk).2.1 (by omega), fun k hkk => (hk k hkk).2.2, this⟩).symm
      | false =>
        have := beq_eq_false_iff_ne.1 hq
        exact (pok_f hb fun p => this p.last).symm
    rw [hbb]
    refine ⟨trivial, ?_⟩
    conv => whnf
    exact ⟨rfl, rfl⟩
end Go.Abs.F

set_option linter.unusedSimpArgs false
set_option linter.unusedVariables false
namespace Go.Abs.F
open Go Go.Abs Go.Proofs Go.RowKit
attribute [local irreducible] IntKind.wrap
end Go.Abs.F

set_option linter.unusedSimpArgs false
set_option linter.unusedVariables false
namespace Go.Abs.F
open Go Go.Abs Go.Proofs Go.RowKit
attribute [local irreducible] IntKind.wrap
@[reducible] def nilP : AC := .p (.lit (.slice none 0 0))
set_option maxHeartbeats 16000000 in
set_option maxRecDepth 100000 in
theorem specCountN_ok (l s : Int) (hs : s ≠ 0) : Good Tryz.prog 43 [.agg [.p (.lit (.int .i64 l)), .p (.lit (.int .i64 s)), nilP, nilP]] [] (vint (cnt l s)) [] := by
  refine good_e noM Tryz.func43 rfl rfl ?_
  conv => whnf
  rw [abin_quo (a := IntKind.i64.wrap (IntKind.i64.wrap (l + s) - 1)) (b := s) rfl rfl hs]
  conv => whnf
  refine ⟨trivial, ?_⟩
  conv => whnf
  exact ⟨rfl, rfl⟩
theorem cnt_rng {l s : Int} (h1 : 1 ≤ l) (h2 : l ≤ 300) (h3 : 8 ≤ s) (h4 : s ≤ 16) : 1 ≤ cnt l s ∧ cnt l s ≤ 38 ∧ (13 ≤ s → cnt l s ≤ 24) := by
  rw [cnt_eq h1 h2 (by omega) h4]
  have : s = 8 ∨ s = 9 ∨ s = 10 ∨ s = 11 ∨ s = 12 ∨ s = 13 ∨ s = 14 ∨ s = 15 ∨ s = 16 := by omega
  rcases this with rfl | rfl | rfl | rfl | rfl | rfl | rfl | rfl | rfl <;> omega
/-- A plan with its rows. -/
def PlanR (r : AV) (out : List Blk) : Prop := ∃ (l s : Int) (ws gs : List Int) (n m : Nat), POk l s ws gs ∧ n = ws.length ∧ m = gs.length ∧ r = .agg [.p (.lit (.int .i64 l)), .p (.lit (.int .i64 s)), .hs 0 0 n, .hs 1 0 m] ∧ out = [.arr 1 (ws.map eI), .arr 1 (gs.map eI)]
theorem pok1 {l s a g : Int} (l1 : 1 ≤ l) (l2 : l ≤ 300) (s1 : 1 ≤ s) (s2 : s ≤ 16) (c1 : 1 ≤ cnt l s) (c2 : cnt l s ≤ 24) (ha : a = cnt l s) (hg : 1 ≤ g ∧ g ≤ 99) : POk l s [a] [g] := by
  refine ⟨l1, l2, s1, s2, c1, c2, Nat.le_refl 1, Nat.le_of_ble_eq_true rfl, rfl, fun i hi => ?_, fun i hi => ?_, fun i hi => ?_, ha⟩
  · obtain rfl : i = 0 := by simp at hi; exact hi
    show 1 ≤ a ∧ a ≤ _; omega
  · simp at hi
  · obtain rfl : i = 0 := by simp at hi; exact hi
    exact hg
theorem pok2 {l s a b g h : Int} (l1 : 1 ≤ l) (l2 : l ≤ 300) (s1 : 1 ≤ s) (s2 : s ≤ 16) (c1 : 1 ≤ cnt l s) (c2 : cnt l s ≤ 24) (ha : 1 ≤ a) (hab : a < b) (hb : b = cnt l s) (hg : 1 ≤ g ∧ g ≤ 99) (hh : 1 ≤ h ∧ h ≤ 99) : POk l s [a, b] [g, h] := by
  refine ⟨l1, l2, s1, s2, c1, c2, Nat.le_of_ble_eq_true rfl, Nat.le_of_ble_eq_true rfl, rfl, fun i hi => ?_, fun i hi => ?_, fun i hi => ?_, hb⟩
  · have : i = 0 ∨ i = 1 := by simp at hi; omega
    rcases this with rfl | rfl
    · show 1 ≤ a ∧ a ≤ _; omega
    · show 1 ≤ b ∧ b ≤ _; omega
  · obtain rfl : i = 0 := by simp at hi; omega
    exact hab
  · have : i = 0 ∨ i = 1 := by simp at hi; omega
    rcases this with rfl | rfl
    · exact hg
    · exact hh
theorem pok3 {l s a b c g h k : Int} (l1 : 1 ≤ l) (l2 : l ≤ 300) (s1 : 1 ≤ s) (s2 : s ≤ 16) (c1 : 1 ≤ cnt l s) (c2 : cnt l s ≤ 24) (ha : 1 ≤ a) (hab : a < b) (hbc : b < c) (hb : c = cnt l s) (hg : 1 ≤ g ∧ g ≤ 99) (hh : 1 ≤ h ∧ h ≤ 99) (hk : 1 ≤ k ∧ k ≤ 99) : POk l s [a, b, c] [g, h, k] := by
  refine ⟨l1, l2, s1, s2, c1, c2, Nat.le_of_ble_eq_true rfl, Nat.le_of_ble_eq_true rfl, rfl, fun i hi => ?_, fun i hi => ?_, fun i hi => ?_, hb⟩
  · have : i = 0 ∨ i = 1 ∨ i = 2 := by simp at hi; omega
    rcases this with rfl | rfl | rfl
    · show 1 ≤ a ∧ a ≤ _; omega
    · show 1 ≤ b ∧ b ≤ _; omega
    · show 1 ≤ c ∧ c ≤ _; omega
  · have : i = 0 ∨ i = 1 := by simp at hi; omega
    rcases this with rfl | rfl
    · exact hab
    · exact hbc
  · have : i = 0 ∨ i = 1 ∨ i = 2 := by simp at hi; omega
    rcases this with rfl | rfl | rfl
    · exact hg
    · exact hh
    · exact hk
set_option maxHeartbeats 16000000 in
set_option maxRecDepth 100000 in
theorem l5For_ok (l : Int) (h1 : 1 ≤ l) (h2 : l ≤ 300) : ∃ r out, PlanR r out ∧ Good Tryz.prog 118 [vint l] [] r out := by
  refine good_v noM Tryz.func118 rfl rfl ?_
  conv => whnf
  refine VLoop.enter [2, 3] ?_
  conv => whnf
  refine VLoop.ind1 (n0 := 2) (α := Int) noM [2, 3] (fun a => ⟨35, 0, [(2, .one (.hp 0 0 0)), (3, .one (.hp 1 0 0))], [(0, some (.box [.p (.lit (.int .i64 0)), .p (.lit (.int .i64 0)), nilP, nilP])), (1, some (.box [.p (.lit (.int .i64 l)), .p (.lit (.int .i64 a)), nilP, nilP]))]⟩)
    (fun a => 8 ≤ a ∧ a ≤ 13) (fun a => (13 - a).toNat) ?_ 8 ⟨by omega, by omega⟩
  rintro a ⟨ha0, ha1⟩
  have hc := cnt_rng h1 h2 ha0 (by omega)
  conv => whnf
  refine .mk _ _ false Tryz.call43 (specCountN_ok l a (by omega)) (Nat.le_of_ble_eq_true rfl) (.inl rfl) ?_
  conv => whnf
  split
  · rename_i q
    have q' := of_decide_eq_true q
    have hw : IntKind.i64.wrap (a + 1) = a + 1 := wrap_in _ (by omega) (by omega)
    conv => whnf
    refine ⟨_, rfl, rfl, ⟨by rw [hw]; omega, by rw [hw]; omega⟩, by rw [hw]; omega⟩
  · rename_i q
    have q' := of_decide_eq_false q
    conv => whnf
    refine .mk _ _ false Tryz.call43 (specCountN_ok l a (by omega)) (Nat.le_of_ble_eq_true rfl) (.inl rfl) ?_
    conv => whnf
    have hk : IntKind.i64.wrap ((IntKind.i64.wrap (cnt l a + 3)).tdiv 4) = (cnt l a + 3) / 4 := by
      rw [wrap_in (cnt l a + 3) (by omega) (by omega), Int.tdiv_eq_ediv_of_nonneg (by omega), wrap_in _ (by omega) (by omega)]
    rw [hk]
    split
    · rename_i q1
      have q1' := of_decide_eq_true q1
      conv => whnf
      refine ⟨⟨⟨by decide +kernel, Nat.le_of_ble_eq_true rfl⟩, trivial⟩, ?_⟩
      conv => whnf
      exact ⟨l, a, [(cnt l a + 3) / 4, cnt l a], [2, 3], 2, 2, pok2 h1 h2 (by omega) (by omega) hc.1 (by omega) (by omega) q1' rfl (by decide) (by decide), rfl, rfl, rfl, rfl⟩
    · rename_i q1
      have q1' := of_decide_eq_false q1
      conv => whnf
      refine ⟨⟨⟨by decide +kernel, Nat.le_of_ble_eq_true rfl⟩, trivial⟩, ?_⟩
      conv => whnf
      exact ⟨l, a, [cnt l a], [1], 1, 1, pok1 h1 h2 (by omega) (by omega) hc.1 (by omega) rfl (by decide), rfl, rfl, rfl, rfl⟩
/-- A drawn plan: ahead of its rows the reader. -/
def PlanD (bs : List Int) (p : Int) (r : AV) (out : List Blk) : Prop := ∃ (l s : Int) (ws gs gs' : List Int) (n m : Nat) (q : Int), POk l s ws gs ∧ n = ws.length ∧ m = gs.length ∧ gs = gs'.take m ∧ m ≤ gs'.length ∧ p ≤ q ∧ q ≤ p + 10 ∧ r = .agg [.p (.lit (.int .i64 l)), .p (.lit (.int .i64 s)), .hs 1 0 n, .hs 2 0 m] ∧ out = [rdB bs q, .arr 1 (ws.map eI), .arr 1 (gs'.map eI)]
theorem take_all {l : List Int} {n : Nat} (h : n = l.length) : List.take n (List.drop 0 (l.map eI)) = l.map eI := by
  subst h
  rw [List.drop_zero, List.take_of_length_le (by rw [List.length_map]; exact Nat.le_refl _)]
theorem len_all {l : List Int} {n : Nat} (h : n = l.length) : 0 + n ≤ (l.map eI).length := by rw [List.length_map]; omega
set_option maxHeartbeats 16000000 in
set_option maxRecDepth 100000 in
theorem l15Plan_ok (bs : List Int) (p : Int) (hb : Bytes bs) (h0 : 0 ≤ p) (h1 : p < 900000) : ∃ r out, PlanD bs p r out ∧ Good Tryz.prog 100 [.one (.hp 0 0 0)] [rdB bs p] r out := by
  refine good_v noM Tryz.func100 rfl rfl ?_
  conv => whnf
  obtain ⟨_, _, ⟨v, hv0, hv1, rfl, rfl⟩, hg⟩ := pick_ok bs p 300 hb.rng hb.len h0 (by omega) (by omega) (by omega)
  refine .mk _ _ false Tryz.call26 hg (Nat.le_of_ble_eq_true rfl) (.inl rfl) ?_
  conv => whnf
  have hw1 : IntKind.i64.wrap (1 + v) = 1 + v := wrap_in _ (by omega) (by omega)
  rw [hw1]
  obtain ⟨_, _, ⟨l, s, ws, gs, n, m, hp, hn, hm, rfl, rfl⟩, hg2⟩ := l5For_ok (1 + v) (by omega) (by omega)
  refine .mk _ _ false Tryz.call118 hg2 (Nat.le_of_ble_eq_true rfl) (.inl rfl) ?_
  conv => whnf
  obtain ⟨_, _, ⟨v2, hv20, hv21, rfl, rfl⟩, hg3⟩ := pick_ok bs (p + 1) 2 hb.rng hb.len (by omega) (by omega) (by omega) (by omega)
  refine .mk _ _ false Tryz.call26 hg3 (Nat.le_of_ble_eq_true rfl) (.inl rfl) ?_
  conv => whnf
  obtain ⟨q0, hq0⟩ : ∃ q0, q0 = p + 1 + 1 := ⟨_, rfl⟩
  rw [← hq0]
  split
  · rename_i k0
    conv => whnf
    obtain ⟨_, _, ⟨v3, hv30, hv31, rfl, rfl⟩, hg4⟩ := pick_ok bs q0 60 hb.rng hb.len (by omega) (by omega) (by omega) (by omega)
    refine .mk _ _ false Tryz.call26 hg4 (Nat.le_of_ble_eq_true rfl) (.inl rfl) ?_
    conv => whnf
    have hw2 : IntKind.i64.wrap (1 + v3) = 1 + v3 := wrap_in _ (by omega) (by omega)
    rw [hw2]
    obtain ⟨_, _, ⟨l, s, ws, gs, n, m, hp, hn, hm, rfl, rfl⟩, hg5⟩ := l5For_ok (1 + v3) (by omega) (by omega)
    refine .mk _ _ false Tryz.call118 hg5 (Nat.le_of_ble_eq_true rfl) (.inl rfl) ?_
    conv => whnf
    refine ⟨len_all hn, len_all hm, ?_⟩
    rw [take_all hn, take_all hm]
    refine .mk _ _ false Tryz.call43 (specCount_ok l s ws gs (by have := hp.s1; omega)) (Nat.le_of_ble_eq_true rfl) (.inr ⟨AV.nsB_iff rfl, fun k hk => by cases hk⟩) ?_
    conv => whnf
    obtain ⟨q, hq⟩ : ∃ q, q = q0 + 1 := ⟨_, rfl⟩
    rw [← hq]
    have c1 := hp.c1
    have c2 := hp.c2
    split
    · rename_i k1
      have k1' := of_decide_eq_true k1
      conv => whnf
      obtain ⟨_, _, ⟨v4, hv40, hv41, rfl, rfl⟩, hg6⟩ := pick_ok bs q 3 hb.rng hb.len (by omega) (by omega) (by omega) (by omega)
      refine .mk _ _ false Tryz.call26 hg6 (Nat.le_of_ble_eq_true rfl) (.inl rfl) ?_
      conv => whnf
      split
      · rename_i k2
        conv => whnf
        have hw3 : IntKind.i64.wrap (cnt l s - 2) = cnt l s - 2 := wrap_in _ (by omega) (by omega)
        rw [hw3]
        obtain ⟨_, _, ⟨v5, hv50, hv51, rfl, rfl⟩, hg7⟩ := pick_ok bs (q + 1) (cnt l s - 2) hb.rng hb.len (by omega) (by omega) (by omega) (by omega)
        refine .mk _ _ false Tryz.call26 hg7 (Nat.le_of_ble_eq_true rfl) (.inl rfl) ?_
        conv => whnf
        have hw4 : IntKind.i64.wrap (1 + v5) = 1 + v5 := wrap_in _ (by omega) (by omega)
        have hw5 : IntKind.i64.wrap (1 + v5 + 1) = 1 + v5 + 1 := wrap_in _ (by omega) (by omega)
        obtain ⟨_, _, ⟨v6, hv60, hv61, rfl, rfl⟩, hg8⟩ := pick_ok bs (q + 1 + 1) 9 hb.rng hb.len (by omega) (by omega) (by omega) (by omega)
        refine .mk _ _ false Tryz.call26 hg8 (Nat.le_of_ble_eq_true rfl) (.inl rfl) ?_
        conv => whnf
        obtain ⟨_, _, ⟨v7, hv70, hv71, rfl, rfl⟩, hg9⟩ := pick_ok bs (q + 1 + 1 + 1) 9 hb.rng hb.len (by omega) (by omega) (by omega) (by omega)
        refine .mk _ _ false Tryz.call26 hg9 (Nat.le_of_ble_eq_true rfl) (.inl rfl) ?_
        conv => whnf
        obtain ⟨_, _, ⟨v8, hv80, hv81, rfl, rfl⟩, hg10⟩ := pick_ok bs (q + 1 + 1 + 1 + 1) 9 hb.rng hb.len (by omega) (by omega) (by omega) (by omega)
        refine .mk _ _ false Tryz.call26 hg10 (Nat.le_of_ble_eq_true rfl) (.inl rfl) ?_
        conv => whnf
        have hw6 : IntKind.i64.wrap (1 + v6) = 1 + v6 := wrap_in _ (by omega) (by omega)
        have hw7 : IntKind.i64.wrap (1 + v7) = 1 + v7 := wrap_in _ (by omega) (by omega)
        have hw8 : IntKind.i64.wrap (1 + v8) = 1 + v8 := wrap_in _ (by omega) (by omega)
        rw [hw4, hw5, hw6, hw7, hw8]
        have o1 := hp.l1; have o2 := hp.l2; have o3 := hp.s1; have o4 := hp.s2
        split
        · rename_i k3
          have k3' : 1 + v5 + 1 = cnt l s := beq_iff_eq.1 k3
          conv => whnf
          refine ⟨⟨by decide, by decide, by decide, Nat.le_refl 3, by decide +kernel, by decide +kernel⟩, ?_⟩
          conv => whnf
          refine ⟨⟨⟨by decide +kernel, Nat.le_of_ble_eq_true rfl⟩, trivial⟩, ?_⟩
          conv => whnf
          exact ⟨l, s, [1 + v5, cnt l s], [1 + v6, 1 + v7], [1 + v6, 1 + v7, 1 + v8], 2, 2, q + 1 + 1 + 1 + 1 + 1, pok2 o1 o2 o3 o4 c1 c2 (by omega) (by omega) rfl (by omega) (by omega), rfl, rfl, rfl, Nat.le_of_ble_eq_true rfl, by omega, by omega, rfl, rfl⟩
        · rename_i k3
          have k3' : ¬ 1 + v5 + 1 = cnt l s := beq_eq_false_iff_ne.1 k3
          conv => whnf
          refine ⟨⟨⟨by decide +kernel, Nat.le_of_ble_eq_true rfl⟩, trivial⟩, ?_⟩
          conv => whnf
          exact ⟨l, s, [1 + v5, 1 + v5 + 1, cnt l s], [1 + v6, 1 + v7, 1 + v8], [1 + v6, 1 + v7, 1 + v8], 3, 3, q + 1 + 1 + 1 + 1 + 1, pok3 o1 o2 o3 o4 c1 c2 (by omega) (by omega) (by omega) rfl (by omega) (by omega) (by omega), rfl, rfl, rfl, Nat.le_refl 3, by omega, by omega, rfl, rfl⟩
      · rename_i k2
        conv => whnf
        refine ⟨⟨⟨by decide +kernel, Nat.le_of_ble_eq_true rfl⟩, trivial⟩, ?_⟩
        conv => whnf
        exact ⟨l, s, ws, gs, gs, n, m, q + 1, hp, hn, hm, by rw [hm, List.take_of_length_le (Nat.le_refl _)], by omega, by omega, by omega, rfl, rfl⟩
    · rename_i k1
      conv => whnf
      refine ⟨⟨⟨by decide +kernel, Nat.le_of_ble_eq_true rfl⟩, trivial⟩, ?_⟩
      conv => whnf
      exact ⟨l, s, ws, gs, gs, n, m, q, hp, hn, hm, by rw [hm, List.take_of_length_le (Nat.le_refl _)], by omega, by omega, by omega, rfl, rfl⟩
  · rename_i k0
    conv => whnf
    refine ⟨len_all hn, len_all hm, ?_⟩
    rw [take_all hn, take_all hm]
    refine .mk _ _ false Tryz.call43 (specCount_ok l s ws gs (by have := hp.s1; omega)) (Nat.le_of_ble_eq_true rfl) (.inr ⟨AV.nsB_iff rfl, fun k hk => by cases hk⟩) ?_
    conv => whnf
    obtain ⟨q, hq⟩ : ∃ q, q = q0 := ⟨_, rfl⟩
    rw [← hq]
    have c1 := hp.c1
    have c2 := hp.c2
    split
    · rename_i k1
      have k1' := of_decide_eq_true k1
      conv => whnf
      obtain ⟨_, _, ⟨v4, hv40, hv41, rfl, rfl⟩, hg6⟩ := pick_ok bs q 3 hb.rng hb.len (by omega) (by omega) (by omega) (by omega)
      refine .mk _ _ false Tryz.call26 hg6 (Nat.le_of_ble_eq_true rfl) (.inl rfl) ?_
      conv => whnf
      split
      · rename_i k2
        conv => whnf
        have hw3 : IntKind.i64.wrap (cnt l s - 2) = cnt l s - 2 := wrap_in _ (by omega) (by omega)
        rw [hw3]
        obtain ⟨_, _, ⟨v5, hv50, hv51, rfl, rfl⟩, hg7⟩ := pick_ok bs (q + 1) (cnt l s - 2) hb.rng hb.len (by omega) (by omega) (by omega) (by omega)
        refine .mk _ _ false Tryz.call26 hg7 (Nat.le_of_ble_eq_true rfl) (.inl rfl) ?_
        conv => whnf
        have hw4 : IntKind.i64.wrap (1 + v5) = 1 + v5 := wrap_in _ (by omega) (by omega)
        have hw5 : IntKind.i64.wrap (1 + v5 + 1) = 1 + v5 + 1 := wrap_in _ (by omega) (by omega)
        obtain ⟨_, _, ⟨v6, hv60, hv61, rfl, rfl⟩, hg8⟩ := pick_ok bs (q + 1 + 1) 9 hb.rng hb.len (by omega) (by omega) (by omega) (by omega)
        refine .mk _ _ false Tryz.call26 hg8 (Nat.le_of_ble_eq_true rfl) (.inl rfl) ?_
        conv => whnf
        obtain ⟨_, _, ⟨v7, hv70, hv71, rfl, rfl⟩, hg9⟩ := pick_ok bs (q + 1 + 1 + 1) 9 hb.rng hb.len (by omega) (by omega) (by omega) (by omega)
        refine .mk _ _ false Tryz.call26 hg9 (Nat.le_of_ble_eq_true rfl) (.inl rfl) ?_
        conv => whnf
        obtain ⟨_, _, ⟨v8, hv80, hv81, rfl, rfl⟩, hg10⟩ := pick_ok bs (q + 1 + 1 + 1 + 1) 9 hb.rng hb.len (by omega) (by omega) (by omega) (by omega)
        refine .mk _ _ false Tryz.call26 hg10 (Nat.le_of_ble_eq_true rfl) (.inl rfl) ?_
        conv => whnf
        have hw6 : IntKind.i64.wrap (1 + v6) = 1 + v6 := wrap_in _ (by omega) (by omega)
        have hw7 : IntKind.i64.wrap (1 + v7) = 1 + v7 := wrap_in _ (by omega) (by omega)
        have hw8 : IntKind.i64.wrap (1 + v8) = 1 + v8 := wrap_in _ (by omega) (by omega)
        rw [hw4, hw5, hw6, hw7, hw8]
        have o1 := hp.l1; have o2 := hp.l2; have o3 := hp.s1; have o4 := hp.s2
        split
        · rename_i k3
          have k3' : 1 + v5 + 1 = cnt l s := beq_iff_eq.1 k3
          conv => whnf
          refine ⟨⟨by decide, by decide, by decide, Nat.le_refl 3, by decide +kernel, by decide +kernel⟩, ?_⟩
          conv => whnf
          refine ⟨⟨⟨by decide +kernel, Nat.le_of_ble_eq_true rfl⟩, trivial⟩, ?_⟩
          conv => whnf
          exact ⟨l, s, [1 + v5, cnt l s], [1 + v6, 1 + v7], [1 + v6, 1 + v7, 1 + v8], 2, 2, q + 1 + 1 + 1 + 1 + 1, pok2 o1 o2 o3 o4 c1 c2 (by omega) (by omega) rfl (by omega) (by omega), rfl, rfl, rfl, Nat.le_of_ble_eq_true rfl, by omega, by omega, rfl, rfl⟩
        · rename_i k3
          have k3' : ¬ 1 + v5 + 1 = cnt l s := beq_eq_false_iff_ne.1 k3
          conv => whnf
          refine ⟨⟨⟨by decide +kernel, Nat.le_of_ble_eq_true rfl⟩, trivial⟩, ?_⟩
          conv => whnf
          exact ⟨l, s, [1 + v5, 1 + v5 + 1, cnt l s], [1 + v6, 1 + v7, 1 + v8], [1 + v6, 1 + v7, 1 + v8], 3, 3, q + 1 + 1 + 1 + 1 + 1, pok3 o1 o2 o3 o4 c1 c2 (by omega) (by omega) (by omega) rfl (by omega) (by omega) (by omega), rfl, rfl, rfl, Nat.le_refl 3, by omega, by omega, rfl, rfl⟩
      · rename_i k2
        conv => whnf
        refine ⟨⟨⟨by decide +kernel, Nat.le_of_ble_eq_true rfl⟩, trivial⟩, ?_⟩
        conv => whnf
        exact ⟨l, s, ws, gs, gs, n, m, q + 1, hp, hn, hm, by rw [hm, List.take_of_length_le (Nat.le_refl _)], by omega, by omega, by omega, rfl, rfl⟩
    · rename_i k1
      conv => whnf
      refine ⟨⟨⟨by decide +kernel, Nat.le_of_ble_eq_true rfl⟩, trivial⟩, ?_⟩
      conv => whnf
      exact ⟨l, s, ws, gs, gs, n, m, q, hp, hn, hm, by rw [hm, List.take_of_length_le (Nat.le_refl _)], by omega, by omega, by omega, rfl, rfl⟩
end Go.Abs.F

set_option linter.unusedSimpArgs false
set_option linter.unusedVariables false
namespace Go.Abs.F
open Go Go.Abs Go.Proofs Go.RowKit
attribute [local irreducible] IntKind.wrap
theorem elsBytes_size (els : List (List PV)) : (elsBytes els).size = els.length := by
  show (els.map byteOf).toArray.size = _
  simp
theorem bytesEls_len (s : ByteArray) : (bytesEls s).length = s.size := by simp [bytesEls]
theorem bytesEls_isByte (s : ByteArray) : ∀ el ∈ bytesEls s, isByte el := fun el h => by
  obtain ⟨b, _, rfl⟩ := List.mem_map.1 h
  exact ⟨_, rfl⟩
theorem isByte_set {l : List (List PV)} {i : Nat} {n : Int} (h : ∀ el ∈ l, isByte el) : ∀ el ∈ l.set i [.lit (.int .u8 n)], isByte el := fun el hel => by
  rcases List.mem_or_eq_of_mem_set hel with q | rfl
  · exact h el q
  · exact ⟨n, rfl⟩
theorem bytesEls_at (s : ByteArray) (i : Nat) (h : i < s.size) : (bytesEls s).getD i [] = [.lit (.int .u8 (s.data.toList.getD i 0).toNat)] := by
  unfold bytesEls
  rw [List.getD_eq_getElem?_getD, List.getElem?_map, List.getD_eq_getElem?_getD, List.getElem?_eq_getElem (by simpa using h)]
  rfl
@[reducible] def e8 (n : Int) : List PV := [.lit (.int .u8 n)]
theorem e8_isByte (l : List Int) : ∀ el ∈ l.map e8, isByte el := fun el h => by
  obtain ⟨b, _, rfl⟩ := List.mem_map.1 h
  exact ⟨_, rfl⟩
theorem e8_snoc (l : List Int) (x : Int) : l.map e8 ++ [e8 x] = (l ++ [x]).map e8 := by simp
theorem bytes5 : Tryz.prog.bytesOf 5 + 1 ≤ 100 := by decide +kernel
theorem app5 {n : Nat} (h : n ≤ 1099511627777) : n * (Tryz.prog.bytesOf 5 + 1) ≤ 140737488355328 := Nat.le_trans (Nat.mul_le_mul h bytes5) (by decide)
set_option maxHeartbeats 16000000 in
set_option maxRecDepth 100000 in
theorem l15Block_ok (bs : List Int) (p n : Int) (hb : Bytes bs) (h0 : 0 ≤ p) (h1 : p < 900000) (hn0 : 1 ≤ n) (hn : n ≤ 100) : ∃ r out, (∃ (s : ByteArray) (q : Int), r = vstr s ∧ (s.size : Int) = n ∧ p ≤ q ∧ q ≤ p + 200 ∧ out = [rdB bs q]) ∧ Good Tryz.prog 27 [.one (.hp 0 0 0), vint n] [rdB bs p] r out := by
  refine good_v noM Tryz.func27 rfl rfl ?_
  conv => whnf
  refine VLoop.enter [0, 1, 5, 6] ?_
  conv => whnf
  refine VLoop.ind3 (n0 := 2) (α := Nat) (β := Int × Int) (γ := List (List PV)) noM [0, 1, 5, 6] (fun L x E => ⟨24, 1, [(0, .one (.hp 0 0 0)), (1, vint n), (5, .one (.hs 1 0 L)), (6, vint x.1)], [(0, some (rdB bs x.2)), (1, some (.arr 1 E))]⟩)
    (fun L x E => ∃ (l : List Int) (i : Nat), l.length = i ∧ L = i ∧ x.1 = i ∧ E = l.map e8 ∧ (i : Int) ≤ n ∧ x.2 = p + 2 * i) (fun L _ _ => (n - L).toNat) ?_ 0 (0, p) [] ⟨[], 0, rfl, rfl, rfl, rfl, by omega, by show p = _; omega⟩
  rintro i ⟨_, _⟩ _ ⟨l, _, hl, rfl, h2, rfl, hi, h3⟩
  have h2' := h2
  have h3' := h3
  dsimp only at h2' h3'
  subst h2' h3'
  clear h2 h3
  have hem : (l.map e8).length = i := by rw [List.length_map, hl]
  conv => whnf
  split
  · rename_i k
    have k' := of_decide_eq_true k
    conv => whnf
    obtain ⟨_, _, ⟨v, hv0, hv1, rfl, rfl⟩, hg⟩ := pick_ok bs (p + 2 * i) 4 hb.rng hb.len (by omega) (by omega) (by omega) (by omega)
    refine .mk _ _ false Tryz.call26 hg (Nat.le_of_ble_eq_true rfl) (.inl rfl) ?_
    conv => whnf
    obtain ⟨_, _, ⟨v2, hv20, hv21, rfl, rfl⟩, hg2⟩ := pick_ok bs (p + 2 * i + 1) 80 hb.rng hb.len (by omega) (by omega) (by omega) (by omega)
    refine .mk _ _ false Tryz.call26 hg2 (Nat.le_of_ble_eq_true rfl) (.inl rfl) ?_
    conv => whnf
    refine ⟨trivial, ?_⟩
    conv => whnf
    refine ⟨⟨rfl, hem.symm, rfl⟩, Nat.le_refl 1, ?_⟩
    conv => whnf
    refine ⟨(fun q => by cases q), app5 (show (l.map e8).length + 1 ≤ _ by omega), fun el hel => by cases List.mem_singleton.1 hel; rfl, ?_⟩
    conv => whnf
    refine ⟨_, (_, _), _, rfl, rfl, ⟨l ++ [_], i + 1, ?_, ?_, ?_, e8_snoc l _, by omega, ?_⟩, ?_⟩
    · rw [List.length_append, hl]; rfl
    · rw [hem]; rfl
    · show IntKind.i64.wrap ((i : Int) + 1) = _
      rw [wrap_in _ (by omega) (by omega)]; omega
    · show p + 2 * (i : Int) + 1 + 1 = _; omega
    · rw [hem]; show (n - ((i + 1 : Nat) : Int)).toNat < _; omega
  · rename_i k
    have k' := of_decide_eq_false k
    conv => whnf
    refine ⟨⟨by omega, fun el hel => e8_isByte l el (List.mem_of_mem_drop (List.mem_of_mem_take hel))⟩, ?_⟩
    conv => whnf
    refine ⟨trivial, ?_⟩
    conv => whnf
    refine ⟨_, _, rfl, ?_, ?_, ?_, rfl⟩
    · rw [elsBytes_size, List.length_take, List.length_drop, hem]; omega
    · omega
    · omega
end Go.Abs.F

set_option linter.unusedSimpArgs false
set_option linter.unusedVariables false
namespace Go.Abs.F
open Go Go.Abs Go.Proofs Go.RowKit
attribute [local irreducible] IntKind.wrap
end Go.Abs.F

set_option linter.unusedSimpArgs false
set_option linter.unusedVariables false
namespace Go.Abs.F
open Go Go.Abs Go.Proofs Go.RowKit
attribute [local irreducible] IntKind.wrap
theorem cnt_pos {l s : Int} (h1 : 1 ≤ l) (h2 : l ≤ 300) (h3 : 1 ≤ s) (h4 : s ≤ 16) : 1 ≤ cnt l s := by
  rw [cnt_eq h1 h2 h3 h4]
  exact Int.le_ediv_of_mul_le (by omega) (by omega)
set_option maxHeartbeats 16000000 in
set_option maxRecDepth 100000 in
theorem implPOk_ok (l s : Int) (ws gs : List Int) (hw : ws.length ≤ 1100000) (b : Bool) (hb : b = true ↔ POk l s ws gs) : Good Tryz.prog 38 [planF l s ws gs] [] (vbool b) [] := by
  have hwm : (ws.map eI).length = ws.length := List.length_map ..
  have hgm : (gs.map eI).length = gs.length := List.length_map ..
  refine good_e noM Tryz.func38 rfl rfl ?_
  conv => whnf
  refine .mk _ _ false Tryz.call29 (within_ok l 1 300) (Nat.le_of_ble_eq_true rfl) (.inl rfl) ?_
  conv => whnf
  cases h1 : inR l 1 300 with
  | false =>
    obtain rfl := pok_f hb fun q => inR_f h1 ⟨q.l1, q.l2⟩
    conv => whnf
    refine ⟨trivial, ?_⟩
    conv => whnf
    exact ⟨rfl, rfl⟩
  | true =>
  conv => whnf
  refine .mk _ _ false Tryz.call29 (within_ok s 1 16) (Nat.le_of_ble_eq_true rfl) (.inl rfl) ?_
  conv => whnf
  cases h2 : inR s 1 16 with
  | false =>
    obtain rfl := pok_f hb fun q => inR_f h2 ⟨q.s1, q.s2⟩
    conv => whnf
    refine ⟨trivial, ?_⟩
    conv => whnf
    exact ⟨rfl, rfl⟩
  | true =>
  have h1' := inR_iff.1 h1
  have h2' := inR_iff.1 h2
  have hc0 := cnt_pos h1'.1 h1'.2 h2'.1 h2'.2
  conv => whnf
  refine .mk _ _ false Tryz.call40 (implCount_ok l s ws gs (by omega)) (Nat.le_of_ble_eq_true rfl) (.inl rfl) ?_
  conv => whnf
  split
  · rename_i q
    have q' := of_decide_eq_true q
    obtain rfl := pok_f hb fun p => by have := p.c2; omega
    conv => whnf
    refine ⟨trivial, ?_⟩
    conv => whnf
    exact ⟨rfl, rfl⟩
  rename_i q
  have q' := of_decide_eq_false q
  conv => whnf
  refine VDraw.goR [0, 1, 3, 7, 15, 31, 63, 127, 255, 63, 575, 1599, 4095, 8191, 16383, 32767, 65535, 32767, 163839, 425983, 950271, 2097151, 4194303, 32767, 8421375, 33554431, 67108863] [3, 24] [] [] rfl (by decide +kernel) ?_
  conv => whnf
  refine .mk _ _ false Tryz.call29 (within_ok _ 1 3) (Nat.le_of_ble_eq_true rfl) (.inl rfl) ?_
  conv => whnf
  rw [hwm]
  cases h4 : inR (ws.length : Int) 1 3 with
  | false =>
    obtain rfl := pok_f hb fun q => inR_f h4 ⟨by have := q.w1; omega, by have := q.w2; omega⟩
    conv => whnf
    refine ⟨trivial, ?_⟩
    conv => whnf
    exact ⟨rfl, rfl⟩
  | true =>
  have h4' := inR_iff.1 h4
  conv => whnf
  rw [hgm, hwm]
  split
  · rename_i q
    have q' : ¬ (gs.length : Int) = ws.length := bne_iff_ne.1 q
    obtain rfl := pok_f hb fun p => by have := p.g; omega
    conv => whnf
    refine ⟨trivial, ?_⟩
    conv => whnf
    exact ⟨rfl, rfl⟩
  rename_i q2
  have q2' : (gs.length : Int) = ws.length := by simpa using q2
  have hgl : gs.length = ws.length := by omega
  have hw1 : IntKind.i64.wrap ((ws.length : Int) - 1) = ((ws.length - 1 : Nat) : Int) := by rw [wrap_in _ (by omega) (by omega)]; omega
  have en1 : ((ws.length - 1 : Nat) : Int).toNat = ws.length - 1 := Int.toNat_natCast _
  conv => whnf
  rw [hwm, hw1]
  refine ⟨by omega, by omega, _, atI ws en1 (by omega), ?_⟩
  conv => whnf
  refine .mk _ _ false Tryz.call40 (implCount_ok l s ws gs (by omega)) (Nat.le_of_ble_eq_true rfl) (.inl rfl) ?_
  conv => whnf
  split
  · rename_i q3
    have q3' : ¬ ws.getD (ws.length - 1) 0 = cnt l s := bne_iff_ne.1 q3
    obtain rfl := pok_f hb fun p => q3' p.last
    conv => whnf
    refine ⟨trivial, ?_⟩
    conv => whnf
    exact ⟨rfl, rfl⟩
  rename_i q3
  have q3' : ws.getD (ws.length - 1) 0 = cnt l s := by simpa using q3
  conv => whnf
  refine VLoop.enter [1, 48, 49, 50] ?_
  conv => whnf
  refine VLoop.ind1 (n0 := 1) (α := Int) noM [1, 48, 49, 50] (fun a => ⟨84, 0, [(1, .one (.hp 0 0 0)), (48, .one (.p (slI ws))), (49, vint ((ws.map eI).length : Int)), (50, vint a)], [(0, some (.box [.p (.lit (.int .i64 l)), .p (.lit (.int .i64 s)), .p (slI ws), .p (slI gs)]))]⟩)
    (fun a => ∃ i : Nat, a = i ∧ i ≤ ws.length ∧ ∀ k, k < i → (1 ≤ ws.getD k 0 ∧ ws.getD k 0 ≤ cnt l s) ∧ (0 < k → ws.getD (k - 1) 0 < ws.getD k 0) ∧ (1 ≤ gs.getD k 0 ∧ gs.getD k 0 ≤ 99)) (fun a => (ws.length - a).toNat) ?_ 0 ⟨0, rfl, by omega, fun k hk => by omega⟩
  rintro _ ⟨i, rfl, hi, hk⟩
  have en : ((i : Nat) : Int).toNat = i := Int.toNat_natCast i
  conv => whnf
  rw [hwm]
  split
  · rename_i qq
    have qq' : (i : Int) < ws.length := of_decide_eq_true qq
    have hwi : IntKind.i64.wrap ((i : Int) + 1) = ((i + 1 : Nat) : Int) := by rw [wrap_in _ (by omega) (by omega)]; omega
    conv => whnf
    refine ⟨by omega, by rw [hwm]; omega, _, atI ws en (by omega), ?_⟩
    conv => whnf
    refine .mk _ _ false Tryz.call40 (implCount_ok l s ws gs (by omega)) (Nat.le_of_ble_eq_true rfl) (.inl rfl) ?_
    conv => whnf
    refine .mk _ _ false Tryz.call29 (within_ok (ws.getD i 0) 1 (cnt l s)) (Nat.le_of_ble_eq_true rfl) (.inl rfl) ?_
    conv => whnf
    cases h5 : inR (ws.getD i 0) 1 (cnt l s) with
    | false =>
      obtain rfl := pok_f hb fun p => inR_f h5 (p.rng i (by omega))
      conv => whnf
      refine ⟨trivial, ?_⟩
      conv => whnf
      exact ⟨rfl, rfl⟩
    | true =>
    have h5' := inR_iff.1 h5
    conv => whnf
    split
    · rename_i q1
      have q1' : (i : Int) > 0 := of_decide_eq_true q1
      have hw1 : IntKind.i64.wrap ((i : Int) - 1) = ((i - 1 : Nat) : Int) := by rw [wrap_in _ (by omega) (by omega)]; omega
      have en1 : ((i - 1 : Nat) : Int).toNat = i - 1 := Int.toNat_natCast _
      conv => whnf
      rw [hw1]
      refine ⟨by omega, by rw [hwm]; omega, _, atI ws en1 (by omega), ?_⟩
      conv => whnf
      split
      · rename_i q2
        have q2' := of_decide_eq_true q2
        obtain rfl := pok_f hb fun p => by
          have := p.asc (i - 1) (by omega)
          rw [show i - 1 + 1 = i by omega] at this
          omega
        conv => whnf
        refine ⟨trivial, ?_⟩
        conv => whnf
        exact ⟨rfl, rfl⟩
      rename_i q2
      have q2' := of_decide_eq_false q2
      conv => whnf
      refine ⟨by omega, by rw [hgm]; omega, _, atI gs en (by omega), ?_⟩
      conv => whnf
      refine .mk _ _ false Tryz.call29 (within_ok (gs.getD i 0) 1 99) (Nat.le_of_ble_eq_true rfl) (.inl rfl) ?_
      conv => whnf
      cases h6 : inR (gs.getD i 0) 1 99 with
      | false =>
        obtain rfl := pok_f hb fun p => inR_f h6 (p.wt i (by omega))
        conv => whnf
        refine ⟨trivial, ?_⟩
        conv => whnf
        exact ⟨rfl, rfl⟩
      | true =>
      have h6' := inR_iff.1 h6
      conv => whnf
      refine ⟨_, rfl, rfl, ⟨i + 1, hwi, by omega, fun k hkk => ?_⟩, by rw [hwi]; omega⟩
      by_cases e : k = i
      · subst e; exact ⟨h5', fun _ => by omega, h6'⟩
      · exact hk k (by omega)
    · rename_i q1
      have q1' : ¬ (i : Int) > 0 := of_decide_eq_false q1
      conv => whnf
      refine ⟨by omega, by rw [hgm]; omega, _, atI gs en (by omega), ?_⟩
      conv => whnf
      refine .mk _ _ false Tryz.call29 (within_ok (gs.getD i 0) 1 99) (Nat.le_of_ble_eq_true rfl) (.inl rfl) ?_
      conv => whnf
      cases h6 : inR (gs.getD i 0) 1 99 with
      | false =>
        obtain rfl := pok_f hb fun p => inR_f h6 (p.wt i (by omega))
        conv => whnf
        refine ⟨trivial, ?_⟩
        conv => whnf
        exact ⟨rfl, rfl⟩
      | true =>
      have h6' := inR_iff.1 h6
      conv => whnf
      refine ⟨_, rfl, rfl, ⟨i + 1, hwi, by omega, fun k hkk => ?_⟩, by rw [hwi]; omega⟩
      by_cases e : k = i
      · subst e; exact ⟨h5', fun _ => by omega, h6'⟩
      · exact hk k (by omega)
  · rename_i qq
    have qq' : ¬ (i : Int) < ws.length := of_decide_eq_false qq
    obtain rfl : i = ws.length := by omega
    obtain rfl : b = true := hb.2 ⟨h1'.1, h1'.2, h2'.1, h2'.2, hc0, by omega, by omega, by omega, hgl, fun k hkk => (hk k hkk).1, fun k hkk => (hk (k + 1) hkk).2.1 (by omega), fun k hkk => (hk k hkk).2.2, q3'⟩
    conv => whnf
    refine ⟨trivial, ?_⟩
    conv => whnf
    exact ⟨rfl, rfl⟩
end Go.Abs.F

set_option linter.unusedSimpArgs false
set_option linter.unusedVariables false
namespace Go.Abs.F
open Go Go.Abs Go.Proofs Go.RowKit
attribute [local irreducible] IntKind.wrap
theorem bytes3 : Tryz.prog.bytesOf 3 + 1 ≤ 100 := by decide +kernel
theorem app3 {n : Nat} (h : n ≤ 1099511627777) : n * (Tryz.prog.bytesOf 3 + 1) ≤ 140737488355328 := Nat.le_trans (Nat.mul_le_mul h bytes3) (by decide)
end Go.Abs.F

set_option linter.unusedSimpArgs false
set_option linter.unusedVariables false
namespace Go.Abs.F
open Go Go.Abs Go.Proofs Go.RowKit
attribute [local irreducible] IntKind.wrap
set_option maxHeartbeats 16000000 in
set_option maxRecDepth 100000 in
theorem whInts_same (l : List Int) (hl : l.length ≤ 1100000) : Good Tryz.prog 86 [.one (.p (slI l)), .one (.p (slI l))] [] (vbool true) [] := by
  have hm : (l.map eI).length = l.length := List.length_map ..
  refine good_e noM Tryz.func86 rfl rfl ?_
  conv => whnf
  rw [show ((((l.map eI).length : Nat) : Int) != (((l.map eI).length : Nat) : Int)) = false by simp]
  conv => whnf
  refine VLoop.enter [0, 1, 5] ?_
  conv => whnf
  refine VLoop.ind1 (n0 := 0) (α := Int) noM [0, 1, 5] (fun i => ⟨26, 0, [(0, .one (.p (slI l))), (1, .one (.p (slI l))), (5, vint i)], []⟩)
    (fun i => 0 ≤ i ∧ i ≤ l.length) (fun i => (l.length - i).toNat) ?_ 0 ⟨by omega, by omega⟩
  rintro i ⟨h0, h1⟩
  conv => whnf
  rw [hm]
  split
  · rename_i k
    have k' := of_decide_eq_true k
    conv => whnf
    refine VDraw.goR [0, 0, 3, 7, 0, 0, 48, 112, 255] [] [] [] rfl (by decide +kernel) ?_
    conv => whnf
    refine ⟨h0, by rw [hm]; omega, _, atI l rfl (by omega), ?_⟩
    conv => whnf
    refine ⟨h0, by rw [hm]; omega, _, atI l rfl (by omega), ?_⟩
    conv => whnf
    rw [show (l.getD i.toNat 0 != l.getD i.toNat 0) = false by simp]
    conv => whnf
    have hw : IntKind.i64.wrap (i + 1) = i + 1 := wrap_in _ (by omega) (by omega)
    refine ⟨_, rfl, rfl, ⟨by rw [hw]; omega, by rw [hw]; omega⟩, by rw [hw]; omega⟩
  · conv => whnf
    refine ⟨trivial, ?_⟩
    conv => whnf
    exact ⟨rfl, rfl⟩
set_option maxHeartbeats 16000000 in
set_option maxRecDepth 100000 in
theorem whInts_nil : Good Tryz.prog 86 [.one nilP, .one nilP] [] (vbool true) [] := by
  refine good_e noM Tryz.func86 rfl rfl ?_
  conv => whnf
  refine VLoop.enter [0, 1, 5] ?_
  conv => whnf
  refine VLoop.ind1 (n0 := 0) (α := Int) noM [0, 1, 5] (fun i => ⟨26, 0, [(0, .one nilP), (1, .one nilP), (5, vint i)], []⟩)
    (fun i => i = 0) (fun i => 0) ?_ 0 rfl
  rintro i rfl
  conv => whnf
  refine ⟨trivial, ?_⟩
  conv => whnf
  exact ⟨rfl, rfl⟩
set_option maxHeartbeats 16000000 in
set_option maxRecDepth 100000 in
theorem whPlan_same (l s : Int) (ws gs : List Int) (hw : ws.length ≤ 1100000) (hg : gs.length ≤ 1100000) : Good Tryz.prog 36 [planF l s ws gs, planF l s ws gs] [] (vbool true) [] := by
  refine good_e noM Tryz.func36 rfl rfl ?_
  conv => whnf
  rw [show (l == l) = true by simp]
  conv => whnf
  rw [show (s == s) = true by simp]
  conv => whnf
  refine .mk _ _ false Tryz.call86 (whInts_same ws hw) (Nat.le_of_ble_eq_true rfl) (.inl rfl) ?_
  conv => whnf
  refine .mk _ _ false Tryz.call86 (whInts_same gs hg) (Nat.le_of_ble_eq_true rfl) (.inl rfl) ?_
  conv => whnf
  refine ⟨trivial, ?_⟩
  conv => whnf
  exact ⟨rfl, rfl⟩
set_option maxHeartbeats 16000000 in
set_option maxRecDepth 100000 in
theorem whPlan_nil (l s : Int) : Good Tryz.prog 36 [.agg [.p (.lit (.int .i64 l)), .p (.lit (.int .i64 s)), nilP, nilP], .agg [.p (.lit (.int .i64 l)), .p (.lit (.int .i64 s)), nilP, nilP]] [] (vbool true) [] := by
  refine good_e noM Tryz.func36 rfl rfl ?_
  conv => whnf
  rw [show (l == l) = true by simp]
  conv => whnf
  rw [show (s == s) = true by simp]
  conv => whnf
  refine .mk _ _ false Tryz.call86 whInts_nil (Nat.le_of_ble_eq_true rfl) (.inl rfl) ?_
  conv => whnf
  refine .mk _ _ false Tryz.call86 whInts_nil (Nat.le_of_ble_eq_true rfl) (.inl rfl) ?_
  conv => whnf
  refine ⟨trivial, ?_⟩
  conv => whnf
  exact ⟨rfl, rfl⟩
end Go.Abs.F

set_option linter.unusedSimpArgs false
set_option linter.unusedVariables false
namespace Go.Abs.F
open Go Go.Abs Go.Proofs Go.RowKit
attribute [local irreducible] IntKind.wrap
theorem by3a {n : Nat} (h : n ≤ 1099511627777) : n * (Tryz.prog.bytesOf 3 + 1) ≤ 140737488355328 := app3 h
theorem eI_len (l : List Int) : ∀ el ∈ l.map eI, el.length = 1 := fun el h => by obtain ⟨x, _, rfl⟩ := List.mem_map.1 h; rfl
set_option maxHeartbeats 16000000 in
set_option maxRecDepth 100000 in
theorem l6Plan_ok (l s : Int) (ws gs : List Int) (hw : ws.length ≤ 1100000) (hg : gs.length ≤ 1100000) : Good Tryz.prog 77 [planF l s ws gs] [] (.agg [.p (.lit (.int .i64 l)), .p (.lit (.int .i64 s)), .hs 0 0 ws.length, .hs 1 0 gs.length]) [.arr 1 (ws.map eI), .arr 1 (gs.map eI)] := by
  refine good_e noM Tryz.func77 rfl rfl ?_
  conv => whnf
  refine ⟨⟨rfl, rfl, rfl⟩, trivial, ?_⟩
  conv => whnf
  refine ⟨(fun q => by cases q), app3 (by rw [List.length_replicate, List.length_map]; omega), eI_len ws, ?_⟩
  conv => whnf
  refine ⟨⟨rfl, rfl, rfl⟩, trivial, ?_⟩
  conv => whnf
  refine ⟨(fun q => by cases q), app3 (by rw [List.length_replicate, List.length_map]; omega), eI_len gs, ?_⟩
  conv => whnf
  refine ⟨⟨⟨by decide +kernel, Nat.le_of_ble_eq_true rfl⟩, trivial⟩, ?_⟩
  conv => whnf
  refine ⟨?_, rfl⟩
  show AV.agg [.p (.lit (.int .i64 l)), .p (.lit (.int .i64 s)), .hs 0 0 (0 + (ws.map eI).length), .hs 1 0 (0 + (gs.map eI).length)] = _
  rw [Nat.zero_add, Nat.zero_add, List.length_map, List.length_map]
/-- A drawn plan, spoilt or not: its rows ours, or its windows none. -/
def PlanA (bs : List Int) (p : Int) (r : AV) (out : List Blk) : Prop := ∃ (l s : Int) (ws gs : List Int) (q : Int), l ≤ 1000 ∧ -1000 ≤ l ∧ s ≤ 1000 ∧ -1000 ≤ s ∧ ws.length ≤ 10 ∧ gs.length ≤ 10 ∧ p ≤ q ∧ q ≤ p + 10 ∧
  ((r = .agg [.p (.lit (.int .i64 l)), .p (.lit (.int .i64 s)), .hs 1 0 ws.length, .hs 2 0 gs.length] ∧ out = [rdB bs q, .arr 1 (ws.map eI), .arr 1 (gs.map eI)]) ∨
   (ws = [] ∧ r = .agg [.p (.lit (.int .i64 l)), .p (.lit (.int .i64 s)), nilP, .hs 1 0 gs.length] ∧ out = [rdB bs q, .arr 1 (gs.map eI)]))
set_option maxHeartbeats 16000000 in
set_option maxRecDepth 100000 in
theorem l15Spoil_ok (bs : List Int) (p : Int) (hb : Bytes bs) (h0 : 0 ≤ p) (h1 : p < 900000) (l s : Int) (ws gs : List Int) (hp : POk l s ws gs) : ∃ r out, PlanA bs p r out ∧ Good Tryz.prog 61 [.one (.hp 0 0 0), planF l s ws gs] [rdB bs p] r out := by
  have e1 := hp.l1; have e2 := hp.l2; have e3 := hp.s1; have e4 := hp.s2; have e5 := hp.w1; have e6 := hp.w2; have e7 := hp.g
  refine good_v noM Tryz.func61 rfl rfl ?_
  conv => whnf
  refine .mk _ _ false Tryz.call77 (l6Plan_ok l s ws gs (by omega) (by omega)) (Nat.le_of_ble_eq_true rfl) (.inl rfl) ?_
  conv => whnf
  obtain ⟨_, _, ⟨v, hv0, hv1, rfl, rfl⟩, hg⟩ := pick_ok bs p 6 hb.rng hb.len h0 (by omega) (by omega) (by omega)
  refine .mk _ _ false Tryz.call26 hg (Nat.le_of_ble_eq_true rfl) (.inl rfl) ?_
  conv => whnf
  have hv : v = 0 ∨ v = 1 ∨ v = 2 ∨ v = 3 ∨ v = 4 ∨ v = 5 := by omega
  rcases hv with rfl | rfl | rfl | rfl | rfl | rfl
  · have hwl : IntKind.i64.wrap (l + 20) = l + 20 := wrap_in _ (by omega) (by omega)
    conv => whnf
    refine VDraw.goR [0, 1, 3, 7, 0, 16, 63, 127, 255, 511] [3, 5, 9] [] [(5, [0]), (9, [33])] rfl (by decide +kernel) ?_
    conv => whnf
    rw [hwl]
    obtain ⟨_, _, ⟨v2, hv20, hv21, rfl, rfl⟩, hg2⟩ := pick_ok bs (p + 1) 3 hb.rng hb.len (by omega) (by omega) (by omega) (by omega)
    refine .mk _ _ false Tryz.call26 hg2 (Nat.le_of_ble_eq_true rfl) (.inl rfl) ?_
    conv => whnf
    have hv2 : v2 = 0 ∨ v2 = 1 ∨ v2 = 2 := by omega
    rcases hv2 with rfl | rfl | rfl
    · refine ⟨by decide, by decide, Nat.le_refl 3, ?_⟩
      conv => whnf
      refine ⟨_, rfl, ?_⟩
      conv => whnf
      refine ⟨⟨⟨by decide +kernel, Nat.le_of_ble_eq_true rfl⟩, trivial⟩, ?_⟩
      conv => whnf
      exact ⟨0, s, ws, gs, p + 1 + 1, by omega, by omega, by omega, by omega, by omega, by omega, by omega, by omega, .inl ⟨rfl, rfl⟩⟩
    · refine ⟨by decide, by decide, Nat.le_refl 3, ?_⟩
      conv => whnf
      refine ⟨_, rfl, ?_⟩
      conv => whnf
      refine ⟨⟨⟨by decide +kernel, Nat.le_of_ble_eq_true rfl⟩, trivial⟩, ?_⟩
      conv => whnf
      exact ⟨301, s, ws, gs, p + 1 + 1, by omega, by omega, by omega, by omega, by omega, by omega, by omega, by omega, .inl ⟨rfl, rfl⟩⟩
    · refine ⟨by decide, by decide, Nat.le_refl 3, ?_⟩
      conv => whnf
      refine ⟨_, rfl, ?_⟩
      conv => whnf
      refine ⟨⟨⟨by decide +kernel, Nat.le_of_ble_eq_true rfl⟩, trivial⟩, ?_⟩
      conv => whnf
      exact ⟨(l + 20), s, ws, gs, p + 1 + 1, by omega, by omega, by omega, by omega, by omega, by omega, by omega, by omega, .inl ⟨rfl, rfl⟩⟩
  · conv => whnf
    obtain ⟨_, _, ⟨v2, hv20, hv21, rfl, rfl⟩, hg2⟩ := pick_ok bs (p + 1) 3 hb.rng hb.len (by omega) (by omega) (by omega) (by omega)
    refine .mk _ _ false Tryz.call26 hg2 (Nat.le_of_ble_eq_true rfl) (.inl rfl) ?_
    conv => whnf
    have hv2 : v2 = 0 ∨ v2 = 1 ∨ v2 = 2 := by omega
    rcases hv2 with rfl | rfl | rfl
    · refine ⟨by decide, by decide, Nat.le_refl 3, ?_⟩
      conv => whnf
      refine ⟨_, rfl, ?_⟩
      conv => whnf
      refine ⟨⟨⟨by decide +kernel, Nat.le_of_ble_eq_true rfl⟩, trivial⟩, ?_⟩
      conv => whnf
      exact ⟨l, 0, ws, gs, p + 1 + 1, by omega, by omega, by omega, by omega, by omega, by omega, by omega, by omega, .inl ⟨rfl, rfl⟩⟩
    · refine ⟨by decide, by decide, Nat.le_refl 3, ?_⟩
      conv => whnf
      refine ⟨_, rfl, ?_⟩
      conv => whnf
      refine ⟨⟨⟨by decide +kernel, Nat.le_of_ble_eq_true rfl⟩, trivial⟩, ?_⟩
      conv => whnf
      exact ⟨l, 17, ws, gs, p + 1 + 1, by omega, by omega, by omega, by omega, by omega, by omega, by omega, by omega, .inl ⟨rfl, rfl⟩⟩
    · refine ⟨by decide, by decide, Nat.le_refl 3, ?_⟩
      conv => whnf
      refine ⟨_, rfl, ?_⟩
      conv => whnf
      refine ⟨⟨⟨by decide +kernel, Nat.le_of_ble_eq_true rfl⟩, trivial⟩, ?_⟩
      conv => whnf
      exact ⟨l, 1, ws, gs, p + 1 + 1, by omega, by omega, by omega, by omega, by omega, by omega, by omega, by omega, .inl ⟨rfl, rfl⟩⟩
  · conv => whnf
    refine VDraw.goR [0, 1, 0, 0, 8, 24, 60, 0, 0, 380, 1020, 2044, 4095, 8191] [6, 7, 9, 13] [] [(6, [0]), (9, [0]), (13, [25])] rfl (by decide +kernel) ?_
    conv => whnf
    obtain ⟨_, _, ⟨v2, hv20, hv21, rfl, rfl⟩, hg2⟩ := pick_ok bs (p + 1) (ws.length : Int) hb.rng hb.len (by omega) (by omega) (by omega) (by omega)
    refine .mk _ _ false Tryz.call26 hg2 (Nat.le_of_ble_eq_true rfl) (.inl rfl) ?_
    conv => whnf
    obtain ⟨_, _, ⟨v3, hv30, hv31, rfl, rfl⟩, hg3⟩ := pick_ok bs (p + 1 + 1) 3 hb.rng hb.len (by omega) (by omega) (by omega) (by omega)
    refine .mk _ _ false Tryz.call26 hg3 (Nat.le_of_ble_eq_true rfl) (.inl rfl) ?_
    conv => whnf
    have hm : (ws.map eI).length = ws.length := List.length_map ..
    have hv3 : v3 = 0 ∨ v3 = 1 ∨ v3 = 2 := by omega
    rcases hv3 with rfl | rfl | rfl
    · refine ⟨by decide, by decide, Nat.le_refl 3, ?_⟩
      conv => whnf
      refine ⟨_, rfl, ?_⟩
      conv => whnf
      refine ⟨by omega, by omega, by rw [hm]; omega, ?_⟩
      conv => whnf
      refine ⟨_, atI ws (i := v2.toNat) (by omega) (by omega), by rw [hm]; omega, ?_⟩
      conv => whnf
      refine ⟨⟨⟨by decide +kernel, Nat.le_of_ble_eq_true rfl⟩, trivial⟩, ?_⟩
      conv => whnf
      refine ⟨l, s, (ws.set v2.toNat 0), gs, p + 1 + 1 + 1, by omega, by omega, by omega, by omega, by first | omega | (rw [List.length_set]; omega), by first | omega | (rw [List.length_set]; omega), by omega, by omega, .inl ⟨?_, ?_⟩⟩
      · rw [List.length_set]; rfl
      · rw [List.map_set, show 0 + v2.toNat = v2.toNat by omega]; rfl
    · refine ⟨by decide, by decide, Nat.le_refl 3, ?_⟩
      conv => whnf
      refine ⟨_, rfl, ?_⟩
      conv => whnf
      refine ⟨by omega, by omega, by rw [hm]; omega, ?_⟩
      conv => whnf
      refine ⟨_, atI ws (i := v2.toNat) (by omega) (by omega), by rw [hm]; omega, ?_⟩
      conv => whnf
      refine ⟨⟨⟨by decide +kernel, Nat.le_of_ble_eq_true rfl⟩, trivial⟩, ?_⟩
      conv => whnf
      refine ⟨l, s, (ws.set v2.toNat 1), gs, p + 1 + 1 + 1, by omega, by omega, by omega, by omega, by first | omega | (rw [List.length_set]; omega), by first | omega | (rw [List.length_set]; omega), by omega, by omega, .inl ⟨?_, ?_⟩⟩
      · rw [List.length_set]; rfl
      · rw [List.map_set, show 0 + v2.toNat = v2.toNat by omega]; rfl
    · refine ⟨by decide, by decide, Nat.le_refl 3, ?_⟩
      conv => whnf
      refine ⟨_, rfl, ?_⟩
      conv => whnf
      refine ⟨by omega, by omega, by rw [hm]; omega, ?_⟩
      conv => whnf
      refine ⟨_, atI ws (i := v2.toNat) (by omega) (by omega), by rw [hm]; omega, ?_⟩
      conv => whnf
      refine ⟨⟨⟨by decide +kernel, Nat.le_of_ble_eq_true rfl⟩, trivial⟩, ?_⟩
      conv => whnf
      refine ⟨l, s, (ws.set v2.toNat 25), gs, p + 1 + 1 + 1, by omega, by omega, by omega, by omega, by first | omega | (rw [List.length_set]; omega), by first | omega | (rw [List.length_set]; omega), by omega, by omega, .inl ⟨?_, ?_⟩⟩
      · rw [List.length_set]; rfl
      · rw [List.map_set, show 0 + v2.toNat = v2.toNat by omega]; rfl
  · conv => whnf
    refine VDraw.goR [0, 1, 0, 0, 8, 24, 60, 0, 0, 380, 1020, 2044, 4095, 8191] [6, 7, 9, 13] [] [(6, [0]), (9, [0]), (13, [26])] rfl (by decide +kernel) ?_
    conv => whnf
    obtain ⟨_, _, ⟨v2, hv20, hv21, rfl, rfl⟩, hg2⟩ := pick_ok bs (p + 1) (gs.length : Int) hb.rng hb.len (by omega) (by omega) (by omega) (by omega)
    refine .mk _ _ false Tryz.call26 hg2 (Nat.le_of_ble_eq_true rfl) (.inl rfl) ?_
    conv => whnf
    obtain ⟨_, _, ⟨v3, hv30, hv31, rfl, rfl⟩, hg3⟩ := pick_ok bs (p + 1 + 1) 2 hb.rng hb.len (by omega) (by omega) (by omega) (by omega)
    refine .mk _ _ false Tryz.call26 hg3 (Nat.le_of_ble_eq_true rfl) (.inl rfl) ?_
    conv => whnf
    have hm : (gs.map eI).length = gs.length := List.length_map ..
    have hv3 : v3 = 0 ∨ v3 = 1 := by omega
    rcases hv3 with rfl | rfl
    · refine ⟨by decide, by decide, Nat.le_refl 2, ?_⟩
      conv => whnf
      refine ⟨_, rfl, ?_⟩
      conv => whnf
      refine ⟨by omega, by omega, by rw [hm]; omega, ?_⟩
      conv => whnf
      refine ⟨_, atI gs (i := v2.toNat) (by omega) (by omega), by rw [hm]; omega, ?_⟩
      conv => whnf
      refine ⟨⟨⟨by decide +kernel, Nat.le_of_ble_eq_true rfl⟩, trivial⟩, ?_⟩
      conv => whnf
      refine ⟨l, s, ws, (gs.set v2.toNat 0), p + 1 + 1 + 1, by omega, by omega, by omega, by omega, by first | omega | (rw [List.length_set]; omega), by first | omega | (rw [List.length_set]; omega), by omega, by omega, .inl ⟨?_, ?_⟩⟩
      · rw [List.length_set]; rfl
      · rw [List.map_set, show 0 + v2.toNat = v2.toNat by omega]; rfl
    · refine ⟨by decide, by decide, Nat.le_refl 2, ?_⟩
      conv => whnf
      refine ⟨_, rfl, ?_⟩
      conv => whnf
      refine ⟨by omega, by omega, by rw [hm]; omega, ?_⟩
      conv => whnf
      refine ⟨_, atI gs (i := v2.toNat) (by omega) (by omega), by rw [hm]; omega, ?_⟩
      conv => whnf
      refine ⟨⟨⟨by decide +kernel, Nat.le_of_ble_eq_true rfl⟩, trivial⟩, ?_⟩
      conv => whnf
      refine ⟨l, s, ws, (gs.set v2.toNat 100), p + 1 + 1 + 1, by omega, by omega, by omega, by omega, by first | omega | (rw [List.length_set]; omega), by first | omega | (rw [List.length_set]; omega), by omega, by omega, .inl ⟨?_, ?_⟩⟩
      · rw [List.length_set]; rfl
      · rw [List.map_set, show 0 + v2.toNat = v2.toNat by omega]; rfl
  · conv => whnf
    refine ⟨⟨rfl, (List.length_map ..).symm, rfl⟩, Nat.le_refl 1, ?_⟩
    conv => whnf
    refine ⟨(fun q => by cases q), app3 (by rw [List.length_map]; show gs.length + 1 ≤ _; omega), (fun el hel => by cases List.mem_singleton.1 hel; rfl), ?_⟩
    conv => whnf
    refine ⟨⟨⟨by decide +kernel, Nat.le_of_ble_eq_true rfl⟩, trivial⟩, ?_⟩
    conv => whnf
    refine ⟨l, s, ws, gs ++ [1], p + 1, by omega, by omega, by omega, by omega, by omega, by rw [List.length_append]; show gs.length + 1 ≤ _; omega, by omega, by omega, .inl ⟨?_, ?_⟩⟩
    · rw [List.length_append]
      show AV.agg [.p (.lit (.int .i64 l)), .p (.lit (.int .i64 s)), .hs 1 0 ws.length, .hs 2 0 ((gs.map eI).length + 1)] = _
      rw [List.length_map]; rfl
    · rw [List.map_append]; rfl
  · conv => whnf
    refine ⟨⟨⟨by decide +kernel, Nat.le_of_ble_eq_true rfl⟩, trivial⟩, ?_⟩
    conv => whnf
    exact ⟨l, s, [], gs, p + 1, by omega, by omega, by omega, by omega, Nat.zero_le _, by omega, by omega, by omega, .inr ⟨rfl, rfl, rfl⟩⟩
end Go.Abs.F

set_option linter.unusedSimpArgs false
set_option linter.unusedVariables false
namespace Go.Abs.F
open Go Go.Abs Go.Proofs Go.RowKit
attribute [local irreducible] IntKind.wrap
theorem bytes5t : Tryz.prog.bytesOf 5 + 1 ≤ 100 := by decide +kernel
theorem appB5 {n : Nat} (h : n ≤ 1100000) : n * (Tryz.prog.bytesOf 5 + 1) ≤ 140737488355328 := Nat.le_trans (Nat.mul_le_mul h bytes5t) (by decide)
set_option maxHeartbeats 16000000 in
set_option maxRecDepth 100000 in
theorem l15Thing_ok (bs : List Int) (p n : Int) (hb : Bytes bs) (h0 : 0 ≤ p) (h1 : p < 900000) (hn1 : 1 ≤ n) (hn2 : n ≤ 300) :
    ∃ r out, (∃ s, s.size ≤ 300 ∧ r = vstr s ∧ out = [rdB bs (p + n)]) ∧ Good Tryz.prog 101 [.one (.hp 0 0 0), vint n] [rdB bs p] r out := by
  refine good_v noM Tryz.func101 rfl rfl ?_
  conv => whnf
  refine VLoop.enter [0, 1, 5, 6] ?_
  conv => whnf
  refine VLoop.ind4 (n0 := 2) (α := Int) (β := Int) (γ := Nat) (δ := List (List PV)) noM [0, 1, 5, 6] (fun a q L E => ⟨21, 1, [(0, .one (.hp 0 0 0)), (1, vint n), (5, .one (.hs 1 0 L)), (6, vint a)], [(0, some (rdB bs q)), (1, some (.arr 1 E))]⟩)
    (fun a q L E => 0 ≤ a ∧ a ≤ n ∧ q = p + a ∧ (L : Int) = a ∧ E.length = L ∧ ∀ el ∈ E, isByte el) (fun a _ _ _ => (n - a).toNat) ?_ 0 p 0 [] ⟨by omega, by omega, by omega, rfl, rfl, fun el hel => by cases hel⟩
  rintro a q L E ⟨ha0, ha1, rfl, hL, hE, hby⟩
  conv => whnf
  split
  · rename_i k1
    have k1' := of_decide_eq_true k1
    have hw : IntKind.i64.wrap (a + 1) = a + 1 := wi _ (by omega) (by omega)
    conv => whnf
    obtain ⟨_, _, ⟨v, hv0, hv1, rfl, rfl⟩, hg⟩ := pick_ok bs (p + a) 8 hb.rng hb.len (by omega) (by omega) (by omega) (by omega)
    refine .mk _ _ false Tryz.call26 hg (Nat.le_of_ble_eq_true rfl) (.inl rfl) ?_
    conv => whnf
    refine ⟨hv0, hv1, ?_⟩
    conv => whnf
    refine ⟨⟨rfl, hE.symm, rfl⟩, Nat.le_refl 1, ?_⟩
    conv => whnf
    refine ⟨(fun q => by cases q), appB5 (show E.length + 1 ≤ 1100000 by omega), fun el hel => by cases List.mem_singleton.1 hel; rfl, ?_⟩
    conv => whnf
    refine ⟨_, _, _, _, rfl, rfl, ⟨by rw [hw]; omega, by rw [hw]; omega, by rw [hw]; omega, ?_, ?_, fun el hel => ?_⟩, by rw [hw]; omega⟩
    · rw [hw]; show ((E.length + 1 : Nat) : Int) = a + 1; omega
    · rw [List.length_append]
    · rcases List.mem_append.1 hel with h | h
      · exact hby el h
      · cases List.mem_singleton.1 h; exact isByte_mk
  · rename_i k1
    have k1' := of_decide_eq_false k1
    obtain rfl : a = n := by omega
    conv => whnf
    refine ⟨⟨by omega, fun el hel => hby el (List.mem_of_mem_drop (List.mem_of_mem_take hel))⟩, ?_⟩
    conv => whnf
    refine ⟨trivial, ?_⟩
    conv => whnf
    refine ⟨_, ?_, rfl, rfl⟩
    rw [elsBytes_size, List.length_take, List.length_drop]; omega
end Go.Abs.F

set_option linter.unusedVariables false
/-! Rows of numbers, equations of rows: mathematics alone. -/
namespace Go.Abs.F
/-- Strictly ascending, within 0 and c - 1. -/
structure RowP (c : Int) (r : List Int) : Prop where
  asc : r.Pairwise (· < ·)
  lo : ∀ x ∈ r, 0 ≤ x
  hi : ∀ x ∈ r, x < c
theorem RowP.nil (c : Int) : RowP c [] := ⟨List.Pairwise.nil, fun x h => (by cases h), fun x h => (by cases h)⟩
theorem RowP.tail {c x : Int} {r : List Int} (h : RowP c (x :: r)) : RowP c r :=
  ⟨(List.pairwise_cons.1 h.asc).2, fun y hy => h.lo y (List.mem_cons_of_mem _ hy), fun y hy => h.hi y (List.mem_cons_of_mem _ hy)⟩
theorem RowP.mono {c d : Int} {r : List Int} (h : RowP c r) (hd : c ≤ d) : RowP d r := ⟨h.asc, h.lo, fun x hx => Int.lt_of_lt_of_le (h.hi x hx) hd⟩
theorem RowP.head {c x : Int} {r : List Int} (h : RowP c (x :: r)) : ∀ y ∈ r, x < y := (List.pairwise_cons.1 h.asc).1
/-- Two ascending lists with the same members are the same. -/
theorem asc_ext : ∀ {a b : List Int}, a.Pairwise (· < ·) → b.Pairwise (· < ·) → (∀ z, z ∈ a ↔ z ∈ b) → a = b
  | [], [], _, _, _ => rfl
  | [], y :: b, _, _, h => absurd ((h y).2 List.mem_cons_self) (by simp)
  | x :: a, [], _, _, h => absurd ((h x).1 List.mem_cons_self) (by simp)
  | x :: a, y :: b, ha, hb, h => by
    obtain ⟨ha1, ha2⟩ := List.pairwise_cons.1 ha
    obtain ⟨hb1, hb2⟩ := List.pairwise_cons.1 hb
    have hxy : x = y := by
      rcases List.mem_cons.1 ((h x).1 List.mem_cons_self) with e | e
      · exact e
      · rcases List.mem_cons.1 ((h y).2 List.mem_cons_self) with f | f
        · exact f.symm
        · have := hb1 x e; have := ha1 y f; omega
    subst hxy
    congr 1
    refine asc_ext ha2 hb2 fun z => ⟨fun hz => ?_, fun hz => ?_⟩
    · rcases List.mem_cons.1 ((h z).1 (List.mem_cons_of_mem _ hz)) with e | e
      · subst e; have := ha1 z hz; omega
      · exact e
    · rcases List.mem_cons.1 ((h z).2 (List.mem_cons_of_mem _ hz)) with e | e
      · subst e; have := hb1 z hz; omega
      · exact e
/-- What is in just one of two rows. -/
def rx (a b : List Int) : List Int :=
  match a, b with
  | [], b => b
  | x :: a, [] => x :: a
  | x :: a, y :: b => if x < y then x :: rx a (y :: b) else if y < x then y :: rx (x :: a) b else rx a b
termination_by a.length + b.length
theorem rx_nil (b : List Int) : rx [] b = b := by rw [rx]
theorem rx_nil2 (a : List Int) : rx a [] = a := by
  cases a with
  | nil => rw [rx]
  | cons x a => rw [rx]
theorem rx_lt {x y : Int} {a b : List Int} (h : x < y) : rx (x :: a) (y :: b) = x :: rx a (y :: b) := by rw [rx, if_pos h]
theorem rx_gt {x y : Int} {a b : List Int} (h : y < x) : rx (x :: a) (y :: b) = y :: rx (x :: a) b := by rw [rx, if_neg (by omega), if_pos h]
theorem rx_eq {x y : Int} {a b : List Int} (h : x = y) : rx (x :: a) (y :: b) = rx a b := by rw [rx, if_neg (by omega), if_neg (by omega)]
theorem rx_spec : ∀ (n : Nat) (a b : List Int), a.length + b.length = n → a.Pairwise (· < ·) → b.Pairwise (· < ·) →
    (rx a b).Pairwise (· < ·) ∧ ∀ z, z ∈ rx a b ↔ ((z ∈ a ∧ z ∉ b) ∨ (z ∈ b ∧ z ∉ a)) := by
  intro n
  induction n using Nat.strongRecOn with
  | _ n ih =>
    intro a b hn ha hb
    cases a with
    | nil => rw [rx_nil]; exact ⟨hb, fun z => by simp⟩
    | cons x a =>
      cases b with
      | nil => rw [rx_nil2]; exact ⟨ha, fun z => by simp⟩
      | cons y b =>
        obtain ⟨ha1, ha2⟩ := List.pairwise_cons.1 ha
        obtain ⟨hb1, hb2⟩ := List.pairwise_cons.1 hb
        simp only [List.length_cons] at hn
        rcases Int.lt_trichotomy x y with h | h | h
        · rw [rx_lt h]
          obtain ⟨i1, i2⟩ := ih (a.length + (y :: b).length) (by simp only [List.length_cons]; omega) a (y :: b) rfl ha2 hb
          have hxb : ∀ z ∈ y :: b, x < z := fun z hz => by
            rcases List.mem_cons.1 hz with e | e
            · omega
            · have := hb1 z e; omega
          refine ⟨List.pairwise_cons.2 ⟨fun z hz => ?_, i1⟩, fun z => ?_⟩
          · rcases (i2 z).1 hz with ⟨q, _⟩ | ⟨q, _⟩
            · exact ha1 z q
            · exact hxb z q
          · rw [List.mem_cons, i2, List.mem_cons (a := z) (b := x) (l := a)]
            constructor
            · rintro (rfl | ⟨q1, q2⟩ | ⟨q1, q2⟩)
              · exact .inl ⟨.inl rfl, fun q => absurd (hxb _ q) (by omega)⟩
              · exact .inl ⟨.inr q1, q2⟩
              · refine .inr ⟨q1, ?_⟩
                rintro (rfl | q)
                · exact absurd (hxb _ q1) (by omega)
                · exact q2 q
            · rintro (⟨rfl | q1, q2⟩ | ⟨q1, q2⟩)
              · exact .inl rfl
              · exact .inr (.inl ⟨q1, q2⟩)
              · exact .inr (.inr ⟨q1, fun q => q2 (.inr q)⟩)
        · subst h
          rw [rx_eq rfl]
          obtain ⟨i1, i2⟩ := ih (a.length + b.length) (by omega) a b rfl ha2 hb2
          refine ⟨i1, fun z => ?_⟩
          rw [i2, List.mem_cons, List.mem_cons]
          constructor
          · rintro (⟨q1, q2⟩ | ⟨q1, q2⟩)
            · exact .inl ⟨.inr q1, by rintro (rfl | q); exact absurd (ha1 _ q1) (by omega); exact q2 q⟩
            · exact .inr ⟨.inr q1, by rintro (rfl | q); exact absurd (hb1 _ q1) (by omega); exact q2 q⟩
          · rintro (⟨rfl | q1, q2⟩ | ⟨rfl | q1, q2⟩)
            · exact absurd (.inl rfl) q2
            · exact .inl ⟨q1, fun q => q2 (.inr q)⟩
            · exact absurd (.inl rfl) q2
            · exact .inr ⟨q1, fun q => q2 (.inr q)⟩
        · rw [rx_gt h]
          obtain ⟨i1, i2⟩ := ih ((x :: a).length + b.length) (by simp only [List.length_cons]; omega) (x :: a) b rfl ha hb2
          have hya : ∀ z ∈ x :: a, y < z := fun z hz => by
            rcases List.mem_cons.1 hz with e | e
            · omega
            · have := ha1 z e; omega
          refine ⟨List.pairwise_cons.2 ⟨fun z hz => ?_, i1⟩, fun z => ?_⟩
          · rcases (i2 z).1 hz with ⟨q, _⟩ | ⟨q, _⟩
            · exact hya z q
            · exact hb1 z q
          · rw [List.mem_cons, i2, List.mem_cons (a := z) (b := y) (l := b)]
            constructor
            · rintro (rfl | ⟨q1, q2⟩ | ⟨q1, q2⟩)
              · exact .inr ⟨.inl rfl, fun q => absurd (hya _ q) (by omega)⟩
              · refine .inl ⟨q1, ?_⟩
                rintro (rfl | q)
                · exact absurd (hya _ q1) (by omega)
                · exact q2 q
              · exact .inr ⟨.inr q1, q2⟩
            · rintro (⟨q1, q2⟩ | ⟨rfl | q1, q2⟩)
              · exact .inr (.inl ⟨q1, fun q => q2 (.inr q)⟩)
              · exact .inl rfl
              · exact .inr (.inr ⟨q1, q2⟩)
theorem mem_rx {c d : Int} {a b : List Int} (ha : RowP c a) (hb : RowP d b) (z : Int) : z ∈ rx a b ↔ ((z ∈ a ∧ z ∉ b) ∨ (z ∈ b ∧ z ∉ a)) := (rx_spec _ a b rfl ha.asc hb.asc).2 z
theorem rx_row {c : Int} {a b : List Int} (ha : RowP c a) (hb : RowP c b) : RowP c (rx a b) := by
  refine ⟨(rx_spec _ a b rfl ha.asc hb.asc).1, fun x hx => ?_, fun x hx => ?_⟩
  · rcases (mem_rx ha hb x).1 hx with ⟨q, _⟩ | ⟨q, _⟩
    · exact ha.lo x q
    · exact hb.lo x q
  · rcases (mem_rx ha hb x).1 hx with ⟨q, _⟩ | ⟨q, _⟩
    · exact ha.hi x q
    · exact hb.hi x q
/-- A row as bits. -/
def mk : List Int → Nat
  | [] => 0
  | x :: a => 2 ^ x.toNat ||| mk a
theorem mk_bit {c : Int} : ∀ {r : List Int}, (∀ x ∈ r, 0 ≤ x) → ∀ i : Nat, (mk r).testBit i = decide ((i : Int) ∈ r)
  | [], _, i => by simp [mk]
  | x :: r, h, i => by
    have hx := h x List.mem_cons_self
    rw [mk, Nat.testBit_or, mk_bit (c := c) (fun y hy => h y (List.mem_cons_of_mem _ hy)) i, Nat.testBit_two_pow]
    have e : (x.toNat = i) ↔ ((i : Int) = x) := by omega
    by_cases q : (i : Int) = x
    · simp [q, e.2 q]
    · have q2 : ¬ x.toNat = i := fun f => q (e.1 f)
      simp [q, q2]
theorem mk_lt {c : Nat} : ∀ {r : List Int}, (∀ x ∈ r, 0 ≤ x) → (∀ x ∈ r, x < c) → mk r < 2 ^ c
  | [], _, _ => Nat.two_pow_pos _
  | x :: r, h0, h => by
    have hx := h x List.mem_cons_self
    refine Nat.or_lt_two_pow ?_ (mk_lt (fun y hy => h0 y (List.mem_cons_of_mem _ hy)) fun y hy => h y (List.mem_cons_of_mem _ hy))
    by_cases q : 0 ≤ x
    · exact Nat.pow_lt_pow_right (by decide) (by omega)
    · exact absurd (h0 x List.mem_cons_self) q
/-- Bits as a row. -/
def un (m : Nat) : List Int := ((List.range 24).filter fun i => m.testBit i).map Int.ofNat
theorem un_row (m : Nat) : RowP 24 (un m) := by
  refine ⟨?_, fun x hx => ?_, fun x hx => ?_⟩
  · unfold un
    rw [List.pairwise_map]
    refine List.Pairwise.imp (fun h => Int.ofNat_lt.2 h) (List.Pairwise.filter _ List.pairwise_lt_range)
  · unfold un at hx
    obtain ⟨i, _, rfl⟩ := List.mem_map.1 hx
    exact Int.natCast_nonneg _
  · unfold un at hx
    obtain ⟨i, hi, rfl⟩ := List.mem_map.1 hx
    have := List.mem_range.1 (List.mem_filter.1 hi).1
    show (i : Int) < 24
    omega
theorem mem_un {m : Nat} {z : Int} : z ∈ un m ↔ 0 ≤ z ∧ z < 24 ∧ m.testBit z.toNat = true := by
  unfold un
  constructor
  · intro h
    obtain ⟨i, hi, rfl⟩ := List.mem_map.1 h
    obtain ⟨h1, h2⟩ := List.mem_filter.1 hi
    have := List.mem_range.1 h1
    exact ⟨Int.natCast_nonneg i, (by show (i : Int) < 24; omega), h2⟩
  · rintro ⟨h0, h1, h2⟩
    exact List.mem_map.2 ⟨z.toNat, List.mem_filter.2 ⟨List.mem_range.2 (by omega), h2⟩, Int.toNat_of_nonneg h0⟩
theorem un_mk {r : List Int} (h : RowP 24 r) : un (mk r) = r :=
  asc_ext (un_row _).asc h.asc fun z => by
    rw [mem_un]
    constructor
    · rintro ⟨h0, h1, h2⟩
      rw [mk_bit (c := 24) h.lo, decide_eq_true_eq] at h2
      rwa [Int.toNat_of_nonneg h0] at h2
    · intro hz
      refine ⟨h.lo z hz, h.hi z hz, ?_⟩
      rw [mk_bit (c := 24) h.lo, decide_eq_true_eq, Int.toNat_of_nonneg (h.lo z hz)]
      exact hz
theorem mk_rx {a b : List Int} (ha : RowP 24 a) (hb : RowP 24 b) : mk (rx a b) = mk a ^^^ mk b := by
  refine Nat.eq_of_testBit_eq fun i => ?_
  rw [Nat.testBit_xor, mk_bit (c := 24) (rx_row ha hb).lo, mk_bit (c := 24) ha.lo, mk_bit (c := 24) hb.lo]
  have := mem_rx ha hb (i : Int)
  by_cases h1 : (i : Int) ∈ a <;> by_cases h2 : (i : Int) ∈ b <;> simp [this, h1, h2]
theorem un_xor {a b : List Int} (ha : RowP 24 a) (hb : RowP 24 b) : un (mk a ^^^ mk b) = rx a b := by rw [← mk_rx ha hb, un_mk (rx_row ha hb)]
theorem mk_zero {r : List Int} (h : RowP 24 r) : mk r = 0 ↔ r = [] := by
  constructor
  · intro e
    have := un_mk h
    rw [e] at this
    rw [← this]; decide
  · rintro rfl; rfl
theorem mk_has {r : List Int} (h : RowP 24 r) {p : Int} (hp : 0 ≤ p) : (mk r).testBit p.toNat = decide (p ∈ r) := by
  rw [mk_bit (c := 24) h.lo, Int.toNat_of_nonneg hp]
end Go.Abs.F

set_option linter.unusedVariables false
/-! Equations: rows with data. -/
namespace Go.Abs.F
structure Eqn where
  r : List Int
  d : ByteArray
def pv (e : Eqn) : Int := e.r.headD 0
/-- Two blocks, bit by bit unlike. -/
def dx (a b : ByteArray) : ByteArray := ⟨(List.zipWith (fun x y => x ^^^ y) a.data.toList b.data.toList).toArray⟩
theorem dx_size {a b : ByteArray} (h : a.size = b.size) : (dx a b).size = a.size := by
  have h1 : a.data.toList.length = a.size := by simp
  have h2 : b.data.toList.length = b.size := by simp
  show (List.zipWith _ _ _).toArray.size = _
  rw [List.size_toArray, List.length_zipWith]; omega
def red1 (q : List Int × ByteArray) (e : Eqn) : List Int × ByteArray := if pv e ∈ q.1 then (rx q.1 e.r, dx q.2 e.d) else q
/-- An equation without the first numbers of those that are known. -/
def red (es : List Eqn) (q : List Int × ByteArray) : List Int × ByteArray := es.foldl red1 q
structure EqOk (c : Int) (z : Nat) (es : List Eqn) : Prop where
  row : ∀ e ∈ es, RowP c e.r ∧ e.r ≠ [] ∧ e.d.size = z
  asc : es.Pairwise fun a b => pv a < pv b
  sep : es.Pairwise fun a b => pv b ∉ a.r
theorem EqOk.tail {c : Int} {z : Nat} {e : Eqn} {es : List Eqn} (h : EqOk c z (e :: es)) : EqOk c z es :=
  ⟨fun f hf => h.row f (List.mem_cons_of_mem _ hf), (List.pairwise_cons.1 h.asc).2, (List.pairwise_cons.1 h.sep).2⟩
theorem pv_mem {e : Eqn} (h : e.r ≠ []) : pv e ∈ e.r := by
  unfold pv
  cases q : e.r with
  | nil => exact absurd q h
  | cons x r => exact List.mem_cons_self
theorem pv_le {c : Int} {e : Eqn} (h : RowP c e.r) : ∀ x ∈ e.r, pv e ≤ x := by
  unfold pv
  intro x hx
  cases q : e.r with
  | nil => rw [q] at hx; cases hx
  | cons y r =>
    rw [q] at hx h
    rcases List.mem_cons.1 hx with rfl | hx
    · exact Int.le_refl _
    · exact Int.le_of_lt (h.head x hx)
/-- Of two of them, neither has the other's first number. -/
theorem EqOk.apart {c : Int} {z : Nat} : ∀ {es : List Eqn}, EqOk c z es → ∀ {a b : Eqn}, a ∈ es → b ∈ es → pv a ∈ b.r → a = b
  | [], _, a, b, ha, _, _ => by cases ha
  | e :: es, h, a, b, ha, hb, hm => by
    obtain ⟨a1, _⟩ := List.pairwise_cons.1 h.asc
    obtain ⟨s1, _⟩ := List.pairwise_cons.1 h.sep
    rcases List.mem_cons.1 ha with ea | ha'
    · rcases List.mem_cons.1 hb with eb | hb'
      · rw [ea, eb]
      · have := pv_le (h.row b (List.mem_cons_of_mem _ hb')).1 _ hm
        have := a1 b hb'
        rw [ea] at *
        omega
    · rcases List.mem_cons.1 hb with eb | hb'
      · rw [eb] at hm; exact absurd hm (s1 a ha')
      · exact h.tail.apart ha' hb' hm
theorem EqOk.pv_inj {c : Int} {z : Nat} {es : List Eqn} (h : EqOk c z es) {a b : Eqn} (ha : a ∈ es) (hb : b ∈ es) (e : pv a = pv b) : a = b :=
  h.apart ha hb (e ▸ pv_mem (h.row b hb).2.1)
/-- What a reduction leaves. -/
structure RedP (c : Int) (z : Nat) (es : List Eqn) (q : List Int × ByteArray) : Prop where
  row : RowP c q.1
  dat : q.2.size = z
  no : ∀ e ∈ es, pv e ∉ q.1
theorem red_fold {c : Int} {z : Nat} (all : List Eqn) (h : EqOk c z all) : ∀ (es done : List Eqn) (q : List Int × ByteArray), (∀ e ∈ es, e ∈ all) → (∀ e ∈ done, e ∈ all) → (∀ e ∈ es, e ∉ done) → es.Nodup → RedP c z done q →
    RedP c z (done ++ es) (es.foldl red1 q)
  | [], done, q, _, _, _, _, hq => by rw [List.append_nil]; exact hq
  | e :: es, done, q, h1, h2, h3, h4, hq => by
    obtain ⟨n1, n2⟩ := List.nodup_cons.1 h4
    have he := h1 e List.mem_cons_self
    obtain ⟨r1, r2, r3⟩ := h.row e he
    have key : RedP c z (done ++ [e]) (red1 q e) := by
      unfold red1
      split
      · rename_i hm
        refine ⟨rx_row hq.row r1, by rw [dx_size (by rw [hq.dat, r3]), hq.dat], fun f hf hmem => ?_⟩
        have hx := (mem_rx hq.row r1 (pv f)).1 hmem
        rcases List.mem_append.1 hf with hf | hf
        · have hne : f ≠ e := fun q => h3 e List.mem_cons_self (q ▸ hf)
          rcases hx with ⟨q1, _⟩ | ⟨q1, _⟩
          · exact hq.no f hf q1
          · exact hne (h.apart (h2 f hf) he q1)
        · rw [List.mem_singleton.1 hf] at hx
          rcases hx with ⟨_, q1⟩ | ⟨_, q1⟩
          · exact q1 (pv_mem r2)
          · exact q1 hm
      · rename_i hm
        refine ⟨hq.row, hq.dat, fun f hf => ?_⟩
        rcases List.mem_append.1 hf with hf | hf
        · exact hq.no f hf
        · rw [List.mem_singleton.1 hf]; exact hm
    have := red_fold all h es (done ++ [e]) (red1 q e) (fun f hf => h1 f (List.mem_cons_of_mem _ hf)) (fun f hf => by
      rcases List.mem_append.1 hf with hf | hf
      · exact h2 f hf
      · rw [List.mem_singleton.1 hf]; exact he) (fun f hf hd => by
      rcases List.mem_append.1 hd with hd | hd
      · exact h3 f (List.mem_cons_of_mem _ hf) hd
      · rw [List.mem_singleton.1 hd] at hf; exact n1 hf) n2 key
    rw [List.append_assoc] at this
    exact this
theorem EqOk.nodup {c : Int} {z : Nat} {es : List Eqn} (h : EqOk c z es) : es.Nodup :=
  List.Pairwise.imp (fun {a b} hab e => by rw [e] at hab; omega) h.asc
theorem red_ok {c : Int} {z : Nat} {es : List Eqn} (h : EqOk c z es) {r : List Int} {d : ByteArray} (hr : RowP c r) (hd : d.size = z) : RedP c z es (red es (r, d)) := by
  have := red_fold es h es [] (r, d) (fun _ q => q) (fun e q => by cases q) (fun e _ q => by cases q) h.nodup ⟨hr, hd, fun e q => by cases q⟩
  exact this
/-- An equation without the first number of another. -/
def sub1 (t e : Eqn) : Eqn := if pv t ∈ e.r then ⟨rx e.r t.r, dx e.d t.d⟩ else e
def insE (t : Eqn) : List Eqn → List Eqn
  | [] => [t]
  | e :: es => if pv t < pv e then t :: e :: es else e :: insE t es
/-- A new equation is learnt. -/
def addE (es : List Eqn) (t : Eqn) : List Eqn := insE t (es.map (sub1 t))
theorem mem_insE {t f : Eqn} : ∀ {es : List Eqn}, f ∈ insE t es ↔ f = t ∨ f ∈ es
  | [] => by simp [insE]
  | e :: es => by
    unfold insE
    split
    · simp
    · rw [List.mem_cons, mem_insE, List.mem_cons]
      constructor
      · rintro (q | q | q)
        · exact .inr (.inl q)
        · exact .inl q
        · exact .inr (.inr q)
      · rintro (q | q | q)
        · exact .inr (.inl q)
        · exact .inl q
        · exact .inr (.inr q)
theorem insE_pair {R : Eqn → Eqn → Prop} {t : Eqn} : ∀ {es : List Eqn}, es.Pairwise R → (es.Pairwise fun a b => pv a < pv b) → (∀ e ∈ es, pv t < pv e → R t e) → (∀ e ∈ es, pv e < pv t → R e t) → (∀ e ∈ es, pv e ≠ pv t) → (insE t es).Pairwise R
  | [], _, _, _, _, _ => by unfold insE; exact List.pairwise_singleton ..
  | e :: es, h, ha, h1, h2, h3 => by
    obtain ⟨p1, p2⟩ := List.pairwise_cons.1 h
    obtain ⟨a1, a2⟩ := List.pairwise_cons.1 ha
    unfold insE
    split
    · rename_i q
      refine List.pairwise_cons.2 ⟨fun f hf => ?_, h⟩
      rcases List.mem_cons.1 hf with rfl | hf
      · exact h1 _ List.mem_cons_self q
      · exact h1 f (List.mem_cons_of_mem _ hf) (Int.lt_trans q (a1 f hf))
    · rename_i q
      have hne := h3 e List.mem_cons_self
      refine List.pairwise_cons.2 ⟨fun f hf => ?_, insE_pair p2 a2 (fun f hf => h1 f (List.mem_cons_of_mem _ hf)) (fun f hf => h2 f (List.mem_cons_of_mem _ hf)) (fun f hf => h3 f (List.mem_cons_of_mem _ hf))⟩
      rcases mem_insE.1 hf with rfl | hf
      · exact h2 e List.mem_cons_self (by omega)
      · exact p1 f hf
/-- What a reduced equation does to one that was there. -/
structure SubP (c : Int) (z : Nat) (t e f : Eqn) : Prop where
  row : RowP c f.r
  ne : f.r ≠ []
  dat : f.d.size = z
  pv_ : pv f = pv e
  no : pv t ∉ f.r
  sub : ∀ x, x ∈ f.r → x ∈ e.r ∨ x ∈ t.r
theorem head_min {c : Int} {f : Eqn} (h : RowP c f.r) {p : Int} (hp : p ∈ f.r) (hm : ∀ x ∈ f.r, p ≤ x) : pv f = p := by
  have h1 := pv_le h p hp
  have h2 := hm (pv f) (pv_mem (fun e => by rw [e] at hp; cases hp))
  omega
theorem sub1_ok {c : Int} {z : Nat} {es : List Eqn} (h : EqOk c z es) {t : Eqn} (ht : RedP c z es (t.r, t.d)) (hne : t.r ≠ []) {e : Eqn} (he : e ∈ es) : SubP c z t e (sub1 t e) := by
  obtain ⟨r1, r2, r3⟩ := h.row e he
  have hno := ht.no e he
  simp only at hno
  unfold sub1
  split
  · rename_i hm
    have hrow := rx_row r1 ht.row
    have hmem := mem_rx r1 ht.row
    have hpe : pv e ∈ rx e.r t.r := (hmem _).2 (.inl ⟨pv_mem r2, hno⟩)
    have hlt : pv e < pv t := by
      have h1 := pv_le r1 _ hm
      have h2 : pv e ≠ pv t := fun q => hno (q ▸ pv_mem hne)
      omega
    refine ⟨hrow, (fun q => by have q' : rx e.r t.r = [] := q; rw [q'] at hpe; cases hpe), (by rw [dx_size (by rw [r3]; exact ht.dat.symm), r3]), ?_, fun q => ?_, fun x hx => ?_⟩
    · refine head_min (f := ⟨rx e.r t.r, dx e.d t.d⟩) hrow hpe fun x hx => ?_
      rcases (hmem x).1 hx with ⟨q, _⟩ | ⟨q, _⟩
      · exact pv_le r1 x q
      · have := pv_le (e := t) ht.row x q; omega
    · rcases (hmem _).1 q with ⟨_, q2⟩ | ⟨_, q2⟩
      · exact q2 (pv_mem hne)
      · exact q2 hm
    · rcases (hmem x).1 hx with ⟨q, _⟩ | ⟨q, _⟩
      · exact .inl q
      · exact .inr q
  · rename_i hm
    exact ⟨r1, r2, r3, rfl, hm, fun x hx => .inl hx⟩
theorem addE_ok {c : Int} {z : Nat} {es : List Eqn} (h : EqOk c z es) {t : Eqn} (ht : RedP c z es (t.r, t.d)) (hne : t.r ≠ []) : EqOk c z (addE es t) := by
  have hs := fun {e : Eqn} (he : e ∈ es) => sub1_ok h ht hne he
  have hpne : ∀ e ∈ es, pv e ≠ pv t := fun e he q => ht.no e he (q ▸ pv_mem hne)
  have hmap : ∀ f ∈ es.map (sub1 t), ∃ e ∈ es, f = sub1 t e := fun f hf => by
    obtain ⟨e, he, rfl⟩ := List.mem_map.1 hf; exact ⟨e, he, rfl⟩
  have hasc : (es.map (sub1 t)).Pairwise fun a b => pv a < pv b := by
    rw [List.pairwise_map]
    refine List.Pairwise.imp_of_mem (fun {a b} ha hb hab => ?_) h.asc
    rw [(hs ha).pv_, (hs hb).pv_]; exact hab
  have hsep : (es.map (sub1 t)).Pairwise fun a b => pv b ∉ a.r := by
    rw [List.pairwise_map]
    refine List.Pairwise.imp_of_mem (fun {a b} ha hb hab => ?_) h.sep
    rw [(hs hb).pv_]
    intro q
    rcases (hs ha).sub _ q with q | q
    · exact hab q
    · exact ht.no b hb q
  have hne2 : ∀ f ∈ es.map (sub1 t), pv f ≠ pv t := fun f hf => by
    obtain ⟨e, he, rfl⟩ := hmap f hf
    rw [(hs he).pv_]; exact hpne e he
  refine ⟨fun f hf => ?_, ?_, ?_⟩
  · rcases mem_insE.1 hf with rfl | hf
    · exact ⟨ht.row, hne, ht.dat⟩
    · obtain ⟨e, he, rfl⟩ := hmap f hf
      exact ⟨(hs he).row, (hs he).ne, (hs he).dat⟩
  · exact insE_pair hasc hasc (fun f _ q => q) (fun f _ q => q) hne2
  · refine insE_pair hsep hasc (fun f hf q => ?_) (fun f hf q => ?_) hne2
    · obtain ⟨e, he, rfl⟩ := hmap f hf
      rw [(hs he).pv_]; exact ht.no e he
    · obtain ⟨e, he, rfl⟩ := hmap f hf
      exact (hs he).no
end Go.Abs.F

set_option linter.unusedSimpArgs false
set_option linter.unusedVariables false
namespace Go.Abs.F
open Go Go.Abs Go.Proofs Go.RowKit
attribute [local irreducible] IntKind.wrap
theorem gi_mem {r : List Int} {i : Nat} (h : i < r.length) : r.getD i 0 ∈ r := by
  rw [List.getD_eq_getElem?_getD, List.getElem?_eq_getElem h]; exact List.getElem_mem h
theorem gi_lt {r : List Int} {i : Nat} (h : i < r.length) : r.getD i 0 = r[i] := by
  rw [List.getD_eq_getElem?_getD, List.getElem?_eq_getElem h]; rfl
theorem asc_at {r : List Int} (h : r.Pairwise (· < ·)) {i j : Nat} (hij : i < j) (hj : j < r.length) : r.getD i 0 < r.getD j 0 := by
  rw [gi_lt (by omega), gi_lt hj]
  exact List.pairwise_iff_getElem.1 h i j (by omega) hj hij
theorem row_snoc {c : Int} {r : List Int} {i : Nat} (hi : i < r.length) (h : RowP c (r.take i)) (h0 : 0 ≤ r.getD i 0) (h1 : r.getD i 0 < c) (h2 : 0 < i → r.getD (i - 1) 0 < r.getD i 0) : RowP c (r.take (i + 1)) := by
  rw [List.take_succ_eq_append_getElem hi, ← gi_lt hi]
  have hmax : ∀ x ∈ r.take i, x < r.getD i 0 := fun x hx => by
    obtain ⟨k, hk, rfl⟩ := List.mem_iff_getElem.1 hx
    rw [List.length_take] at hk
    rw [List.getElem_take]
    have hp := h2 (by omega)
    by_cases e : k = i - 1
    · subst e; rw [← gi_lt (by omega)]; exact hp
    · have := asc_at h.asc (i := k) (j := i - 1) (by omega) (by rw [List.length_take]; omega)
      rw [gi_lt (by rw [List.length_take]; omega), gi_lt (by rw [List.length_take]; omega), List.getElem_take, List.getElem_take] at this
      rw [gi_lt (by omega)] at hp
      omega
  refine ⟨List.pairwise_append.2 ⟨h.asc, List.pairwise_singleton .., fun x hx y hy => ?_⟩, fun x hx => ?_, fun x hx => ?_⟩
  · rw [List.mem_singleton.1 hy]; exact hmax x hx
  · rcases List.mem_append.1 hx with hx | hx
    · exact h.lo x hx
    · rw [List.mem_singleton.1 hx]; exact h0
  · rcases List.mem_append.1 hx with hx | hx
    · exact h.hi x hx
    · rw [List.mem_singleton.1 hx]; exact h1
set_option maxHeartbeats 16000000 in
set_option maxRecDepth 100000 in
theorem specRow_ok (r : List Int) (c : Int) (hr : r.length ≤ 1100000) (h0 : -1100000 ≤ c) (h1 : c ≤ 1100000) (b : Bool) (hb : b = true ↔ RowP c r ∧ 0 ≤ c ∧ c ≤ 24) : Good Tryz.prog 87 [.one (.p (slI r)), vint c] [] (vbool b) [] := by
  have hm : (r.map eI).length = r.length := List.length_map ..
  have hbf : ¬ (RowP c r ∧ 0 ≤ c ∧ c ≤ 24) → b = false := fun h => by
    cases b with
    | false => rfl
    | true => exact absurd (hb.1 rfl) h
  refine good_e noM Tryz.func87 rfl rfl ?_
  conv => whnf
  refine VLoop.enter [0, 1, 5] ?_
  conv => whnf
  refine VLoop.ind1 (n0 := 0) (α := Int) noM [0, 1, 5] (fun i => ⟨38, 0, [(0, .one (.p (slI r))), (1, vint c), (5, vint i)], []⟩)
    (fun i => ∃ j : Nat, i = j ∧ j ≤ r.length ∧ RowP c (r.take j)) (fun i => ((r.length : Int) - i).toNat) ?_ 0 ⟨0, rfl, by omega, RowP.nil c⟩
  rintro _ ⟨i, rfl, hi, hp⟩
  conv => whnf
  rw [hm]
  split
  · rename_i q1
    have q1' := of_decide_eq_true q1
    have hil : i < r.length := by omega
    have en : (i : Int).toNat = i := Int.toNat_natCast i
    have hw : IntKind.i64.wrap ((i : Int) + 1) = i + 1 := wrap_in _ (by omega) (by omega)
    have hc : IntKind.i64.wrap (c - 1) = c - 1 := wrap_in _ (by omega) (by omega)
    conv => whnf
    refine VDraw.goR [0, 0, 3, 7, 0, 16, 63, 127, 255, 511, 1023, 2047, 4095, 4095, 12287, 32767, 65535, 4095, 4095, 397311, 921599, 2097151, 4194303, 8388607] [6] [] [] rfl (by decide +kernel) ?_
    conv => whnf
    refine ⟨by omega, by omega, _, atI r en hil, ?_⟩
    conv => whnf
    rw [hc]
    refine .mk _ _ false Tryz.call33 (l1In_ok (r.getD i 0) 0 (c - 1)) (Nat.le_of_ble_eq_true rfl) (.inl rfl) ?_
    conv => whnf
    cases hr1 : inR (r.getD i 0) 0 (c - 1) with
    | false =>
      rw [hbf (fun h => by
        have h2 := h.1.lo _ (gi_mem hil)
        have h3 := h.1.hi _ (gi_mem hil)
        rw [inR_iff.2 ⟨h2, by omega⟩] at hr1; cases hr1)]
      conv => whnf
      refine ⟨trivial, ?_⟩
      conv => whnf
      exact ⟨rfl, rfl⟩
    | true =>
      obtain ⟨x1, x2⟩ := inR_iff.1 hr1
      conv => whnf
      split
      · rename_i q2
        have q2' := of_decide_eq_true q2
        have hi1 : IntKind.i64.wrap ((i : Int) - 1) = ((i - 1 : Nat) : Int) := by rw [wrap_in _ (by omega) (by omega)]; omega
        have en1 : (((i - 1 : Nat) : Int)).toNat = i - 1 := Int.toNat_natCast _
        conv => whnf
        rw [hi1]
        refine ⟨by omega, by omega, _, atI r en1 (by omega), ?_⟩
        conv => whnf
        refine ⟨by omega, by omega, _, atI r en hil, ?_⟩
        conv => whnf
        split
        · rename_i q3
          have q3' := of_decide_eq_true q3
          rw [hbf (fun h => by have := asc_at h.1.asc (i := i - 1) (j := i) (by omega) hil; omega)]
          conv => whnf
          refine ⟨trivial, ?_⟩
          conv => whnf
          exact ⟨rfl, rfl⟩
        · rename_i q3
          have q3' := of_decide_eq_false q3
          conv => whnf
          exact ⟨_, rfl, rfl, ⟨i + 1, by rw [hw]; simp, by omega, row_snoc hil hp x1 (by omega) (fun _ => by omega)⟩, by rw [hw]; omega⟩
      · rename_i q2
        have q2' := of_decide_eq_false q2
        conv => whnf
        exact ⟨_, rfl, rfl, ⟨i + 1, by rw [hw]; simp, by omega, row_snoc hil hp x1 (by omega) (fun h => by omega)⟩, by rw [hw]; omega⟩
  · rename_i q1
    have q1' := of_decide_eq_false q1
    have e : i = r.length := by omega
    rw [e, List.take_length] at hp
    have hbe : b = inR c 0 24 := by
      rw [Bool.eq_iff_iff, hb, inR_iff]
      exact ⟨fun h => h.2, fun h => ⟨hp, h⟩⟩
    rw [hbe]
    conv => whnf
    refine .mk _ _ false Tryz.call33 (l1In_ok c 0 24) (Nat.le_of_ble_eq_true rfl) (.inl rfl) ?_
    conv => whnf
    refine ⟨trivial, ?_⟩
    conv => whnf
    exact ⟨rfl, rfl⟩
set_option maxHeartbeats 16000000 in
set_option maxRecDepth 100000 in
theorem implRow_ok (r : List Int) (c : Int) (hr : r.length ≤ 1100000) (h0 : -1100000 ≤ c) (h1 : c ≤ 1100000) (b : Bool) (hb : b = true ↔ RowP c r ∧ 0 ≤ c ∧ c ≤ 24) : Good Tryz.prog 67 [.one (.p (slI r)), vint c] [] (vbool b) [] := by
  have hm : (r.map eI).length = r.length := List.length_map ..
  have hbf : ¬ (RowP c r ∧ 0 ≤ c ∧ c ≤ 24) → b = false := fun h => by
    cases b with
    | false => rfl
    | true => exact absurd (hb.1 rfl) h
  refine good_e noM Tryz.func67 rfl rfl ?_
  conv => whnf
  refine VLoop.enter [0, 1, 7, 8, 9] ?_
  conv => whnf
  refine VLoop.ind1 (n0 := 0) (α := Int) noM [0, 1, 7, 8, 9] (fun i => ⟨35, 0, [(0, .one (.p (slI r))), (1, vint c), (7, .one (.p (slI r))), (8, vint (r.map eI).length), (9, vint i)], []⟩)
    (fun i => ∃ j : Nat, i = j ∧ j ≤ r.length ∧ RowP c (r.take j)) (fun i => ((r.length : Int) - i).toNat) ?_ 0 ⟨0, rfl, by omega, RowP.nil c⟩
  rintro _ ⟨i, rfl, hi, hp⟩
  conv => whnf
  rw [hm]
  split
  · rename_i q1
    have q1' := of_decide_eq_true q1
    have hil : i < r.length := by omega
    have en : (i : Int).toNat = i := Int.toNat_natCast i
    have hw : IntKind.i64.wrap ((i : Int) + 1) = i + 1 := wrap_in _ (by omega) (by omega)
    have hc : IntKind.i64.wrap (c - 1) = c - 1 := wrap_in _ (by omega) (by omega)
    conv => whnf
    refine ⟨by omega, by omega, _, atI r en hil, ?_⟩
    conv => whnf
    rw [hc]
    refine .mk _ _ false Tryz.call29 (within_ok (r.getD i 0) 0 (c - 1)) (Nat.le_of_ble_eq_true rfl) (.inl rfl) ?_
    conv => whnf
    cases hr1 : inR (r.getD i 0) 0 (c - 1) with
    | false =>
      rw [hbf (fun h => by
        have h2 := h.1.lo _ (gi_mem hil)
        have h3 := h.1.hi _ (gi_mem hil)
        rw [inR_iff.2 ⟨h2, by omega⟩] at hr1; cases hr1)]
      conv => whnf
      refine ⟨trivial, ?_⟩
      conv => whnf
      exact ⟨rfl, rfl⟩
    | true =>
      obtain ⟨x1, x2⟩ := inR_iff.1 hr1
      conv => whnf
      split
      · rename_i q2
        have q2' := of_decide_eq_true q2
        have hi1 : IntKind.i64.wrap ((i : Int) - 1) = ((i - 1 : Nat) : Int) := by rw [wrap_in _ (by omega) (by omega)]; omega
        have en1 : (((i - 1 : Nat) : Int)).toNat = i - 1 := Int.toNat_natCast _
        conv => whnf
        rw [hi1]
        refine ⟨by omega, by omega, _, atI r en1 (by omega), ?_⟩
        conv => whnf
        split
        · rename_i q3
          have q3' := of_decide_eq_true q3
          rw [hbf (fun h => by have := asc_at h.1.asc (i := i - 1) (j := i) (by omega) hil; omega)]
          conv => whnf
          refine ⟨trivial, ?_⟩
          conv => whnf
          exact ⟨rfl, rfl⟩
        · rename_i q3
          have q3' := of_decide_eq_false q3
          conv => whnf
          exact ⟨_, rfl, rfl, ⟨i + 1, by rw [hw]; simp, by omega, row_snoc hil hp x1 (by omega) (fun _ => by omega)⟩, by rw [hw]; omega⟩
      · rename_i q2
        have q2' := of_decide_eq_false q2
        conv => whnf
        exact ⟨_, rfl, rfl, ⟨i + 1, by rw [hw]; simp, by omega, row_snoc hil hp x1 (by omega) (fun h => by omega)⟩, by rw [hw]; omega⟩
  · rename_i q1
    have q1' := of_decide_eq_false q1
    have e : i = r.length := by omega
    rw [e, List.take_length] at hp
    have hbe : b = inR c 0 24 := by
      rw [Bool.eq_iff_iff, hb, inR_iff]
      exact ⟨fun h => h.2, fun h => ⟨hp, h⟩⟩
    rw [hbe]
    conv => whnf
    refine .mk _ _ false Tryz.call29 (within_ok c 0 24) (Nat.le_of_ble_eq_true rfl) (.inl rfl) ?_
    conv => whnf
    refine ⟨trivial, ?_⟩
    conv => whnf
    exact ⟨rfl, rfl⟩
set_option maxHeartbeats 16000000 in
set_option maxRecDepth 100000 in
theorem has_ok (r : List Int) (n : Int) (hr : r.length ≤ 1100000) : Good Tryz.prog 81 [.one (.p (slI r)), vint n] [] (vbool (decide (n ∈ r))) [] := by
  have hm : (r.map eI).length = r.length := List.length_map ..
  refine good_e noM Tryz.func81 rfl rfl ?_
  conv => whnf
  refine VLoop.enter [0, 1, 5] ?_
  conv => whnf
  refine VLoop.ind1 (n0 := 0) (α := Int) noM [0, 1, 5] (fun i => ⟨18, 0, [(0, .one (.p (slI r))), (1, vint n), (5, vint i)], []⟩)
    (fun i => ∃ j : Nat, i = j ∧ j ≤ r.length ∧ n ∉ r.take j) (fun i => ((r.length : Int) - i).toNat) ?_ 0 ⟨0, rfl, by omega, by simp⟩
  rintro _ ⟨i, rfl, hi, hp⟩
  conv => whnf
  rw [hm]
  split
  · rename_i q1
    have q1' := of_decide_eq_true q1
    have hil : i < r.length := by omega
    have en : (i : Int).toNat = i := Int.toNat_natCast i
    have hw : IntKind.i64.wrap ((i : Int) + 1) = i + 1 := wrap_in _ (by omega) (by omega)
    conv => whnf
    refine ⟨by omega, by omega, _, atI r en hil, ?_⟩
    conv => whnf
    split
    · rename_i q2
      have q2' : r.getD i 0 = n := beq_iff_eq.1 q2
      rw [decide_eq_true (show n ∈ r from q2' ▸ gi_mem hil)]
      conv => whnf
      refine ⟨trivial, ?_⟩
      conv => whnf
      exact ⟨rfl, rfl⟩
    · rename_i q2
      have q2' : ¬ r.getD i 0 = n := by simpa using q2
      conv => whnf
      refine ⟨_, rfl, rfl, ⟨i + 1, by rw [hw]; simp, by omega, fun h => ?_⟩, by rw [hw]; omega⟩
      rw [List.take_succ_eq_append_getElem hil, ← gi_lt hil] at h
      rcases List.mem_append.1 h with h | h
      · exact hp h
      · exact q2' (List.mem_singleton.1 h).symm
  · rename_i q1
    have q1' := of_decide_eq_false q1
    have e : i = r.length := by omega
    rw [e, List.take_length] at hp
    rw [decide_eq_false hp]
    conv => whnf
    refine ⟨trivial, ?_⟩
    conv => whnf
    exact ⟨rfl, rfl⟩
end Go.Abs.F

set_option linter.unusedSimpArgs false
set_option linter.unusedVariables false
namespace Go.Abs.F
open Go Go.Abs Go.Proofs Go.RowKit
attribute [local irreducible] IntKind.wrap
/-- A row as bits, the first ones first. -/
theorem mk_snoc (r : List Int) (x : Int) : mk (r ++ [x]) = mk r ||| 2 ^ x.toNat := by
  induction r with
  | nil => show 2 ^ x.toNat ||| 0 = 0 ||| _; rw [Nat.or_zero, Nat.zero_or]
  | cons y r ih => show 2 ^ y.toNat ||| mk (r ++ [x]) = (2 ^ y.toNat ||| mk r) ||| _; rw [ih, Nat.or_assoc]
theorem bv_of {a : Nat} (h : a < 2 ^ 32) : (BitVec.ofInt IntKind.u32.bits (a : Int)).toNat = a := by
  rw [BitVec.toNat_ofInt]
  show ((a : Int) % ((2 ^ 32 : Nat) : Int)).toNat = a
  omega
theorem w32 {a : Nat} (h : a < 2 ^ 32) : IntKind.u32.wrap (a : Int) = a := wrap_u32 _ (by omega) (by omega)
theorem orW {a b : Nat} (ha : a < 2 ^ 32) (hb : b < 2 ^ 32) : IntKind.u32.wrap (((BitVec.ofInt IntKind.u32.bits (a : Int) ||| BitVec.ofInt IntKind.u32.bits (b : Int)).toNat : Nat) : Int) = ((a ||| b : Nat) : Int) := by
  rw [BitVec.toNat_or, bv_of ha, bv_of hb]; exact w32 (Nat.or_lt_two_pow ha hb)
theorem xorW {a b : Nat} (ha : a < 2 ^ 32) (hb : b < 2 ^ 32) : IntKind.u32.wrap (((BitVec.ofInt IntKind.u32.bits (a : Int) ^^^ BitVec.ofInt IntKind.u32.bits (b : Int)).toNat : Nat) : Int) = ((a ^^^ b : Nat) : Int) := by
  rw [BitVec.toNat_xor, bv_of ha, bv_of hb]; exact w32 (Nat.xor_lt_two_pow ha hb)
theorem andW {a b : Nat} (ha : a < 2 ^ 32) (hb : b < 2 ^ 32) : IntKind.u32.wrap (((BitVec.ofInt IntKind.u32.bits (a : Int) &&& BitVec.ofInt IntKind.u32.bits (b : Int)).toNat : Nat) : Int) = ((a &&& b : Nat) : Int) := by
  rw [BitVec.toNat_and, bv_of ha, bv_of hb]; exact w32 (Nat.and_lt_two_pow _ hb)
theorem shlW {x : Int} (h0 : 0 ≤ x) (h1 : x < 24) : IntKind.u32.wrap (1 * 2 ^ min x.toNat IntKind.u32.bits) = ((2 ^ x.toNat : Nat) : Int) := by
  have e : min x.toNat IntKind.u32.bits = x.toNat := Nat.min_eq_left (show x.toNat ≤ 32 by omega)
  rw [e, Int.one_mul]
  have : (2 : Nat) ^ x.toNat < 2 ^ 32 := Nat.pow_lt_pow_right (by decide) (by omega)
  have h2 := w32 this
  rw [Int.natCast_pow] at h2
  rw [Int.natCast_pow]
  exact h2
theorem bitW {m : Nat} (hm : m < 2 ^ 32) {i : Nat} (hi : i < 32) : (IntKind.u32.wrap (((BitVec.ofInt IntKind.u32.bits ((m : Int).fdiv (2 ^ min (i : Int).toNat IntKind.u32.bits)) &&& BitVec.ofInt IntKind.u32.bits 1).toNat : Nat) : Int) == 1) = m.testBit i := by
  have e : min (i : Int).toNat IntKind.u32.bits = i := Nat.min_eq_left (show i ≤ 32 by omega)
  rw [e]
  have e2 : (m : Int).fdiv (2 ^ i) = ((m / 2 ^ i : Nat) : Int) := by
    rw [Int.fdiv_eq_ediv_of_nonneg _ (by exact Int.le_of_lt (Int.pow_pos (by decide)))]
    rw [Int.natCast_ediv, Int.natCast_pow]; rfl
  rw [e2]
  have h3 : m / 2 ^ i < 2 ^ 32 := Nat.lt_of_le_of_lt (Nat.div_le_self _ _) hm
  rw [show (1 : Int) = ((1 : Nat) : Int) from rfl, andW h3 (by decide)]
  rw [Nat.testBit, Nat.shiftRight_eq_div_pow, Nat.and_comm]
  have h4 : 1 &&& (m / 2 ^ i) = (m / 2 ^ i) % 2 := by rw [Nat.and_comm]; exact Nat.and_one_is_mod _
  rw [h4]
  have h5 : (m / 2 ^ i) % 2 = 0 ∨ (m / 2 ^ i) % 2 = 1 := by omega
  rcases h5 with h5 | h5 <;> rw [h5] <;> rfl
set_option maxHeartbeats 16000000 in
set_option maxRecDepth 100000 in
theorem mask_ok (r : List Int) (hr : r.length ≤ 1100000) (hp : RowP 24 r) : Good Tryz.prog 69 [.one (.p (slI r))] [] (lit (.int .u32 (mk r))) [] := by
  have hm : (r.map eI).length = r.length := List.length_map ..
  refine good_e noM Tryz.func69 rfl rfl ?_
  conv => whnf
  refine VLoop.enter [3, 6, 7, 8] ?_
  conv => whnf
  refine VLoop.ind2 (n0 := 0) (α := Int) (β := Int) noM [3, 6, 7, 8] (fun i m => ⟨18, 0, [(3, lit (.int .u32 m)), (6, .one (.p (slI r))), (7, vint (r.map eI).length), (8, vint i)], []⟩)
    (fun i m => ∃ j : Nat, i = j ∧ j ≤ r.length ∧ m = (mk (r.take j) : Nat)) (fun i _ => ((r.length : Int) - i).toNat) ?_ 0 0 ⟨0, rfl, by omega, rfl⟩
  rintro _ _ ⟨i, rfl, hi, rfl⟩
  conv => whnf
  rw [hm]
  split
  · rename_i q1
    have q1' := of_decide_eq_true q1
    have hil : i < r.length := by omega
    have en : (i : Int).toNat = i := Int.toNat_natCast i
    have hw : IntKind.i64.wrap ((i : Int) + 1) = i + 1 := wrap_in _ (by omega) (by omega)
    conv => whnf
    refine ⟨by omega, by omega, _, atI r en hil, ?_⟩
    conv => whnf
    have hx0 := hp.lo _ (gi_mem hil)
    have hx1 := hp.hi _ (gi_mem hil)
    rw [abin_shl (a := _) (b := _) rfl rfl hx0]
    conv => whnf
    rw [shlW hx0 hx1]
    have hb1 : mk (r.take i) < 2 ^ 32 := Nat.lt_trans (mk_lt (c := 24) (fun x hx => hp.lo x (List.mem_of_mem_take hx)) (fun x hx => hp.hi x (List.mem_of_mem_take hx))) (by decide)
    have hb2 : 2 ^ (r.getD i 0).toNat < 2 ^ 32 := Nat.pow_lt_pow_right (by decide) (by omega)
    rw [orW hb1 hb2]
    refine ⟨_, _, rfl, rfl, ⟨i + 1, by rw [hw]; simp, by omega, ?_⟩, by rw [hw]; omega⟩
    rw [List.take_succ_eq_append_getElem hil, ← gi_lt hil, mk_snoc]
  · rename_i q1
    have q1' := of_decide_eq_false q1
    have e : i = r.length := by omega
    rw [e, List.take_length]
    conv => whnf
    refine ⟨trivial, ?_⟩
    conv => whnf
    exact ⟨rfl, rfl⟩
set_option maxHeartbeats 16000000 in
set_option maxRecDepth 100000 in
theorem rowOf_ok (m : Nat) (hm : m < 2 ^ 24) : Good Tryz.prog 71 [lit (.int .u32 m)] [] (.one (.hs 0 0 (un m).length)) [.arr 1 ((un m).map eI)] := by
  refine good_e noM Tryz.func71 rfl rfl ?_
  conv => whnf
  refine VLoop.enter [0, 3, 6] ?_
  conv => whnf
  refine VLoop.ind3 (n0 := 1) (α := Int) (β := Nat) (γ := List (List PV)) noM [0, 3, 6] (fun i n E => ⟨20, 0, [(0, lit (.int .u32 m)), (3, .one (.hs 0 0 n)), (6, vint i)], [(0, some (.arr 1 E))]⟩)
    (fun i n E => ∃ j : Nat, i = j ∧ j ≤ 24 ∧ ∃ L : List Int, L = ((List.range j).filter fun i => m.testBit i).map Int.ofNat ∧ n = L.length ∧ E = L.map eI) (fun i _ _ => (24 - i).toNat) ?_ 0 0 [] ⟨0, rfl, by omega, [], rfl, rfl, rfl⟩
  rintro _ _ _ ⟨i, rfl, hi, L, hL, rfl, rfl⟩
  have hLl : L.length ≤ 24 := by
    rw [hL, List.length_map]
    have := List.length_filter_le (fun i => m.testBit i) (List.range i)
    rw [List.length_range] at this
    omega
  conv => whnf
  split
  · rename_i q1
    have q1' := of_decide_eq_true q1
    have hw : IntKind.i64.wrap ((i : Int) + 1) = i + 1 := wrap_in _ (by omega) (by omega)
    conv => whnf
    have hbit := bitW (m := m) (i := i) (Nat.lt_trans hm (by decide)) (by omega)
    have hrange : List.range (i + 1) = List.range i ++ [i] := List.range_succ
    split
    · rename_i q2
      rw [hbit] at q2
      conv => whnf
      refine ⟨⟨rfl, (List.length_map ..).symm, rfl⟩, Nat.le_refl 1, ?_⟩
      conv => whnf
      refine ⟨(fun q => by cases q), app3 (show (L.map eI).length + 1 ≤ _ by rw [List.length_map]; omega), fun el hel => by cases List.mem_singleton.1 hel; rfl, ?_⟩
      conv => whnf
      refine ⟨_, _, _, rfl, rfl, ⟨i + 1, by rw [hw]; simp, by omega, L ++ [(i : Int)], by rw [hrange, List.filter_append, List.map_append, ← hL]; simp [q2], by rw [List.length_append, List.length_map]; rfl, by rw [List.map_append]; rfl⟩, by rw [hw]; omega⟩
    · rename_i q2
      rw [hbit] at q2
      conv => whnf
      exact ⟨_, _, _, rfl, rfl, ⟨i + 1, by rw [hw]; simp, by omega, L, by rw [hrange, List.filter_append, List.map_append, ← hL]; simp [q2], rfl, rfl⟩, by rw [hw]; omega⟩
  · rename_i q1
    have q1' := of_decide_eq_false q1
    have e : i = 24 := by omega
    subst e
    have e2 : L = un m := hL
    conv => whnf
    refine ⟨trivial, ?_⟩
    conv => whnf
    rw [e2]
    exact ⟨rfl, rfl⟩
end Go.Abs.F

set_option linter.unusedSimpArgs false
set_option linter.unusedVariables false
namespace Go.Abs.F
open Go Go.Abs Go.Proofs Go.RowKit
attribute [local irreducible] IntKind.wrap
@[reducible] def u8 (b : UInt8) : List PV := [.lit (.int .u8 b.toNat)]
theorem szl (s : ByteArray) : s.data.toList.length = s.size := by simp
theorem bt_get {s : ByteArray} {i : Nat} (h : i < s.size) : bt s i = ((s.data.toList[i]'(by simpa using h)).toNat : Int) := by
  unfold bt
  rw [List.getD_eq_getElem?_getD, List.getElem?_eq_getElem (by simpa using h)]; rfl
theorem els_u8 (L : List UInt8) : elsBytes (L.map u8) = mkS L := by
  unfold elsBytes mkS
  rw [List.map_map]
  congr 2
  have : (byteOf ∘ u8) = id := by
    funext b
    show UInt8.ofNat ((b.toNat : Nat) : Int).toNat = b
    rw [Int.toNat_natCast]; exact UInt8.ofNat_toNat
  rw [this, List.map_id]
theorem u8_isByte (L : List UInt8) : ∀ el ∈ L.map u8, isByte el := fun el h => by
  obtain ⟨b, _, rfl⟩ := List.mem_map.1 h; exact ⟨_, rfl⟩
theorem xor8 (x y : UInt8) : IntKind.u8.wrap (((BitVec.ofInt IntKind.u8.bits (x.toNat : Int) ^^^ BitVec.ofInt IntKind.u8.bits (y.toNat : Int)).toNat : Nat) : Int) = ((x ^^^ y).toNat : Int) := by
  have h : ∀ a : UInt8, (BitVec.ofInt IntKind.u8.bits (a.toNat : Int)).toNat = a.toNat := fun a => by
    rw [BitVec.toNat_ofInt]
    have := a.toNat_lt
    show ((a.toNat : Int) % ((2 ^ 8 : Nat) : Int)).toNat = a.toNat
    omega
  rw [BitVec.toNat_xor, h, h, UInt8.toNat_xor]
  have := Nat.xor_lt_two_pow x.toNat_lt y.toNat_lt
  exact wrap_u8 _ (by omega) (by omega)
theorem takeU {L : List UInt8} {n : Nat} (h : n = L.length) : List.take n (List.drop 0 (L.map u8)) = L.map u8 := by
  rw [List.drop_zero, List.take_of_length_le (by rw [List.length_map]; omega)]
theorem atU {L : List UInt8} {j i : Nat} {x : UInt8} (e : j = i) (h : L[i]? = some x) : (L.map u8).getD j [] = u8 x := by
  rw [e, List.getD_eq_getElem?_getD, List.getElem?_map, h]; rfl
def zx (a b : List UInt8) : List UInt8 := List.zipWith (fun x y => x ^^^ y) a b
theorem dx_mk (a b : ByteArray) : dx a b = mkS (zx a.data.toList b.data.toList) := rfl
theorem zx_take {a b : List UInt8} {i : Nat} (h1 : i < a.length) (h2 : i < b.length) : zx (a.take (i + 1)) (b.take (i + 1)) = zx (a.take i) (b.take i) ++ [a[i] ^^^ b[i]] := by
  unfold zx
  rw [List.take_succ_eq_append_getElem h1, List.take_succ_eq_append_getElem h2, List.zipWith_append (by rw [List.length_take, List.length_take]; omega)]
  rfl
theorem zx_len {a b : List UInt8} (h : a.length = b.length) (i : Nat) : (zx (a.take i) (b.take i)).length = min i a.length := by
  unfold zx
  rw [List.length_zipWith, List.length_take, List.length_take]; omega
set_option maxHeartbeats 16000000 in
set_option maxRecDepth 100000 in
theorem specXor_ok (a b : ByteArray) (h : a.size = b.size) (hs : a.size ≤ 1100000) : Good Tryz.prog 83 [vstr a, vstr b] [] (vstr (dx a b)) [] := by
  have ha := szl a
  have hb := szl b
  refine good_e noM Tryz.func83 rfl rfl ?_
  conv => whnf
  refine VLoop.enter [0, 1, 5, 6] ?_
  conv => whnf
  refine VLoop.ind3 (n0 := 1) (α := Int) (β := Nat) (γ := List (List PV)) noM [0, 1, 5, 6] (fun i n E => ⟨26, 0, [(0, vstr a), (1, vstr b), (5, .one (.hs 0 0 n)), (6, vint i)], [(0, some (.arr 1 E))]⟩)
    (fun i n E => ∃ j : Nat, i = j ∧ j ≤ a.size ∧ n = j ∧ E = (zx (a.data.toList.take j) (b.data.toList.take j)).map u8) (fun i _ _ => ((a.size : Int) - i).toNat) ?_ 0 0 [] ⟨0, rfl, by omega, rfl, rfl⟩
  rintro _ n _ ⟨i, rfl, hi, hn, rfl⟩
  subst hn
  have hzl := zx_len (a := a.data.toList) (b := b.data.toList) (by omega) n
  conv => whnf
  split
  · rename_i q1
    have q1' := of_decide_eq_true q1
    have hw : IntKind.i64.wrap ((n : Int) + 1) = n + 1 := wrap_in _ (by omega) (by omega)
    have en : (n : Int).toNat = n := Int.toNat_natCast n
    conv => whnf
    refine VDraw.goR [0, 0, 0, 6, 0, 0, 48, 126, 254, 511, 1023] [8, 9] [] [(9, [0])] rfl (by decide +kernel) ?_
    conv => whnf
    refine ⟨by omega, by omega, ?_⟩
    conv => whnf
    refine ⟨by omega, by omega, ?_⟩
    conv => whnf
    rw [en, bt_get (s := a) (by omega), bt_get (s := b) (by omega), xor8]
    refine ⟨⟨rfl, (show n = ((zx (a.data.toList.take n) (b.data.toList.take n)).map u8).length by rw [List.length_map]; omega), rfl⟩, Nat.le_refl 1, ?_⟩
    conv => whnf
    refine ⟨(fun q => by cases q), app5 (show ((zx (a.data.toList.take n) (b.data.toList.take n)).map u8).length + 1 ≤ _ by rw [List.length_map]; omega), fun el hel => by cases List.mem_singleton.1 hel; rfl, ?_⟩
    conv => whnf
    refine ⟨_, _, _, rfl, rfl, ⟨n + 1, by rw [hw]; simp, by omega, ?_, ?_⟩, by rw [hw]; omega⟩
    · show ((zx (a.data.toList.take n) (b.data.toList.take n)).map u8).length + 1 = n + 1
      rw [List.length_map]; omega
    · rw [zx_take (by omega) (by omega), List.map_append]; rfl
  · rename_i q1
    have q1' := of_decide_eq_false q1
    have e : n = a.size := by omega
    subst e
    have hA : a.data.toList.take a.size = a.data.toList := List.take_of_length_le (by omega)
    have hB : b.data.toList.take a.size = b.data.toList := List.take_of_length_le (by omega)
    rw [hA, hB] at hzl ⊢
    conv => whnf
    have hlen : a.size = (zx a.data.toList b.data.toList).length := by rw [hzl]; omega
    refine ⟨⟨by rw [List.length_map]; omega, fun el hel => u8_isByte _ el (List.mem_of_mem_drop (List.mem_of_mem_take hel))⟩, ?_⟩
    rw [takeU hlen, els_u8]
    conv => whnf
    refine ⟨trivial, ?_⟩
    conv => whnf
    exact ⟨rfl, rfl⟩
set_option maxHeartbeats 16000000 in
set_option maxRecDepth 100000 in
theorem implXor_ok (a b : ByteArray) (h : a.size = b.size) (hs : a.size ≤ 1100000) : Good Tryz.prog 72 [vstr a, vstr b] [] (vstr (dx a b)) [] := by
  have ha := szl a
  have hb := szl b
  refine good_e noM Tryz.func72 rfl rfl ?_
  conv => whnf
  refine ⟨trivial, ?_⟩
  conv => whnf
  refine VLoop.enter [1, 5, 10, 11] ?_
  conv => whnf
  refine VLoop.ind2 (n0 := 1) (α := Int) (β := List (List PV)) noM [1, 5, 10, 11] (fun i E => ⟨26, 0, [(1, vstr b), (5, .one (.hs 0 0 a.size)), (10, vint a.size), (11, vint i)], [(0, some (.arr 1 E))]⟩)
    (fun i E => ∃ j : Nat, i = j ∧ j ≤ a.size ∧ E = (zx (a.data.toList.take j) (b.data.toList.take j) ++ a.data.toList.drop j).map u8) (fun i _ => ((a.size : Int) - i).toNat) ?_ 0 _ ⟨0, rfl, by omega, rfl⟩
  rintro _ _ ⟨n, rfl, hi, rfl⟩
  have hzl := zx_len (a := a.data.toList) (b := b.data.toList) (by omega) n
  conv => whnf
  split
  · rename_i q1
    have q1' := of_decide_eq_true q1
    have hw : IntKind.i64.wrap ((n : Int) + 1) = n + 1 := wrap_in _ (by omega) (by omega)
    have en : (n : Int).toNat = n := Int.toNat_natCast n
    conv => whnf
    refine VDraw.goR [0, 0, 3, 7, 0, 0, 48, 127, 255, 511] [9] [] [(9, [0])] rfl (by decide +kernel) ?_
    conv => whnf
    have hLl : ((zx (a.data.toList.take n) (b.data.toList.take n) ++ a.data.toList.drop n).map u8).length = a.size := by
      rw [List.length_map, List.length_append, List.length_drop]; omega
    have hLn : (zx (a.data.toList.take n) (b.data.toList.take n) ++ a.data.toList.drop n)[n]? = some (a.data.toList[n]'(by omega)) := by
      rw [List.getElem?_append_right (by omega), List.getElem?_drop, show n + (n - (zx (a.data.toList.take n) (b.data.toList.take n)).length) = n by omega, List.getElem?_eq_getElem (by omega)]
    have hat := atU (j := 0 + (n : Int).toNat) (i := n) (by omega) hLn
    refine ⟨by omega, by omega, by rw [hLl]; omega, ?_⟩
    conv => whnf
    refine ⟨_, hat, ?_⟩
    conv => whnf
    refine ⟨by omega, by omega, ?_⟩
    conv => whnf
    rw [en, bt_get (s := b) (by omega), xor8]
    refine ⟨by omega, by omega, by rw [hLl]; omega, ?_⟩
    conv => whnf
    rw [en] at hat
    refine ⟨_, hat, by rw [hLl]; omega, ?_⟩
    conv => whnf
    refine ⟨_, _, rfl, rfl, ⟨n + 1, by rw [hw]; simp, by omega, ?_⟩, by rw [hw]; omega⟩
    show ((zx (a.data.toList.take n) (b.data.toList.take n) ++ a.data.toList.drop n).map u8).set (0 + n) (u8 (a.data.toList[n] ^^^ b.data.toList[n])) = _
    rw [← List.map_set, Nat.zero_add, List.drop_eq_getElem_cons (show n < a.data.toList.length by omega), List.set_append_right _ _ (by omega), show n - (zx (a.data.toList.take n) (b.data.toList.take n)).length = 0 by omega, List.set_cons_zero, zx_take (by omega) (by omega), List.append_assoc]
    rfl
  · rename_i q1
    have q1' := of_decide_eq_false q1
    have e : n = a.size := by omega
    subst e
    have hA : a.data.toList.take a.size = a.data.toList := List.take_of_length_le (by omega)
    have hB : b.data.toList.take a.size = b.data.toList := List.take_of_length_le (by omega)
    have hD : a.data.toList.drop a.size = [] := List.drop_eq_nil_of_le (by omega)
    rw [hA, hB] at hzl ⊢
    rw [hD, List.append_nil]
    have hlen : a.size = (zx a.data.toList b.data.toList).length := by rw [hzl]; omega
    conv => whnf
    refine ⟨⟨by rw [List.length_map]; omega, fun el hel => u8_isByte _ el (List.mem_of_mem_drop (List.mem_of_mem_take hel))⟩, ?_⟩
    rw [takeU hlen, els_u8]
    conv => whnf
    refine ⟨trivial, ?_⟩
    conv => whnf
    exact ⟨rfl, rfl⟩
def zs (n : Nat) : ByteArray := mkS (List.replicate n 0)
theorem zs_size (n : Nat) : (zs n).size = n := by unfold zs; rw [mkS_size, List.length_replicate]
theorem zs_app (a b : Nat) : zs a ++ zs b = zs (a + b) := by
  apply ByteArray.ext
  rw [ByteArray.data_append]
  show (List.replicate a (0 : UInt8)).toArray ++ (List.replicate b (0 : UInt8)).toArray = (List.replicate (a + b) (0 : UInt8)).toArray
  rw [List.replicate_append_replicate.symm]; simp
set_option maxHeartbeats 16000000 in
set_option maxRecDepth 100000 in
theorem implZeros_ok (n : Nat) (h1 : n ≤ 1000) : Good Tryz.prog 70 [vint n] [] (vstr (zs n)) [] := by
  refine good_e noM Tryz.func70 rfl rfl ?_
  conv => whnf
  refine ⟨by omega, Int.le_refl _, Int.lt_of_le_of_lt (Int.mul_le_mul (show (n : Int) ≤ 1000 by omega) (show ((Tryz.prog.bytesOf 5 + 1 : Nat) : Int) ≤ 100 from Int.ofNat_le.2 bytes5) (by omega) (by omega)) (by decide), ?_⟩
  conv => whnf
  have he : elsBytes (List.take (n : Int).toNat (List.drop 0 (List.replicate (n : Int).toNat [.lit (.int .u8 0)]))) = zs n := by
    rw [Int.toNat_natCast, List.drop_zero, List.take_of_length_le (by rw [List.length_replicate]; exact Nat.le_refl _)]
    have e2 : List.replicate n [PV.lit (.int .u8 0)] = (List.replicate n (0 : UInt8)).map u8 := by rw [List.map_replicate]; rfl
    rw [e2, els_u8]; rfl
  refine ⟨⟨by rw [List.length_replicate]; omega, fun el hel => ?_⟩, ?_⟩
  · have := List.mem_of_mem_drop (List.mem_of_mem_take hel)
    rw [(List.mem_replicate.1 this).2]; exact ⟨_, rfl⟩
  conv => whnf
  refine ⟨trivial, ?_⟩
  conv => whnf
  exact ⟨congrArg vstr he, rfl⟩
set_option maxHeartbeats 16000000 in
set_option maxRecDepth 100000 in
theorem l1ManyZ_ok (n : Nat) (h1 : n ≤ 1000) : Good Tryz.prog 104 [vstr (zs 1), vint n] [] (vstr (zs n)) [] := by
  refine good_e noM Tryz.func104 rfl rfl ?_
  conv => whnf
  refine VLoop.enter [0, 1, 5] ?_
  conv => whnf
  refine VLoop.ind3 (n0 := 0) (α := ByteArray) (β := Int) (γ := ByteArray) noM [0, 1, 5] (fun s n o => ⟨20, 0, [(0, vstr s), (1, vint n), (5, vstr o)], []⟩)
    (fun s a o => ∃ m k i : Nat, s = zs m ∧ o = zs k ∧ a = i ∧ k + m * i = n ∧ m ≤ 2000 ∧ 1 ≤ m) (fun _ a _ => a.toNat) ?_ _ _ _ ⟨1, 0, n, rfl, rfl, rfl, by omega, by omega, by omega⟩
  rintro _ _ _ ⟨m, k, i, rfl, rfl, rfl, hk, hm, hm1⟩
  have him : i ≤ m * i := Nat.le_mul_of_pos_left i hm1
  conv => whnf
  split
  · rename_i q
    have q' := of_decide_eq_true q
    have hi : 0 < i := by omega
    have hmi : m ≤ m * i := Nat.le_mul_of_pos_right m hi
    conv => whnf
    have hn2 : m ≤ 1000 := by omega
    have ht : ((i : Int).tmod 2 == 1) = decide (i % 2 = 1) := by
      rw [Int.tmod_eq_emod_of_nonneg (by omega), Bool.eq_iff_iff, beq_iff_eq, decide_eq_true_eq]; omega
    have hq : IntKind.i64.wrap ((i : Int).tdiv 2) = ((i / 2 : Nat) : Int) := by
      rw [Int.tdiv_eq_ediv_of_nonneg (by omega), wrap_in _ (by omega) (by omega)]; omega
    have hz := zs_size
    have hmj : m * i = (m + m) * (i / 2) + m * (i % 2) := by
      have h2 : i = 2 * (i / 2) + i % 2 := by omega
      conv => lhs; rw [h2]
      rw [Nat.mul_add, ← Nat.mul_assoc, Nat.mul_comm m 2, Nat.two_mul]
    rw [ht]
    split
    · rename_i q2
      have q2' := of_decide_eq_true q2
      rw [q2', Nat.mul_one] at hmj
      conv => whnf
      rw [abin_cat (a := _) (b := _) rfl rfl (by rw [hz, hz]; omega)]
      conv => whnf
      rw [zs_app]
      rw [abin_cat (a := _) (b := _) rfl rfl (by rw [hz]; omega)]
      conv => whnf
      rw [zs_app]
      exact ⟨_, _, _, rfl, rfl, ⟨m + m, k + m, i / 2, rfl, rfl, hq, by omega, by omega, by omega⟩, by rw [hq]; omega⟩
    · rename_i q2
      have q2' := of_decide_eq_false q2
      rw [show i % 2 = 0 by omega, Nat.mul_zero, Nat.add_zero] at hmj
      conv => whnf
      rw [abin_cat (a := _) (b := _) rfl rfl (by rw [hz]; omega)]
      conv => whnf
      rw [zs_app]
      exact ⟨_, _, _, rfl, rfl, ⟨m + m, k, i / 2, rfl, rfl, hq, by omega, by omega, by omega⟩, by rw [hq]; omega⟩
  · rename_i q
    have q' := of_decide_eq_false q
    have e : i = 0 := by omega
    subst e
    rw [Nat.mul_zero, Nat.add_zero] at hk
    subst hk
    conv => whnf
    refine ⟨trivial, ?_⟩
    conv => whnf
    exact ⟨rfl, rfl⟩
set_option maxHeartbeats 16000000 in
set_option maxRecDepth 100000 in
theorem l3Zero_ok (n : Nat) (h1 : n ≤ 1000) : Good Tryz.prog 80 [vint n] [] (vstr (zs n)) [] := by
  refine good_e noM Tryz.func80 rfl rfl ?_
  conv => whnf
  refine ⟨⟨Nat.le_refl 1, fun el hel => by cases List.mem_singleton.1 hel; exact ⟨_, rfl⟩⟩, ?_⟩
  conv => whnf
  refine .mk _ _ false Tryz.call104 (l1ManyZ_ok n h1) (Nat.le_of_ble_eq_true rfl) (.inl rfl) ?_
  conv => whnf
  refine ⟨trivial, ?_⟩
  conv => whnf
  exact ⟨rfl, rfl⟩
end Go.Abs.F

set_option linter.unusedSimpArgs false
set_option linter.unusedVariables false
namespace Go.Abs.F
open Go Go.Abs Go.Proofs Go.RowKit
attribute [local irreducible] IntKind.wrap
/-- What the merge of two rows has done. -/
theorem rx_drop {a b : List Int} {i k : Nat} (hi : i < a.length) (hk : k < b.length) :
    rx (a.drop i) (b.drop k) = if a.getD i 0 < b.getD k 0 then a.getD i 0 :: rx (a.drop (i + 1)) (b.drop k) else if b.getD k 0 < a.getD i 0 then b.getD k 0 :: rx (a.drop i) (b.drop (k + 1)) else rx (a.drop (i + 1)) (b.drop (k + 1)) := by
  rw [List.drop_eq_getElem_cons hi, List.drop_eq_getElem_cons hk, gi_lt hi, gi_lt hk]
  split
  · rename_i h; rw [rx_lt h]
  · split
    · rename_i h; rw [rx_gt h]
    · rename_i h1 h2; rw [rx_eq (by omega)]
set_option maxHeartbeats 16000000 in
set_option maxRecDepth 100000 in
theorem l2Xor_ok (a b : List Int) (ha : a.length ≤ 1100000) (hb : b.length ≤ 1100000) : Good Tryz.prog 82 [.one (.p (slI a)), .one (.p (slI b))] [] (.one (.hs 0 0 (rx a b).length)) [.arr 1 ((rx a b).map eI)] := by
  have hma : (a.map eI).length = a.length := List.length_map ..
  have hmb : (b.map eI).length = b.length := List.length_map ..
  refine good_e noM Tryz.func82 rfl rfl ?_
  conv => whnf
  refine VLoop.enter [0, 1, 5, 6, 7] ?_
  conv => whnf
  refine VLoop.ind4 (n0 := 1) (α := Int) (β := Int) (γ := Nat) (δ := List (List PV)) noM [0, 1, 5, 6, 7] (fun i k n E => ⟨80, 0, [(0, .one (.p (slI a))), (1, .one (.p (slI b))), (5, .one (.hs 0 0 n)), (6, vint i), (7, vint k)], [(0, some (.arr 1 E))]⟩)
    (fun i k n E => ∃ (j m : Nat) (L : List Int), i = j ∧ k = m ∧ j ≤ a.length ∧ m ≤ b.length ∧ n = L.length ∧ E = L.map eI ∧ L.length ≤ j + m ∧ rx a b = L ++ rx (a.drop j) (b.drop m)) (fun i k _ _ => ((a.length : Int) + b.length - i - k).toNat) ?_ 0 0 0 [] ⟨0, 0, [], rfl, rfl, by omega, by omega, rfl, rfl, by simp, rfl⟩
  rintro _ _ _ _ ⟨i, k, L, rfl, rfl, hi, hk, rfl, rfl, hL, hr⟩
  have hwi : IntKind.i64.wrap ((i : Int) + 1) = i + 1 := wrap_in _ (by omega) (by omega)
  have hwk : IntKind.i64.wrap ((k : Int) + 1) = k + 1 := wrap_in _ (by omega) (by omega)
  have eni : (i : Int).toNat = i := Int.toNat_natCast i
  have enk : (k : Int).toNat = k := Int.toNat_natCast k
  have d1 : ∀ h : (i : Int) < a.length, decide ((i : Int) ≥ a.length) = false := fun h => decide_eq_false (by omega)
  conv => whnf
  rw [hma]
  cases c1 : decide ((i : Int) < a.length) with
  | true =>
    have c1' := of_decide_eq_true c1
    have hil : i < a.length := by omega
    conv => whnf
    refine VDraw.goR [0, 0, 2, 7, 15, 31, 31, 95, 255, 511, 1023, 1023, 4095, 8191, 1023, 1023, 50175, 115711, 262143, 524287, 1048575, 2097151] [] [] [] rfl (by decide +kernel) ?_
    conv => whnf
    rw [hmb]
    cases c2 : decide ((k : Int) ≥ b.length) with
    | true =>
      have c2' := of_decide_eq_true c2
      have hx : rx (a.drop i) (b.drop k) = a.getD i 0 :: rx (a.drop (i + 1)) (b.drop k) := by
        rw [List.drop_eq_nil_of_le (show b.length ≤ k by omega), rx_nil2, rx_nil2, List.drop_eq_getElem_cons hil, gi_lt hil]
      conv => whnf
      refine ⟨by omega, by rw [hma]; omega, _, atI a eni hil, ?_⟩
      conv => whnf
      refine ⟨⟨rfl, (List.length_map ..).symm, rfl⟩, Nat.le_refl 1, ?_⟩
      conv => whnf
      refine ⟨(fun q => by cases q), app3 (show (L.map eI).length + 1 ≤ _ by rw [List.length_map]; omega), fun el hel => by cases List.mem_singleton.1 hel; rfl, ?_⟩
      conv => whnf
      refine ⟨_, _, _, _, rfl, rfl, ⟨i + 1, k, L ++ [a.getD i 0], by rw [hwi]; simp, rfl, by omega, hk, by rw [List.length_append, List.length_map]; rfl, by rw [List.map_append]; rfl, by rw [List.length_append]; simp; omega, ?_⟩, by rw [hwi]; omega⟩
      rw [hr, hx]; simp
    | false =>
      have c2' := of_decide_eq_false c2
      have hkl : k < b.length := by omega
      have hrd := rx_drop hil hkl
      conv => whnf
      rw [hma, c1]
      conv => whnf
      refine ⟨by omega, by omega, _, atI a eni hil, ?_⟩
      conv => whnf
      refine ⟨by omega, by rw [hmb]; omega, _, atI b enk hkl, ?_⟩
      conv => whnf
      cases c3 : decide (a.getD i 0 < b.getD k 0) with
      | true =>
        have hx := hrd.trans (if_pos (of_decide_eq_true c3))
        conv => whnf
        refine ⟨by omega, by rw [hma]; omega, _, atI a eni hil, ?_⟩
        conv => whnf
        refine ⟨⟨rfl, (List.length_map ..).symm, rfl⟩, Nat.le_refl 1, ?_⟩
        conv => whnf
        refine ⟨(fun q => by cases q), app3 (show (L.map eI).length + 1 ≤ _ by rw [List.length_map]; omega), fun el hel => by cases List.mem_singleton.1 hel; rfl, ?_⟩
        conv => whnf
        refine ⟨_, _, _, _, rfl, rfl, ⟨i + 1, k, L ++ [a.getD i 0], by rw [hwi]; simp, rfl, by omega, hk, by rw [List.length_append, List.length_map]; rfl, by rw [List.map_append]; rfl, by rw [List.length_append]; simp; omega, ?_⟩, by rw [hwi]; omega⟩
        rw [hr, hx]; simp
      | false =>
        rw [if_neg (of_decide_eq_false c3)] at hrd
        conv => whnf
        refine VDraw.goR [0, 0, 2, 7, 15, 31, 31, 127, 255, 31, 31, 1567, 3615, 8191, 16383, 32767] [] [] [] rfl (by decide +kernel) ?_
        conv => whnf
        rw [hma, d1 c1']
        conv => whnf
        refine ⟨by omega, by rw [hmb]; omega, _, atI b enk hkl, ?_⟩
        conv => whnf
        refine ⟨by omega, by rw [hma]; omega, _, atI a eni hil, ?_⟩
        conv => whnf
        cases c4 : decide (b.getD k 0 < a.getD i 0) with
        | true =>
          have hx := hrd.trans (if_pos (of_decide_eq_true c4))
          conv => whnf
          refine ⟨by omega, by rw [hmb]; omega, _, atI b enk hkl, ?_⟩
          conv => whnf
          refine ⟨⟨rfl, (List.length_map ..).symm, rfl⟩, Nat.le_refl 1, ?_⟩
          conv => whnf
          refine ⟨(fun q => by cases q), app3 (show (L.map eI).length + 1 ≤ _ by rw [List.length_map]; omega), fun el hel => by cases List.mem_singleton.1 hel; rfl, ?_⟩
          conv => whnf
          refine ⟨_, _, _, _, rfl, rfl, ⟨i, k + 1, L ++ [b.getD k 0], rfl, by rw [hwk]; simp, hi, by omega, by rw [List.length_append, List.length_map]; rfl, by rw [List.map_append]; rfl, by rw [List.length_append]; simp; omega, ?_⟩, by rw [hwk]; omega⟩
          rw [hr, hx]; simp
        | false =>
          have hx := hrd.trans (if_neg (of_decide_eq_false c4))
          conv => whnf
          exact ⟨_, _, _, _, rfl, rfl, ⟨i + 1, k + 1, L, by rw [hwi]; simp, by rw [hwk]; simp, by omega, by omega, rfl, rfl, by omega, by rw [hr, hx]⟩, by rw [hwi, hwk]; omega⟩
  | false =>
    have c1' := of_decide_eq_false c1
    have hA : a.drop i = [] := List.drop_eq_nil_of_le (by omega)
    conv => whnf
    rw [hmb]
    cases c2 : decide ((k : Int) < b.length) with
    | true =>
      have c2' := of_decide_eq_true c2
      have hkl : k < b.length := by omega
      have hx : rx (a.drop i) (b.drop k) = b.getD k 0 :: rx (a.drop i) (b.drop (k + 1)) := by
        rw [hA, rx_nil, rx_nil, List.drop_eq_getElem_cons hkl, gi_lt hkl]
      have d2 : decide ((k : Int) ≥ b.length) = false := decide_eq_false (by omega)
      have d3 : decide ((i : Int) ≥ a.length) = true := decide_eq_true (by omega)
      conv => whnf
      refine VDraw.goR [0, 0, 2, 7, 15, 31, 31, 95, 255, 511, 1023, 1023, 4095, 8191, 1023, 1023, 50175, 115711, 262143, 524287, 1048575, 2097151] [] [] [] rfl (by decide +kernel) ?_
      conv => whnf
      rw [hmb, d2]
      conv => whnf
      rw [hma, c1]
      conv => whnf
      refine VDraw.goR [0, 0, 2, 7, 15, 31, 31, 127, 255, 31, 31, 1567, 3615, 8191, 16383, 32767] [] [] [] rfl (by decide +kernel) ?_
      conv => whnf
      rw [hma, d3]
      conv => whnf
      refine ⟨by omega, by rw [hmb]; omega, _, atI b enk hkl, ?_⟩
      conv => whnf
      refine ⟨⟨rfl, (List.length_map ..).symm, rfl⟩, Nat.le_refl 1, ?_⟩
      conv => whnf
      refine ⟨(fun q => by cases q), app3 (show (L.map eI).length + 1 ≤ _ by rw [List.length_map]; omega), fun el hel => by cases List.mem_singleton.1 hel; rfl, ?_⟩
      conv => whnf
      refine ⟨_, _, _, _, rfl, rfl, ⟨i, k + 1, L ++ [b.getD k 0], rfl, by rw [hwk]; simp, hi, by omega, by rw [List.length_append, List.length_map]; rfl, by rw [List.map_append]; rfl, by rw [List.length_append]; simp; omega, ?_⟩, by rw [hwk]; omega⟩
      rw [hr, hx]; simp
    | false =>
      have c2' := of_decide_eq_false c2
      rw [hA, rx_nil, List.drop_eq_nil_of_le (show b.length ≤ k by omega), List.append_nil] at hr
      rw [hr]
      conv => whnf
      refine ⟨trivial, ?_⟩
      conv => whnf
      exact ⟨rfl, rfl⟩
end Go.Abs.F

set_option linter.unusedSimpArgs false
set_option linter.unusedVariables false
namespace Go.Abs.F
open Go Go.Abs Go.Proofs Go.RowKit
attribute [local irreducible] IntKind.wrap
@[reducible] def eE (e : Eqn) : List PV := [slI e.r, .lit (.string e.d)]
theorem atE (es : List Eqn) {j i : Nat} (e : j = i) {x : Eqn} (h : es[i]? = some x) : (es.map eE).getD j [] = eE x := by
  rw [e, List.getD_eq_getElem?_getD, List.getElem?_map, h]; rfl
@[reducible] def solF (c z : Int) (es : List Eqn) : AV := .agg [.p (.lit (.int .i64 c)), .p (.lit (.int .i64 z)), .p (.sl (es.map eE))]
/-- What is known is ok. -/
structure SOk (c : Int) (z : Int) (es : List Eqn) : Prop where
  c1 : 1 ≤ c
  c2 : c ≤ 24
  z1 : 1 ≤ z
  z2 : z ≤ 16
  eq : EqOk c z.toNat es
/-- It is not too long to be looked at. -/
structure SBd (c : Int) (z : Int) (es : List Eqn) : Prop where
  n : es.length ≤ 1100000
  r : ∀ e ∈ es, e.r.length ≤ 1100000 ∧ e.d.size ≤ 1100000
theorem sok_ex (c z : Int) (es : List Eqn) : ∃ b : Bool, b = true ↔ SOk c z es := by
  by_cases h : SOk c z es
  · exact ⟨true, fun _ => h, fun _ => rfl⟩
  · exact ⟨false, fun q => by (cases q), fun q => (h q).elim⟩
theorem sok_f {c z : Int} {es : List Eqn} {b : Bool} (hb : b = true ↔ SOk c z es) (h : ¬ SOk c z es) : b = false := by
  cases b with
  | false => rfl
  | true => exact (h (hb.1 rfl)).elim
theorem mem_at {es : List Eqn} {i : Nat} {x : Eqn} (h : es[i]? = some x) : x ∈ es := List.mem_of_getElem? h
/-- The first ones are well made. -/
structure Pre (c : Int) (z : Nat) (es : List Eqn) (i : Nat) : Prop where
  row : ∀ e ∈ es.take i, RowP c e.r ∧ e.r ≠ [] ∧ e.d.size = z
  asc : RowP c ((es.map pv).take i)
theorem Pre.zero (c : Int) (z : Nat) (es : List Eqn) : Pre c z es 0 := ⟨fun e h => by (cases h), RowP.nil c⟩
theorem take_snoc {α : Type} {es : List α} {i : Nat} {x : α} (h : es[i]? = some x) : es.take (i + 1) = es.take i ++ [x] := by
  rw [List.take_add_one, h]; rfl
theorem pv_get {es : List Eqn} {i : Nat} {x : Eqn} (h : es[i]? = some x) : (es.map pv).getD i 0 = pv x := by
  rw [List.getD_eq_getElem?_getD, List.getElem?_map, h]; rfl
theorem lt_at {α : Type} {es : List α} {i : Nat} {x : α} (h : es[i]? = some x) : i < es.length := by
  rcases Nat.lt_or_ge i es.length with q | q
  · exact q
  · rw [List.getElem?_eq_none q] at h; cases h
theorem Pre.snoc {c : Int} {z : Nat} {es : List Eqn} {i : Nat} {x : Eqn} (h : Pre c z es i) (hx : es[i]? = some x) (h1 : RowP c x.r) (h2 : x.r ≠ []) (h3 : x.d.size = z) (h4 : ∀ y, 0 < i → es[i - 1]? = some y → pv y < pv x) : Pre c z es (i + 1) := by
  have hi := lt_at hx
  refine ⟨fun e he => ?_, ?_⟩
  · rw [take_snoc hx] at he
    rcases List.mem_append.1 he with he | he
    · exact h.row e he
    · rw [List.mem_singleton.1 he]; exact ⟨h1, h2, h3⟩
  · refine row_snoc (by rw [List.length_map]; exact hi) h.asc ?_ ?_ fun h0 => ?_
    · rw [pv_get hx]; exact h1.lo _ (pv_mem h2)
    · rw [pv_get hx]; exact h1.hi _ (pv_mem h2)
    · have hy : es[i - 1]? = some es[i - 1] := List.getElem?_eq_getElem (by omega)
      rw [pv_get hx, pv_get hy]; exact h4 _ h0 hy
theorem pre_of {c : Int} {z : Nat} {es : List Eqn} (h : EqOk c z es) {i : Nat} {x y : Eqn} (h0 : 0 < i) (hx : es[i]? = some x) (hy : es[i - 1]? = some y) : pv y < pv x := by
  have h1 := lt_at hx
  have := List.pairwise_iff_getElem.1 h.asc (i - 1) i (by omega) h1 (by omega)
  rw [List.getElem?_eq_getElem h1] at hx
  rw [List.getElem?_eq_getElem (by omega)] at hy
  cases hx; cases hy
  exact this
theorem pre_eq {c : Int} {z : Nat} {es : List Eqn} (h : Pre c z es es.length) (hs : ∀ e ∈ es, ∀ f ∈ es, pv f ∉ e.r.tail) : EqOk c z es := by
  have h1 := h.row
  rw [List.take_length] at h1
  have h2 := h.asc.asc
  rw [List.take_of_length_le (by rw [List.length_map]; omega), List.pairwise_map] at h2
  refine ⟨h1, h2, h2.imp_of_mem fun {a b} ha hb hab q => ?_⟩
  have hn := (h1 a ha).2.1
  have h3 : a.r = pv a :: a.r.tail := by
    unfold pv
    cases e : a.r with
    | nil => exact absurd e hn
    | cons x r => rfl
  rw [h3] at q
  rcases List.mem_cons.1 q with q | q
  · omega
  · exact hs a ha b hb q
theorem tail_no {c : Int} {z : Nat} {es : List Eqn} (h : EqOk c z es) {e f : Eqn} (he : e ∈ es) (hf : f ∈ es) : pv f ∉ e.r.tail := fun q => by
  have := h.apart hf he (List.mem_of_mem_tail q)
  subst this
  have hr := (h.row f hf).1
  cases e2 : f.r with
  | nil => rw [e2] at q; cases q
  | cons x r =>
    rw [e2] at q hr
    have := hr.head _ q
    have h4 : pv f = x := by unfold pv; rw [e2]; rfl
    omega
theorem mk_and {a b : List Int} (ha : RowP 24 a) (hb : RowP 24 b) : (mk a &&& mk b = 0) ↔ ∀ x ∈ a, x ∉ b := by
  constructor
  · intro h x hx hx2
    have h1 := mk_has ha (ha.lo x hx)
    have h2 := mk_has hb (hb.lo x hx2)
    have h3 : (mk a &&& mk b).testBit x.toNat = true := by rw [Nat.testBit_and, h1, h2]; simp [hx, hx2]
    rw [h, Nat.zero_testBit] at h3; cases h3
  · intro h
    apply Nat.eq_of_testBit_eq
    intro i
    rw [Nat.zero_testBit, Nat.testBit_and, mk_bit (c := 24) ha.lo, mk_bit (c := 24) hb.lo]
    by_cases q : (i : Int) ∈ a
    · simp [q, h _ q]
    · simp [q]
theorem mk32 {r : List Int} (h : RowP 24 r) : mk r < 2 ^ 32 := Nat.lt_trans (mk_lt (c := 24) h.lo h.hi) (by decide)
theorem pv_at {e : Eqn} (h : e.r ≠ []) : e.r.getD 0 0 = pv e := by
  unfold pv
  cases e.r <;> rfl
theorem len0 {e : Eqn} : e.r ≠ [] ↔ 0 < e.r.length := by
  cases h : e.r <;> simp
theorem beq0 (n : Nat) : ((n : Int) == 0) = decide (n = 0) := by
  rw [Bool.eq_iff_iff, beq_iff_eq, decide_eq_true_eq]; omega
theorem row_ex (c : Int) (r : List Int) : ∃ b : Bool, b = true ↔ RowP c r ∧ 0 ≤ c ∧ c ≤ 24 := by
  by_cases h : RowP c r ∧ 0 ≤ c ∧ c ≤ 24
  · exact ⟨true, fun _ => h, fun _ => rfl⟩
  · exact ⟨false, fun q => by (cases q), fun q => (h q).elim⟩
set_option maxHeartbeats 16000000 in
set_option maxRecDepth 100000 in
theorem implSOk_ok (c z : Int) (es : List Eqn) (hB : SBd c z es) (b : Bool) (hb : b = true ↔ SOk c z es) : Good Tryz.prog 39 [solF c z es] [] (vbool b) [] := by
  have hm : (es.map eE).length = es.length := List.length_map ..
  have hn := hB.n
  refine good_e noM Tryz.func39 rfl rfl ?_
  conv => whnf
  refine .mk _ _ false Tryz.call29 (within_ok c 1 24) (Nat.le_of_ble_eq_true rfl) (.inl rfl) ?_
  conv => whnf
  cases h1 : inR c 1 24 with
  | false =>
    obtain rfl := sok_f hb fun q => inR_f h1 ⟨q.c1, q.c2⟩
    conv => whnf
    refine ⟨trivial, ?_⟩
    conv => whnf
    exact ⟨rfl, rfl⟩
  | true =>
  conv => whnf
  refine .mk _ _ false Tryz.call29 (within_ok z 1 16) (Nat.le_of_ble_eq_true rfl) (.inl rfl) ?_
  conv => whnf
  cases h2 : inR z 1 16 with
  | false =>
    obtain rfl := sok_f hb fun q => inR_f h2 ⟨q.z1, q.z2⟩
    conv => whnf
    refine ⟨trivial, ?_⟩
    conv => whnf
    exact ⟨rfl, rfl⟩
  | true =>
  have h1' := inR_iff.1 h1
  have h2' := inR_iff.1 h2
  conv => whnf
  refine VLoop.enter [1, 3, 19, 20, 21] ?_
  conv => whnf
  refine VLoop.ind2 (n0 := 1) (α := Int) (β := Nat) noM [1, 3, 19, 20, 21] (fun a m => ⟨89, 0, [(1, .one (.hp 0 0 0)), (3, lit (.int .u32 m)), (19, .one (.p (.sl (es.map eE)))), (20, vint (es.map eE).length), (21, vint a)], [(0, some (.box [.p (.lit (.int .i64 c)), .p (.lit (.int .i64 z)), .p (.sl (es.map eE))]))]⟩)
    (fun a m => ∃ i : Nat, a = i ∧ i ≤ es.length ∧ m = mk ((es.map pv).take i) ∧ Pre c z.toNat es i) (fun a _ => ((es.length : Int) - a).toNat) ?_ 0 0 ⟨0, rfl, by omega, rfl, Pre.zero _ _ _⟩
  rintro _ _ ⟨i, rfl, hi, rfl, hp⟩
  have hwi : IntKind.i64.wrap ((i : Int) + 1) = ((i + 1 : Nat) : Int) := by rw [wrap_in _ (by omega) (by omega)]; omega
  have hp24 : RowP 24 ((es.map pv).take i) := hp.asc.mono h1'.2
  conv => whnf
  rw [hm]
  split
  · rename_i q1
    have q1' := of_decide_eq_true q1
    have en : (i : Int).toNat = i := Int.toNat_natCast i
    obtain ⟨x, hx⟩ : ∃ x, es[i]? = some x := ⟨_, List.getElem?_eq_getElem (by omega)⟩
    have hxm := mem_at hx
    obtain ⟨hxr, hxd⟩ := hB.r x hxm
    have hxl : (x.r.map eI).length = x.r.length := List.length_map ..
    conv => whnf
    refine ⟨by omega, by rw [hm]; omega, _, atE es en hx, ?_⟩
    conv => whnf
    refine VDraw.goR [0, 1, 3, 7, 15, 31, 63, 31, 159, 511, 1023, 2047, 4095, 8191, 16383, 32767, 8191, 73727, 262143, 524287, 1048575, 2097151, 4194303, 8388607, 16777215, 33554431, 16777215, 83886079, 268435455, 536870911, 1073741823, 2147483647, 4294967295, 16777215, 8606711807, 25786580991, 60146319359, 137438953471, 274877906943, 549755813887] [9] [] [] rfl (by decide +kernel) ?_
    conv => whnf
    rw [hxl, beq0]
    cases q2 : decide (x.r.length = 0) with
    | true =>
      have q2' := of_decide_eq_true q2
      obtain rfl := sok_f hb fun q => by have := len0.1 (q.eq.row x hxm).2.1; omega
      conv => whnf
      refine ⟨trivial, ?_⟩
      conv => whnf
      exact ⟨rfl, rfl⟩
    | false =>
    have q2' := of_decide_eq_false q2
    have hne : x.r ≠ [] := len0.2 (by omega)
    conv => whnf
    obtain ⟨br, hbr⟩ := row_ex c x.r
    refine .mk _ _ false Tryz.call67 (implRow_ok x.r c (by omega) (by omega) (by omega) br hbr) (Nat.le_of_ble_eq_true rfl) (.inl rfl) ?_
    conv => whnf
    cases br with
    | false =>
      obtain rfl := sok_f hb fun q => by have := hbr.2 ⟨(q.eq.row x hxm).1, by omega, by omega⟩; cases this
      conv => whnf
      refine ⟨trivial, ?_⟩
      conv => whnf
      exact ⟨rfl, rfl⟩
    | true =>
    have hrow := (hbr.1 rfl).1
    conv => whnf
    cases q3 : ((x.d.size : Int) != z) with
    | true =>
      have q3' : ¬ (x.d.size : Int) = z := bne_iff_ne.1 q3
      obtain rfl := sok_f hb fun q => by have := (q.eq.row x hxm).2.2; omega
      conv => whnf
      refine ⟨trivial, ?_⟩
      conv => whnf
      exact ⟨rfl, rfl⟩
    | false =>
    have q3' : (x.d.size : Int) = z := by simpa using q3
    conv => whnf
    have hg : (x.r.map eI).getD 0 [] = eI (pv x) := by rw [← pv_at hne]; exact atI x.r rfl (by omega)
    have hfin : (∀ y, 0 < i → es[i - 1]? = some y → pv y < pv x) → Pre c z.toNat es (i + 1) := fun h => hp.snoc hx hrow hne (by omega) h
    have hv0 := hrow.lo _ (pv_mem hne)
    have hv1 := hrow.hi _ (pv_mem hne)
    have hor := orW (mk32 hp24) (Nat.pow_lt_pow_right (show 1 < 2 by decide) (show (pv x).toNat < 32 by omega))
    have hmk : mk ((es.map pv).take i) ||| 2 ^ (pv x).toNat = mk ((es.map pv).take (i + 1)) := by
      rw [take_snoc (x := pv x) (by rw [List.getElem?_map, hx]; rfl), mk_snoc]
    split
    · rename_i q4
      have q4' := of_decide_eq_true q4
      have hi1 : IntKind.i64.wrap ((i : Int) - 1) = ((i - 1 : Nat) : Int) := by rw [wrap_in _ (by omega) (by omega)]; omega
      have en1 : (((i - 1 : Nat) : Int)).toNat = i - 1 := Int.toNat_natCast _
      obtain ⟨y, hy⟩ : ∃ y, es[i - 1]? = some y := ⟨_, List.getElem?_eq_getElem (by omega)⟩
      have hyne := (hp.row y (List.mem_of_getElem? (i := i - 1) (by rw [List.getElem?_take_of_lt (by omega)]; exact hy))).2.1
      have hyl : (y.r.map eI).length = y.r.length := List.length_map ..
      have hy0 := len0.1 hyne
      have hyg : (y.r.map eI).getD 0 [] = eI (pv y) := by rw [← pv_at hyne]; exact atI y.r rfl hy0
      conv => whnf
      rw [hi1]
      refine ⟨by omega, by rw [hm]; omega, _, atE es en1 hy, ?_⟩
      conv => whnf
      refine ⟨by omega, by rw [hyl]; omega, _, hyg, ?_⟩
      conv => whnf
      refine ⟨by omega, by rw [hxl]; omega, _, hg, ?_⟩
      conv => whnf
      split
      · rename_i q5
        have q5' := of_decide_eq_true q5
        obtain rfl := sok_f hb fun q => by have := pre_of q.eq (by omega) hx hy; omega
        conv => whnf
        refine ⟨trivial, ?_⟩
        conv => whnf
        exact ⟨rfl, rfl⟩
      · rename_i q5
        have q5' := of_decide_eq_false q5
        conv => whnf
        refine ⟨by omega, by rw [hxl]; omega, _, hg, ?_⟩
        conv => whnf
        rw [abin_shl (a := _) (b := _) rfl rfl hv0]
        conv => whnf
        rw [shlW hv0 (by omega), hor, hmk]
        exact ⟨_, _, rfl, rfl, ⟨i + 1, by rw [hwi], by omega, rfl, hfin (fun w _ hw => by rw [hy] at hw; cases hw; omega)⟩, by rw [hwi]; omega⟩
    · rename_i q4
      have q4' := of_decide_eq_false q4
      conv => whnf
      refine ⟨by omega, by rw [hxl]; omega, _, hg, ?_⟩
      conv => whnf
      rw [abin_shl (a := _) (b := _) rfl rfl hv0]
      conv => whnf
      rw [shlW hv0 (by omega), hor, hmk]
      exact ⟨_, _, rfl, rfl, ⟨i + 1, by rw [hwi], by omega, rfl, hfin (fun w h0 _ => by omega)⟩, by rw [hwi]; omega⟩
  · rename_i q1
    have q1' := of_decide_eq_false q1
    have e : i = es.length := by omega
    subst e
    rw [List.take_of_length_le (by rw [List.length_map]; omega)] at hp24 ⊢
    conv => whnf
    refine VLoop.enter [3, 75, 76, 77] ?_
    conv => whnf
    refine VLoop.ind1 (n0 := 0) (α := Int) noM [3, 75, 76, 77] (fun a => ⟨89, 0, [(3, lit (.int .u32 (mk (es.map pv)))), (75, .one (.p (.sl (es.map eE)))), (76, vint (es.map eE).length), (77, vint a)], []⟩)
      (fun a => ∃ k : Nat, a = k ∧ k ≤ es.length ∧ ∀ e ∈ es.take k, ∀ f ∈ es, pv f ∉ e.r.tail) (fun a => ((es.length : Int) - a).toNat) ?_ 0 ⟨0, rfl, by omega, fun e he => by cases he⟩
    rintro _ ⟨k, rfl, hk, hs⟩
    have hwk : IntKind.i64.wrap ((k : Int) + 1) = ((k + 1 : Nat) : Int) := by rw [wrap_in _ (by omega) (by omega)]; omega
    conv => whnf
    rw [hm]
    split
    · rename_i q2
      have q2' := of_decide_eq_true q2
      have en : (k : Int).toNat = k := Int.toNat_natCast k
      obtain ⟨x, hx⟩ : ∃ x, es[k]? = some x := ⟨_, List.getElem?_eq_getElem (by omega)⟩
      have hxm := mem_at hx
      obtain ⟨hxr, hxd⟩ := hB.r x hxm
      have hxl : (x.r.map eI).length = x.r.length := List.length_map ..
      have hrx := hp.row x (by rw [List.take_length]; exact hxm)
      have hne := len0.1 hrx.2.1
      conv => whnf
      refine ⟨by omega, by rw [hm]; omega, _, atE es en hx, ?_⟩
      conv => whnf
      have htl : (x.r.drop 1).map eI = (x.r.map eI).drop 1 := List.map_drop
      refine ⟨⟨by omega, by rw [hxl]; omega, by omega, (fun q => by cases q), fun el hel => by obtain ⟨w, _, rfl⟩ := List.mem_map.1 hel; rfl⟩, ?_⟩
      rw [hxl, show List.take (((x.r.length : Int)).toNat - Int.toNat 1) (List.drop (Int.toNat 1) (x.r.map eI)) = x.r.tail.map eI from by
        rw [← List.drop_one, List.map_drop, List.take_of_length_le (by rw [List.length_drop, List.length_map, Int.toNat_natCast]; exact Nat.le_refl _)]; rfl]
      conv => whnf
      have htr : RowP 24 x.r.tail := by
        have h3 := hrx.1.mono h1'.2
        cases e2 : x.r with
        | nil => exact RowP.nil 24
        | cons y r => rw [e2] at h3; exact h3.tail
      refine .mk _ _ false Tryz.call69 (mask_ok x.r.tail (by rw [List.length_tail]; omega) htr) (Nat.le_of_ble_eq_true rfl) (.inl rfl) ?_
      conv => whnf
      rw [andW (mk32 htr) (mk32 hp24)]
      have hbne : (((mk x.r.tail &&& mk (es.map pv) : Nat) : Int) != 0) = decide (¬ (mk x.r.tail &&& mk (es.map pv)) = 0) := by
        rw [Bool.eq_iff_iff, bne_iff_ne, decide_eq_true_eq]; omega
      rw [hbne]
      split
      · rename_i q3
        have q3' := of_decide_eq_true q3
        obtain rfl := sok_f hb fun q => q3' ((mk_and htr hp24).2 fun v hv hv2 => by
          obtain ⟨f, hf, rfl⟩ := List.mem_map.1 hv2
          exact tail_no q.eq hxm hf hv)
        conv => whnf
        refine ⟨trivial, ?_⟩
        conv => whnf
        exact ⟨rfl, rfl⟩
      · rename_i q3
        have q3' := Decidable.not_not.1 (of_decide_eq_false q3)
        conv => whnf
        refine ⟨_, rfl, rfl, ⟨k + 1, by rw [hwk], by omega, fun e he f hf => ?_⟩, by rw [hwk]; omega⟩
        rw [take_snoc hx] at he
        rcases List.mem_append.1 he with he | he
        · exact hs e he f hf
        · rw [List.mem_singleton.1 he]
          exact fun q => (mk_and htr hp24).1 q3' _ q (List.mem_map_of_mem hf)
    · rename_i q2
      have q2' := of_decide_eq_false q2
      obtain rfl := hb.2 ⟨h1'.1, h1'.2, h2'.1, h2'.2, pre_eq hp fun e he => hs e (by rw [List.take_of_length_le (by omega)]; exact he)⟩
      conv => whnf
      refine ⟨trivial, ?_⟩
      conv => whnf
      exact ⟨rfl, rfl⟩
end Go.Abs.F

set_option linter.unusedSimpArgs false
set_option linter.unusedVariables false
namespace Go.Abs.F
open Go Go.Abs Go.Proofs Go.RowKit
attribute [local irreducible] IntKind.wrap
set_option maxHeartbeats 16000000 in
set_option maxRecDepth 100000 in
theorem specSOk_ok (c z : Int) (es : List Eqn) (hB : SBd c z es) (b : Bool) (hb : b = true ↔ SOk c z es) : Good Tryz.prog 42 [solF c z es] [] (vbool b) [] := by
  have hm : (es.map eE).length = es.length := List.length_map ..
  have hn := hB.n
  refine good_e noM Tryz.func42 rfl rfl ?_
  conv => whnf
  refine .mk _ _ false Tryz.call33 (l1In_ok c 1 24) (Nat.le_of_ble_eq_true rfl) (.inl rfl) ?_
  conv => whnf
  cases h1 : inR c 1 24 with
  | false =>
    obtain rfl := sok_f hb fun q => inR_f h1 ⟨q.c1, q.c2⟩
    conv => whnf
    refine ⟨trivial, ?_⟩
    conv => whnf
    exact ⟨rfl, rfl⟩
  | true =>
  conv => whnf
  refine .mk _ _ false Tryz.call33 (l1In_ok z 1 16) (Nat.le_of_ble_eq_true rfl) (.inl rfl) ?_
  conv => whnf
  cases h2 : inR z 1 16 with
  | false =>
    obtain rfl := sok_f hb fun q => inR_f h2 ⟨q.z1, q.z2⟩
    conv => whnf
    refine ⟨trivial, ?_⟩
    conv => whnf
    exact ⟨rfl, rfl⟩
  | true =>
  have h1' := inR_iff.1 h1
  have h2' := inR_iff.1 h2
  conv => whnf
  refine VLoop.enter [1, 3] ?_
  conv => whnf
  refine VLoop.ind1 (n0 := 1) (α := Int) noM [1, 3] (fun a => ⟨103, 0, [(1, .one (.hp 0 0 0)), (3, vint a)], [(0, some (.box [.p (.lit (.int .i64 c)), .p (.lit (.int .i64 z)), .p (.sl (es.map eE))]))]⟩)
    (fun a => ∃ i : Nat, a = i ∧ i ≤ es.length ∧ Pre c z.toNat es i) (fun a => ((es.length : Int) - a).toNat) ?_ 0 ⟨0, rfl, by omega, Pre.zero _ _ _⟩
  rintro _ ⟨i, rfl, hi, hp⟩
  have hwi : IntKind.i64.wrap ((i : Int) + 1) = ((i + 1 : Nat) : Int) := by rw [wrap_in _ (by omega) (by omega)]; omega
  conv => whnf
  rw [hm]
  split
  · rename_i q1
    have q1' := of_decide_eq_true q1
    have en : (i : Int).toNat = i := Int.toNat_natCast i
    obtain ⟨x, hx⟩ : ∃ x, es[i]? = some x := ⟨_, List.getElem?_eq_getElem (by omega)⟩
    have hxm := mem_at hx
    obtain ⟨hxr, hxd⟩ := hB.r x hxm
    have hxl : (x.r.map eI).length = x.r.length := List.length_map ..
    conv => whnf
    refine ⟨by omega, by rw [hm]; omega, _, atE es en hx, ?_⟩
    conv => whnf
    refine VDraw.goR [0, 1, 0, 4, 15, 31, 63, 127, 255, 511, 1023, 2047, 4095, 8191, 16383, 32767, 8191, 73727, 262143, 524287, 1048575, 2097151, 4194303, 8388607, 16777215, 33554431, 16777215, 83886079, 268435455, 536870911, 1073741823, 2147483647, 4294967295, 16777215, 8606711807, 25786580991, 60146319359, 137438953471, 274877906943, 549755813887] [4] [] [] rfl (by decide +kernel) ?_
    conv => whnf
    obtain ⟨br, hbr⟩ := row_ex c x.r
    refine .mk _ _ false Tryz.call87 (specRow_ok x.r c (by omega) (by omega) (by omega) br hbr) (Nat.le_of_ble_eq_true rfl) (.inl rfl) ?_
    conv => whnf
    cases br with
    | false =>
      obtain rfl := sok_f hb fun q => by have := hbr.2 ⟨(q.eq.row x hxm).1, by omega, by omega⟩; cases this
      conv => whnf
      refine ⟨trivial, ?_⟩
      conv => whnf
      exact ⟨rfl, rfl⟩
    | true =>
    have hrow := (hbr.1 rfl).1
    conv => whnf
    rw [hxl, beq0]
    cases q2 : decide (x.r.length = 0) with
    | true =>
      have q2' := of_decide_eq_true q2
      obtain rfl := sok_f hb fun q => by have := len0.1 (q.eq.row x hxm).2.1; omega
      conv => whnf
      refine ⟨trivial, ?_⟩
      conv => whnf
      exact ⟨rfl, rfl⟩
    | false =>
    have q2' := of_decide_eq_false q2
    have hne : x.r ≠ [] := len0.2 (by omega)
    conv => whnf
    cases q3 : ((x.d.size : Int) != z) with
    | true =>
      have q3' : ¬ (x.d.size : Int) = z := bne_iff_ne.1 q3
      obtain rfl := sok_f hb fun q => by have := (q.eq.row x hxm).2.2; omega
      conv => whnf
      refine ⟨trivial, ?_⟩
      conv => whnf
      exact ⟨rfl, rfl⟩
    | false =>
    have q3' : (x.d.size : Int) = z := by simpa using q3
    conv => whnf
    have hg : (x.r.map eI).getD 0 [] = eI (pv x) := by rw [← pv_at hne]; exact atI x.r rfl (by omega)
    have hfin : (∀ y, 0 < i → es[i - 1]? = some y → pv y < pv x) → Pre c z.toNat es (i + 1) := fun h => hp.snoc hx hrow hne (by omega) h
    split
    · rename_i q4
      have q4' := of_decide_eq_true q4
      have hi1 : IntKind.i64.wrap ((i : Int) - 1) = ((i - 1 : Nat) : Int) := by rw [wrap_in _ (by omega) (by omega)]; omega
      have en1 : (((i - 1 : Nat) : Int)).toNat = i - 1 := Int.toNat_natCast _
      obtain ⟨y, hy⟩ : ∃ y, es[i - 1]? = some y := ⟨_, List.getElem?_eq_getElem (by omega)⟩
      have hyne := (hp.row y (List.mem_of_getElem? (i := i - 1) (by rw [List.getElem?_take_of_lt (by omega)]; exact hy))).2.1
      have hyl : (y.r.map eI).length = y.r.length := List.length_map ..
      have hy0 := len0.1 hyne
      have hyg : (y.r.map eI).getD 0 [] = eI (pv y) := by rw [← pv_at hyne]; exact atI y.r rfl hy0
      conv => whnf
      rw [hi1]
      refine ⟨by omega, by rw [hm]; omega, _, atE es en1 hy, ?_⟩
      conv => whnf
      refine ⟨by omega, by rw [hyl]; omega, _, hyg, ?_⟩
      conv => whnf
      refine ⟨by omega, by rw [hxl]; omega, _, hg, ?_⟩
      conv => whnf
      split
      · rename_i q5
        have q5' := of_decide_eq_true q5
        obtain rfl := sok_f hb fun q => by have := pre_of q.eq (by omega) hx hy; omega
        conv => whnf
        refine ⟨trivial, ?_⟩
        conv => whnf
        exact ⟨rfl, rfl⟩
      · rename_i q5
        have q5' := of_decide_eq_false q5
        conv => whnf
        exact ⟨_, rfl, rfl, ⟨i + 1, by rw [hwi], by omega, hfin (fun w _ hw => by rw [hy] at hw; cases hw; omega)⟩, by rw [hwi]; omega⟩
    · rename_i q4
      have q4' := of_decide_eq_false q4
      conv => whnf
      exact ⟨_, rfl, rfl, ⟨i + 1, by rw [hwi], by omega, hfin (fun w h0 _ => by omega)⟩, by rw [hwi]; omega⟩
  · rename_i q1
    have q1' := of_decide_eq_false q1
    have e : i = es.length := by omega
    subst e
    conv => whnf
    refine VLoop.enter [1, 5] ?_
    conv => whnf
    refine VLoop.ind1 (n0 := 1) (α := Int) noM [1, 5] (fun a => ⟨103, 0, [(1, .one (.hp 0 0 0)), (5, vint a)], [(0, some (.box [.p (.lit (.int .i64 c)), .p (.lit (.int .i64 z)), .p (.sl (es.map eE))]))]⟩)
      (fun a => ∃ i : Nat, a = i ∧ i ≤ es.length ∧ ∀ (j k : Nat) (x y : Eqn), j < i → es[j]? = some x → es[k]? = some y → k ≠ j → pv x ∉ y.r) (fun a => ((es.length : Int) - a).toNat) ?_ 0 ⟨0, rfl, by omega, fun j k x y hj => by omega⟩
    rintro _ ⟨i, rfl, hi, hs⟩
    have hwi : IntKind.i64.wrap ((i : Int) + 1) = ((i + 1 : Nat) : Int) := by rw [wrap_in _ (by omega) (by omega)]; omega
    conv => whnf
    rw [hm]
    split
    · rename_i q2
      have q2' := of_decide_eq_true q2
      have en : (i : Int).toNat = i := Int.toNat_natCast i
      obtain ⟨x, hx⟩ : ∃ x, es[i]? = some x := ⟨_, List.getElem?_eq_getElem (by omega)⟩
      have hxm := mem_at hx
      have hxl : (x.r.map eI).length = x.r.length := List.length_map ..
      have hrx := hp.row x (by rw [List.take_length]; exact hxm)
      have hne := len0.1 hrx.2.1
      have hg : (x.r.map eI).getD 0 [] = eI (pv x) := by rw [← pv_at hrx.2.1]; exact atI x.r rfl (by omega)
      conv => whnf
      refine VLoop.enter [1, 5, 6] ?_
      conv => whnf
      refine VLoop.ind1 (n0 := 1) (α := Int) noM [1, 5, 6] (fun a => ⟨103, 0, [(1, .one (.hp 0 0 0)), (5, vint i), (6, vint a)], [(0, some (.box [.p (.lit (.int .i64 c)), .p (.lit (.int .i64 z)), .p (.sl (es.map eE))]))]⟩)
        (fun a => ∃ k : Nat, a = k ∧ k ≤ es.length ∧ ∀ (m : Nat) (y : Eqn), m < k → es[m]? = some y → m ≠ i → pv x ∉ y.r) (fun a => ((es.length : Int) - a).toNat) ?_ 0 ⟨0, rfl, by omega, fun m y hm => by omega⟩
      rintro _ ⟨k, rfl, hk, hs2⟩
      have hwk : IntKind.i64.wrap ((k : Int) + 1) = ((k + 1 : Nat) : Int) := by rw [wrap_in _ (by omega) (by omega)]; omega
      conv => whnf
      rw [hm]
      split
      · rename_i q3
        have q3' := of_decide_eq_true q3
        have enk : (k : Int).toNat = k := Int.toNat_natCast k
        obtain ⟨y, hy⟩ : ∃ y, es[k]? = some y := ⟨_, List.getElem?_eq_getElem (by omega)⟩
        have hym := mem_at hy
        obtain ⟨hyr, hyd⟩ := hB.r y hym
        conv => whnf
        refine VDraw.goR [0, 0, 3, 7, 15, 31, 15, 127, 255, 511, 15, 1039, 15, 7183, 15375, 31759, 64527, 130063, 262143, 524287] [18] [] [] rfl (by decide +kernel) ?_
        conv => whnf
        cases q4 : ((k : Int) != i) with
        | false =>
          have q4' : (k : Int) = i := by simpa using q4
          conv => whnf
          exact ⟨_, rfl, rfl, ⟨k + 1, by rw [hwk], by omega, fun m w hmk hw hne2 => hs2 m w (by omega) hw hne2⟩, by rw [hwk]; omega⟩
        | true =>
        have q4' : ¬ (k : Int) = i := bne_iff_ne.1 q4
        conv => whnf
        refine ⟨by omega, by rw [hm]; omega, _, atE es enk hy, ?_⟩
        conv => whnf
        refine ⟨by omega, by rw [hm]; omega, _, atE es en hx, ?_⟩
        conv => whnf
        refine ⟨by omega, by rw [hxl]; omega, _, hg, ?_⟩
        conv => whnf
        refine .mk _ _ false Tryz.call81 (has_ok y.r (pv x) (by omega)) (Nat.le_of_ble_eq_true rfl) (.inl rfl) ?_
        conv => whnf
        split
        · rename_i q5
          have q5' := of_decide_eq_true q5
          obtain rfl := sok_f hb fun q => by
            have e := q.eq.apart hxm hym q5'
            subst e
            have h1 := List.pairwise_iff_getElem.1 q.eq.asc
            have a1 := lt_at hx
            have a2 := lt_at hy
            rw [List.getElem?_eq_getElem a1] at hx
            rw [List.getElem?_eq_getElem a2] at hy
            injection hx with hx
            injection hy with hy
            rcases Nat.lt_or_gt_of_ne (show k ≠ i by omega) with w | w
            · have := h1 k i a2 a1 w; rw [hx, hy] at this; omega
            · have := h1 i k a1 a2 w; rw [hx, hy] at this; omega
          conv => whnf
          refine ⟨trivial, ?_⟩
          conv => whnf
          exact ⟨rfl, rfl⟩
        · rename_i q5
          have q5' := of_decide_eq_false q5
          conv => whnf
          refine ⟨_, rfl, rfl, ⟨k + 1, by rw [hwk], by omega, fun m w hmk hw hne2 => ?_⟩, by rw [hwk]; omega⟩
          by_cases e : m = k
          · subst e; rw [hy] at hw; cases hw; exact q5'
          · exact hs2 m w (by omega) hw hne2
      · rename_i q3
        have q3' := of_decide_eq_false q3
        conv => whnf
        refine ⟨_, rfl, rfl, ⟨i + 1, by rw [hwi], by omega, fun j k2 w v hj hw hv hne2 => ?_⟩, by rw [hwi]; omega⟩
        by_cases e : j = i
        · subst e; rw [hx] at hw; cases hw
          exact hs2 k2 v (by have := lt_at hv; omega) hv hne2
        · exact hs j k2 w v (by omega) hw hv hne2
    · rename_i q2
      have q2' := of_decide_eq_false q2
      have hPE : EqOk c z.toNat es := pre_eq hp fun e he f hf q => by
        obtain ⟨k, hk, rfl⟩ := List.mem_iff_getElem.1 he
        obtain ⟨j, hj, rfl⟩ := List.mem_iff_getElem.1 hf
        by_cases e : k = j
        · subst e
          have hr := (hp.row es[k] (by rw [List.take_length]; exact he)).1
          cases e2 : es[k].r with
          | nil => rw [e2] at q; cases q
          | cons y r =>
            rw [e2] at q hr
            have := hr.head _ q
            have h4 : pv es[k] = y := by unfold pv; rw [e2]; rfl
            omega
        · exact hs j k es[j] es[k] (by omega) (List.getElem?_eq_getElem hj) (List.getElem?_eq_getElem hk) e (List.mem_of_mem_tail q)
      obtain rfl := hb.2 ⟨h1'.1, h1'.2, h2'.1, h2'.2, hPE⟩
      conv => whnf
      refine ⟨trivial, ?_⟩
      conv => whnf
      exact ⟨rfl, rfl⟩
end Go.Abs.F

set_option linter.unusedSimpArgs false
set_option linter.unusedVariables false
namespace Go.Abs.F
open Go Go.Abs Go.Proofs Go.RowKit
attribute [local irreducible] IntKind.wrap
/-- The block that is known at a number. -/
def getE (es : List Eqn) (a : Int) : Option ByteArray := (es.find? fun e => decide (e.r = [a])).map Eqn.d
theorem get_snoc {es : List Eqn} {i : Nat} {x : Eqn} {a : Int} (hx : es[i]? = some x) (h : ∀ e ∈ es.take i, e.r ≠ [a]) (hr : x.r = [a]) : getE es a = some x.d := by
  unfold getE
  have e : es = es.take i ++ es.drop i := (List.take_append_drop i es).symm
  rw [e, List.find?_append]
  have h1 : (es.take i).find? (fun e => decide (e.r = [a])) = none := List.find?_eq_none.2 fun e he => by simpa using h e he
  have hi := lt_at hx
  have h2 : es.drop i = x :: es.drop (i + 1) := by
    rw [List.drop_eq_getElem_cons hi]
    rw [List.getElem?_eq_getElem hi] at hx
    injection hx with hx
    rw [hx]
  rw [h1, h2, List.find?_cons_of_pos (by simpa using hr)]; rfl
theorem get_none {es : List Eqn} {a : Int} (h : ∀ e ∈ es, e.r ≠ [a]) : getE es a = none := by
  unfold getE
  rw [List.find?_eq_none.2 fun e he => by simpa using h e he]; rfl
@[reducible] def getR (o : Option ByteArray) : AV := .tup [vstr (o.getD ByteArray.empty), vbool o.isSome]
theorem len1 {r : List Int} {a : Int} (h : r.length = 1) (h2 : r.getD 0 0 = a) : r = [a] := by
  match r, h with
  | [x], _ => subst h2; rfl
theorem beq1 (n : Nat) : ((n : Int) == 1) = decide (n = 1) := by
  rw [Bool.eq_iff_iff, beq_iff_eq, decide_eq_true_eq]; omega
set_option maxHeartbeats 16000000 in
set_option maxRecDepth 100000 in
theorem implGet_ok (c z : Int) (es : List Eqn) (hB : SBd c z es) (a : Int) : Good Tryz.prog 45 [solF c z es, vint a] [] (getR (getE es a)) [] := by
  have hm : (es.map eE).length = es.length := List.length_map ..
  have hn := hB.n
  obtain ⟨g, hg⟩ : ∃ g, g = getE es a := ⟨_, rfl⟩
  rw [← hg]
  refine good_e noM Tryz.func45 rfl rfl ?_
  conv => whnf
  refine VLoop.enter [1, 9, 10, 11] ?_
  conv => whnf
  refine VLoop.ind1 (n0 := 0) (α := Int) noM [1, 9, 10, 11] (fun i => ⟨30, 0, [(1, vint a), (9, .one (.p (.sl (es.map eE)))), (10, vint (es.map eE).length), (11, vint i)], []⟩)
    (fun i => ∃ j : Nat, i = j ∧ j ≤ es.length ∧ ∀ e ∈ es.take j, e.r ≠ [a]) (fun i => ((es.length : Int) - i).toNat) ?_ 0 ⟨0, rfl, by omega, fun e he => by cases he⟩
  rintro _ ⟨i, rfl, hi, hp⟩
  have hwi : IntKind.i64.wrap ((i : Int) + 1) = ((i + 1 : Nat) : Int) := by rw [wrap_in _ (by omega) (by omega)]; omega
  conv => whnf
  rw [hm]
  split
  · rename_i q1
    have q1' := of_decide_eq_true q1
    have en : (i : Int).toNat = i := Int.toNat_natCast i
    obtain ⟨x, hx⟩ : ∃ x, es[i]? = some x := ⟨_, List.getElem?_eq_getElem (by omega)⟩
    have hxm := mem_at hx
    have hxl : (x.r.map eI).length = x.r.length := List.length_map ..
    have next : x.r ≠ [a] → ∀ e ∈ es.take (i + 1), e.r ≠ [a] := fun h e he => by
      rw [take_snoc hx] at he
      rcases List.mem_append.1 he with he | he
      · exact hp e he
      · rw [List.mem_singleton.1 he]; exact h
    conv => whnf
    refine ⟨by omega, by rw [hm]; omega, _, atE es en hx, ?_⟩
    conv => whnf
    rw [hxl, beq1]
    cases q2 : decide (x.r.length = 1) with
    | false =>
      have q2' := of_decide_eq_false q2
      conv => whnf
      exact ⟨_, rfl, rfl, ⟨i + 1, by rw [hwi], by omega, next fun e => q2' (by rw [e]; rfl)⟩, by rw [hwi]; omega⟩
    | true =>
      have q2' := of_decide_eq_true q2
      conv => whnf
      refine ⟨by omega, by rw [hxl]; omega, _, atI x.r rfl (by omega), ?_⟩
      conv => whnf
      split
      · rename_i q3
        have q3' : x.r.getD 0 0 = a := beq_iff_eq.1 q3
        rw [get_snoc hx hp (len1 q2' q3')] at hg
        subst hg
        conv => whnf
        refine ⟨trivial, ?_⟩
        conv => whnf
        exact ⟨rfl, rfl⟩
      · rename_i q3
        have q3' : ¬ x.r.getD 0 0 = a := by simpa using q3
        conv => whnf
        exact ⟨_, rfl, rfl, ⟨i + 1, by rw [hwi], by omega, next fun e => q3' (by rw [e]; rfl)⟩, by rw [hwi]; omega⟩
  · rename_i q1
    have q1' := of_decide_eq_false q1
    rw [List.take_of_length_le (by omega)] at hp
    rw [get_none hp] at hg
    subst hg
    conv => whnf
    refine ⟨trivial, ?_⟩
    conv => whnf
    exact ⟨rfl, rfl⟩
set_option maxHeartbeats 16000000 in
set_option maxRecDepth 100000 in
theorem specGet_ok (c z : Int) (es : List Eqn) (hB : SBd c z es) (a : Int) : Good Tryz.prog 89 [solF c z es, vint a] [] (getR (getE es a)) [] := by
  have hm : (es.map eE).length = es.length := List.length_map ..
  have hn := hB.n
  obtain ⟨g, hg⟩ : ∃ g, g = getE es a := ⟨_, rfl⟩
  rw [← hg]
  refine good_e noM Tryz.func89 rfl rfl ?_
  conv => whnf
  refine VLoop.enter [1, 2, 6] ?_
  conv => whnf
  refine VLoop.ind1 (n0 := 1) (α := Int) noM [1, 2, 6] (fun i => ⟨40, 0, [(1, vint a), (2, .one (.hp 0 0 0)), (6, vint i)], [(0, some (.box [.p (.lit (.int .i64 c)), .p (.lit (.int .i64 z)), .p (.sl (es.map eE))]))]⟩)
    (fun i => ∃ j : Nat, i = j ∧ j ≤ es.length ∧ ∀ e ∈ es.take j, e.r ≠ [a]) (fun i => ((es.length : Int) - i).toNat) ?_ 0 ⟨0, rfl, by omega, fun e he => by cases he⟩
  rintro _ ⟨i, rfl, hi, hp⟩
  have hwi : IntKind.i64.wrap ((i : Int) + 1) = ((i + 1 : Nat) : Int) := by rw [wrap_in _ (by omega) (by omega)]; omega
  conv => whnf
  rw [hm]
  split
  · rename_i q1
    have q1' := of_decide_eq_true q1
    have en : (i : Int).toNat = i := Int.toNat_natCast i
    obtain ⟨x, hx⟩ : ∃ x, es[i]? = some x := ⟨_, List.getElem?_eq_getElem (by omega)⟩
    have hxm := mem_at hx
    have hxl : (x.r.map eI).length = x.r.length := List.length_map ..
    have next : x.r ≠ [a] → ∀ e ∈ es.take (i + 1), e.r ≠ [a] := fun h e he => by
      rw [take_snoc hx] at he
      rcases List.mem_append.1 he with he | he
      · exact hp e he
      · rw [List.mem_singleton.1 he]; exact h
    conv => whnf
    refine ⟨by omega, by rw [hm]; omega, _, atE es en hx, ?_⟩
    conv => whnf
    rw [hxl, beq1]
    cases q2 : decide (x.r.length = 1) with
    | false =>
      have q2' := of_decide_eq_false q2
      conv => whnf
      exact ⟨_, rfl, rfl, ⟨i + 1, by rw [hwi], by omega, next fun e => q2' (by rw [e]; rfl)⟩, by rw [hwi]; omega⟩
    | true =>
      have q2' := of_decide_eq_true q2
      conv => whnf
      refine ⟨by omega, by rw [hm]; omega, _, atE es en hx, ?_⟩
      conv => whnf
      refine ⟨by omega, by rw [hxl]; omega, _, atI x.r rfl (by omega), ?_⟩
      conv => whnf
      split
      · rename_i q3
        have q3' : x.r.getD 0 0 = a := beq_iff_eq.1 q3
        rw [get_snoc hx hp (len1 q2' q3')] at hg
        subst hg
        conv => whnf
        refine ⟨by omega, by rw [hm]; omega, _, atE es en hx, ?_⟩
        conv => whnf
        refine ⟨trivial, ?_⟩
        conv => whnf
        exact ⟨rfl, rfl⟩
      · rename_i q3
        have q3' : ¬ x.r.getD 0 0 = a := by simpa using q3
        conv => whnf
        exact ⟨_, rfl, rfl, ⟨i + 1, by rw [hwi], by omega, next fun e => q3' (by rw [e]; rfl)⟩, by rw [hwi]; omega⟩
  · rename_i q1
    have q1' := of_decide_eq_false q1
    rw [List.take_of_length_le (by omega)] at hp
    rw [get_none hp] at hg
    subst hg
    conv => whnf
    refine ⟨trivial, ?_⟩
    conv => whnf
    exact ⟨rfl, rfl⟩
/-- So many of the first blocks are known. -/
structure PreP (es : List Eqn) (n : Nat) : Prop where
  yes : ∀ i : Nat, i < n → (getE es i).isSome = true
  no : (getE es n).isSome = false
theorem pre_key (es : List Eqn) : ∀ k : Nat, (∀ i : Nat, i < k → (getE es i).isSome = true) ∨ ∃ n, PreP es n ∧ n < k
  | 0 => .inl fun i hi => by omega
  | k + 1 => by
    rcases pre_key es k with ih | ⟨n, hn, hk⟩
    · cases e : (getE es k).isSome with
      | false => exact .inr ⟨k, ⟨ih, e⟩, by omega⟩
      | true =>
        refine .inl fun i hi => ?_
        by_cases q : i = k
        · subst q; exact e
        · exact ih i (by omega)
    · exact .inr ⟨n, hn, by omega⟩
theorem pre_ex {es : List Eqn} {c : Nat} (h : (getE es c).isSome = false) : ∃ n, PreP es n ∧ n ≤ c := by
  rcases pre_key es (c + 1) with q | ⟨n, hn, hk⟩
  · rw [q c (by omega)] at h; cases h
  · exact ⟨n, hn, by omega⟩
set_option maxHeartbeats 16000000 in
set_option maxRecDepth 100000 in
theorem implPre_ok (c z : Int) (es : List Eqn) (hB : SBd c z es) (n : Nat) (hp : PreP es n) (hn : (n : Int) ≤ c) (hc : c ≤ 1000) : Good Tryz.prog 44 [solF c z es] [] (vint n) [] := by
  refine good_e noM Tryz.func44 rfl rfl ?_
  conv => whnf
  refine VLoop.enter [1, 3] ?_
  conv => whnf
  refine VLoop.ind1 (n0 := 1) (α := Int) noM [1, 3] (fun i => ⟨21, 0, [(1, .one (.hp 0 0 0)), (3, vint i)], [(0, some (.box [.p (.lit (.int .i64 c)), .p (.lit (.int .i64 z)), .p (.sl (es.map eE))]))]⟩)
    (fun i => ∃ j : Nat, i = j ∧ j ≤ n) (fun i => ((n : Int) - i).toNat) ?_ 0 ⟨0, rfl, by omega⟩
  rintro _ ⟨i, rfl, hi⟩
  have hwi : IntKind.i64.wrap ((i : Int) + 1) = ((i + 1 : Nat) : Int) := by rw [wrap_in _ (by omega) (by omega)]; omega
  conv => whnf
  split
  · rename_i q1
    have q1' := of_decide_eq_true q1
    conv => whnf
    refine .mk _ _ false Tryz.call45 (implGet_ok c z es hB i) (Nat.le_of_ble_eq_true rfl) (.inl rfl) ?_
    conv => whnf
    split
    · rename_i q2
      have q2' : (getE es i).isSome = false := by simpa using q2
      have e : i = n := by
        by_cases e : i = n
        · exact e
        · rw [hp.yes i (by omega)] at q2'; cases q2'
      subst e
      conv => whnf
      refine ⟨trivial, ?_⟩
      conv => whnf
      exact ⟨rfl, rfl⟩
    · rename_i q2
      have q2' : (getE es i).isSome = true := by simpa using q2
      have e : i ≠ n := fun e => by subst e; rw [hp.no] at q2'; cases q2'
      conv => whnf
      exact ⟨_, rfl, rfl, ⟨i + 1, by rw [hwi], by omega⟩, by rw [hwi]; omega⟩
  · rename_i q1
    have q1' := of_decide_eq_false q1
    have e : i = n := by omega
    subst e
    conv => whnf
    refine ⟨trivial, ?_⟩
    conv => whnf
    exact ⟨rfl, rfl⟩
set_option maxHeartbeats 16000000 in
set_option maxRecDepth 100000 in
theorem specPre_ok (c z : Int) (es : List Eqn) (hB : SBd c z es) (n : Nat) (hp : PreP es n) (hn : n ≤ 1000) : Good Tryz.prog 88 [solF c z es] [] (vint n) [] := by
  refine good_e noM Tryz.func88 rfl rfl ?_
  conv => whnf
  refine VLoop.enter [1, 3] ?_
  conv => whnf
  refine VLoop.ind1 (n0 := 1) (α := Int) noM [1, 3] (fun i => ⟨17, 0, [(1, .one (.hp 0 0 0)), (3, vint i)], [(0, some (.box [.p (.lit (.int .i64 c)), .p (.lit (.int .i64 z)), .p (.sl (es.map eE))]))]⟩)
    (fun i => ∃ j : Nat, i = j ∧ j ≤ n) (fun i => ((n : Int) - i).toNat) ?_ 0 ⟨0, rfl, by omega⟩
  rintro _ ⟨i, rfl, hi⟩
  have hwi : IntKind.i64.wrap ((i : Int) + 1) = ((i + 1 : Nat) : Int) := by rw [wrap_in _ (by omega) (by omega)]; omega
  conv => whnf
  refine .mk _ _ false Tryz.call89 (specGet_ok c z es hB i) (Nat.le_of_ble_eq_true rfl) (.inl rfl) ?_
  conv => whnf
  split
  · rename_i q2
    have q2' : (getE es i).isSome = false := by simpa using q2
    have e : i = n := by
      by_cases e : i = n
      · exact e
      · rw [hp.yes i (by omega)] at q2'; cases q2'
    subst e
    conv => whnf
    refine ⟨trivial, ?_⟩
    conv => whnf
    exact ⟨rfl, rfl⟩
  · rename_i q2
    have q2' : (getE es i).isSome = true := by simpa using q2
    have e : i ≠ n := fun e => by subst e; rw [hp.no] at q2'; cases q2'
    conv => whnf
    exact ⟨_, rfl, rfl, ⟨i + 1, by rw [hwi], by omega⟩, by rw [hwi]; omega⟩
end Go.Abs.F
