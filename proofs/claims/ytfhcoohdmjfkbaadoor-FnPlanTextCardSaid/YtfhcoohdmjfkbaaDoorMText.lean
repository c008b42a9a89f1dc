import Derived.Test.YtfhcoohdmjfkbaaDoorGBASE
import Derived.Test.YtfhcoohdmjfkbaaDoorGWR2
import Derived.Test.YtfhcoohdmjfkbaaDoorGLaw4
set_option linter.unusedSimpArgs false
set_option linter.unusedVariables false
namespace Go.Abs.D
open Go Go.Abs Go.Proofs Go.RowKit
attribute [local irreducible] IntKind.wrap
@[reducible] def encU (n : Int) : List PV := [.lit (.int .u8 n)]
@[reducible] def rdB (bs : List Int) (p : Int) : Blk := .box [.p (.sl (bs.map encU)), .p (.lit (.int .i64 p))]
theorem xor_nn {x y : Int} (h1 : 0 ≤ x) (h2 : x < 1099511627776) (h3 : 0 ≤ y) (h4 : y < 1099511627776) : 0 ≤ IntKind.i64.wrap (((BitVec.ofInt IntKind.i64.bits x ^^^ BitVec.ofInt IntKind.i64.bits y).toNat : Nat) : Int) := by
  obtain ⟨a, rfl⟩ := Int.eq_ofNat_of_zero_le h1
  obtain ⟨b, rfl⟩ := Int.eq_ofNat_of_zero_le h3
  have ha : a < 2 ^ 40 := by omega
  have hb : b < 2 ^ 40 := by omega
  have hx := Nat.xor_lt_two_pow ha hb
  have e : (BitVec.ofInt IntKind.i64.bits (a : Int) ^^^ BitVec.ofInt IntKind.i64.bits (b : Int)).toNat = a ^^^ b := by
    rw [BitVec.toNat_xor, BitVec.toNat_ofInt, BitVec.toNat_ofInt]
    have e1 : ((a : Int) % ((2 ^ IntKind.i64.bits : Nat) : Int)).toNat = a := by
      show ((a : Int) % ((2 ^ 64 : Nat) : Int)).toNat = a
      omega
    have e2 : ((b : Int) % ((2 ^ IntKind.i64.bits : Nat) : Int)).toNat = b := by
      show ((b : Int) % ((2 ^ 64 : Nat) : Int)).toNat = b
      omega
    rw [e1, e2]
  rw [e, wrap_in _ (by omega) (by omega)]
  omega
set_option maxHeartbeats 8000000 in
set_option maxRecDepth 100000 in
theorem pick_ok (bs : List Int) (p n : Int) (hb : ∀ x ∈ bs, 0 ≤ x ∧ x ≤ 255) (hl : bs.length ≤ 2000) (h0 : 0 ≤ p) (h1 : p < 1000000) (hn : 1 ≤ n) (hn2 : n < 1000000) :
    ∃ r out, (∃ v : Int, 0 ≤ v ∧ v < n ∧ r = vint v ∧ out = [rdB bs (p + 1)]) ∧ Good Tryd.prog 41 [.one (.hp 0 0 0), vint n] [rdB bs p] r out := by
  refine good_v noM Tryd.func41 rfl rfl ?_
  have w1 : IntKind.i64.wrap (p + 1) = p + 1 := wrap_in _ (by omega) (by omega)
  have w2 : IntKind.i64.wrap (p + 1 - 1) = p := by rw [wrap_in _ (by omega) (by omega)]; omega
  conv => whnf
  rw [w1]
  split
  · rename_i h; have := of_decide_eq_true h; omega
  rename_i h
  conv => whnf
  split
  · rename_i h2
    conv => whnf
    refine ⟨trivial, ?_⟩
    conv => whnf
    exact ⟨0, by omega, by omega, rfl, rfl⟩
  rename_i h2
  have h2' : ((bs.map encU).length : Int) ≠ 0 := by simpa using h2
  rw [List.length_map] at h2'
  conv => whnf
  rw [w2]
  split
  · rename_i h3
    have h3' := of_decide_eq_true h3
    rw [List.length_map] at h3'
    conv => whnf
    refine ⟨by omega, by rw [List.length_map]; omega, _, getD_map encU bs _ 0 (by omega), ?_⟩
    conv => whnf
    refine ⟨trivial, ?_⟩
    conv => whnf
    have hbv := hb (bs.getD p.toNat 0) (by rw [List.getD_eq_getElem?_getD, List.getElem?_eq_getElem (by omega)]; exact List.getElem_mem _)
    rw [abin_rem (a := IntKind.i64.wrap (bs.getD p.toNat 0)) (b := n) rfl rfl (by omega)]
    conv => whnf
    refine ⟨trivial, ?_⟩
    conv => whnf
    rw [wrap_in _ (by omega) (by omega), Int.tmod_eq_emod_of_nonneg (by omega)]
    exact ⟨_, Int.emod_nonneg _ (by omega), Int.emod_lt_of_pos _ (by omega), rfl, rfl⟩
  rename_i h3
  have h3' := of_decide_eq_false h3
  rw [List.length_map] at h3'
  conv => whnf
  refine VDraw.go ⟨_, [0, 1, 3, 7, 0, 0, 32, 96, 224, 480, 1008, 2047, 4095, 8191, 16383, 0, 32768, 98304, 229376, 0, 524288, 1572864, 0, 4194304, 12582912, 29360128, 62914560, 133693440, 268402688, 536838144, 1073709056, 2147450880, 4294967295, 0, 8589934592, 34359738367, 0, 0, 137438953472, 412316860416, 962072674304, 2061584302080, 4329327034368, 8727373545472, 17592186044415, 35184372088831], [13, 30], []⟩ rfl rfl (by decide +kernel) ?_
  conv => whnf
  have hL : ((bs.map encU).length : Int) = bs.length := by rw [List.length_map]
  have hr1 : ∀ q : Int, 0 ≤ q → 0 ≤ q.tmod ((bs.map encU).length : Int) ∧ q.tmod ((bs.map encU).length : Int) < ((bs.map encU).length : Int) := fun q hq => by
    rw [Int.tmod_eq_emod_of_nonneg hq]; exact ⟨Int.emod_nonneg _ (by omega), Int.emod_lt_of_pos _ (by omega)⟩
  have hbv : ∀ q : Int, 0 ≤ q → q < bs.length → 0 ≤ bs.getD q.toNat 0 ∧ bs.getD q.toNat 0 ≤ 255 := fun q h1 h2 => hb _ (by rw [List.getD_eq_getElem?_getD, List.getElem?_eq_getElem (by omega)]; exact List.getElem_mem _)
  rw [abin_rem (a := p) (b := ((bs.map encU).length : Int)) rfl rfl (by omega)]
  conv => whnf
  have ha := hr1 p h0
  generalize p.tmod ((bs.map encU).length : Int) = q1 at ha ⊢
  have hq1 := hbv q1 (by omega) (by omega)
  refine ⟨by omega, by omega, _, getD_map encU bs _ 0 (by omega), ?_⟩
  conv => whnf
  refine ⟨trivial, ?_⟩
  conv => whnf
  have w7 : IntKind.i64.wrap (IntKind.i64.wrap (p * 7) + 3) = p * 7 + 3 := by rw [wrap_in (p * 7) (by omega) (by omega), wrap_in _ (by omega) (by omega)]
  rw [abin_rem (a := IntKind.i64.wrap (IntKind.i64.wrap (p * 7) + 3)) (b := ((bs.map encU).length : Int)) rfl rfl (by omega)]
  rw [w7]
  conv => whnf
  have ha2 := hr1 (p * 7 + 3) (by omega)
  generalize (p * 7 + 3).tmod ((bs.map encU).length : Int) = q2 at ha2 ⊢
  have hq2 := hbv q2 (by omega) (by omega)
  refine ⟨by omega, by omega, _, getD_map encU bs _ 0 (by omega), ?_⟩
  conv => whnf
  refine ⟨trivial, ?_⟩
  conv => whnf
  rw [abin_quo (a := p) (b := ((bs.map encU).length : Int)) rfl rfl (by omega)]
  conv => whnf
  have hq3 : 0 ≤ p.tdiv ((bs.map encU).length : Int) ∧ p.tdiv ((bs.map encU).length : Int) ≤ p := by
    rw [Int.tdiv_eq_ediv_of_nonneg h0]
    exact ⟨Int.ediv_nonneg h0 (by omega), Int.ediv_le_self _ h0⟩
  generalize p.tdiv ((bs.map encU).length : Int) = q3 at hq3 ⊢
  rw [abin_rem (k := IntKind.i64) (b := n) rfl rfl (by omega)]
  conv => whnf
  refine ⟨trivial, ?_⟩
  conv => whnf
  refine ⟨_, ?_, ?_, rfl, rfl⟩
  · refine Int.tmod_nonneg _ ?_
    have w : ∀ x : Int, 0 ≤ x → x < 1099511627776 → IntKind.i64.wrap x = x := fun x h1 h2 => wrap_in _ (by omega) (by omega)
    simp (disch := omega) only [w]
    have hX0 : 0 ≤ bs.getD q1.toNat 0 * 131 + bs.getD q2.toNat 0 * 1117 + p * 29 + q3 * 53 := by omega
    have hX1 : bs.getD q1.toNat 0 * 131 + bs.getD q2.toNat 0 * 1117 + p * 29 + q3 * 53 < 1099511627776 := by omega
    generalize bs.getD q1.toNat 0 * 131 + bs.getD q2.toNat 0 * 1117 + p * 29 + q3 * 53 = X at hX0 hX1 ⊢
    have hd : IntKind.i64.wrap (X.tdiv 64) = X / 64 := by rw [Int.tdiv_eq_ediv_of_nonneg hX0, wrap_in _ (by omega) (by omega)]
    refine xor_nn hX0 hX1 ?_ ?_
    · rw [hd]; omega
    · rw [hd]; omega
  · exact Int.tmod_lt_of_pos _ (by omega)
structure Bytes (bs : List Int) : Prop where
  rng : ∀ x ∈ bs, 0 ≤ x ∧ x ≤ 255
  len : bs.length ≤ 2000
set_option maxHeartbeats 8000000 in
set_option maxRecDepth 100000 in
theorem l1Open_ok (bs : List Int) (hb : ∀ x ∈ bs, 0 ≤ x ∧ x ≤ 255) (hl : bs.length ≤ 9223372036854775807) :
    ∃ r out, (∃ bs', Bytes bs' ∧ r = .one (.hp 0 0 0) ∧ out = [rdB bs' 0]) ∧ Good Tryd.prog 39 [.one (.p (.sl (bs.map encU)))] [] r out := by
  refine good_v noM Tryd.func39 rfl rfl ?_
  conv => whnf
  split
  · rename_i h
    have h' := of_decide_eq_true h
    rw [List.length_map] at h'
    conv => whnf
    refine ⟨⟨by decide, by decide, by rw [List.length_map]; omega, by decide +kernel, fun x hx => by obtain ⟨y, _, rfl⟩ := List.mem_map.1 hx; rw [show Tryd.prog.cellsOf 5 = 1 by decide +kernel]; rfl⟩, ?_⟩
    conv => whnf
    refine ⟨trivial, ?_⟩
    conv => whnf
    refine ⟨bs.take 2000, ⟨fun x hx => hb x (List.mem_of_mem_take hx), by rw [List.length_take]; omega⟩, rfl, ?_⟩
    show [Blk.box [.p (.sl (List.take 2000 (List.drop 0 (bs.map encU)))), .p (.lit (.int .i64 0))]] = _
    rw [List.drop_zero, ← List.map_take]
  · rename_i h
    have h' := of_decide_eq_false h
    rw [List.length_map] at h'
    conv => whnf
    refine ⟨trivial, ?_⟩
    conv => whnf
    exact ⟨bs, ⟨hb, by omega⟩, rfl, rfl⟩
@[reducible] def encT (s : ByteArray) : List PV := [.lit (.string s)]
set_option maxHeartbeats 16000000 in
set_option maxRecDepth 100000 in
theorem of_ok (bs : List Int) (p : Int) (L : List ByteArray) (hb : Bytes bs) (h0 : 0 ≤ p) (h1 : p < 1000000) (hn : 1 ≤ L.length) (hn2 : L.length < 1000) :
    ∃ r out, (∃ s, s ∈ L ∧ r = vstr s ∧ out = [rdB bs (p + 1)]) ∧ Good Tryd.prog 48 [.one (.hp 0 0 0), .one (.p (.sl (L.map encT)))] [rdB bs p] r out := by
  have hm : (L.map encT).length = L.length := by rw [List.length_map]
  refine good_v noM Tryd.func48 rfl rfl ?_
  conv => whnf
  rw [hm]
  obtain ⟨_, _, ⟨v, hv0, hv1, rfl, rfl⟩, hg⟩ := pick_ok bs p L.length hb.rng hb.len h0 h1 (by omega) (by omega)
  refine .mk _ _ false Tryd.call41 hg (Nat.le_of_ble_eq_true rfl) (.inl rfl) ?_
  conv => whnf
  refine ⟨by omega, by omega, _, getD_map encT L v.toNat ByteArray.empty (by omega), ?_⟩
  conv => whnf
  refine ⟨trivial, ?_⟩
  conv => whnf
  exact ⟨L.getD v.toNat ByteArray.empty, by rw [List.getD_eq_getElem?_getD, List.getElem?_eq_getElem (by omega)]; exact List.getElem_mem _, rfl, rfl⟩
set_option maxHeartbeats 16000000 in
set_option maxRecDepth 100000 in
theorem l1Many_ok (s : ByteArray) (n : Int) (hn : n ≤ 1000) (hs : s.size ≤ 100) : ∃ r out, (∃ s', r = vstr s' ∧ s'.size ≤ 100000 ∧ out = []) ∧ Good Tryd.prog 63 [vstr s, vint n] [] r out := by
  refine good_v noM Tryd.func63 rfl rfl ?_
  conv => whnf
  refine VLoop.enter [0, 1, 5] ?_
  conv => whnf
  refine VLoop.ind3 (n0 := 0) (α := ByteArray) (β := Int) (γ := ByteArray) noM [0, 1, 5] (fun s n o => ⟨20, 0, [(0, vstr s), (1, vint n), (5, vstr o)], []⟩)
    (fun s n o => n ≤ 1000 ∧ o.size + s.size * n.toNat ≤ 100000) (fun _ n _ => n.toNat) ?_ s n _ ⟨hn, ?_⟩
  rotate_left
  · show 0 + s.size * n.toNat ≤ _
    have := Nat.mul_le_mul hs (show n.toNat ≤ 1000 by omega)
    omega
  rintro s n o ⟨hn, hs⟩
  conv => whnf
  split
  · rename_i q
    have q' := of_decide_eq_true q
    obtain ⟨m, rfl⟩ := Int.eq_ofNat_of_zero_le (show 0 ≤ n by omega)
    rw [Int.toNat_natCast] at hs
    have hm0 : 1 ≤ m := by omega
    have hw : IntKind.i64.wrap ((m : Int).tdiv 2) = ((m / 2 : Nat) : Int) := by rw [Int.tdiv_eq_ediv_of_nonneg (by omega), wi _ (by omega) (by omega)]; omega
    have hr : ((m : Int).tmod 2) = ((m % 2 : Nat) : Int) := by rw [Int.tmod_eq_emod_of_nonneg (by omega)]; omega
    have hss : s.size ≤ s.size * m := Nat.le_mul_of_pos_right _ hm0
    have hdm := Nat.div_add_mod m 2
    have key : (s ++ s).size * (m / 2) + s.size * (m % 2) = s.size * m := by
      rw [ByteArray.size_append]
      calc (s.size + s.size) * (m / 2) + s.size * (m % 2) = s.size * (2 * (m / 2) + m % 2) := by rw [Nat.mul_add, ← Nat.mul_assoc, Nat.mul_two]
        _ = s.size * m := by rw [hdm]
    have k2 : (m % 2 = 0 ∨ m % 2 = 1) := by omega
    conv => whnf
    split
    · rename_i q1
      rw [hr] at q1
      simp only [beq_iff_eq] at q1
      have q1' : m % 2 = 1 := by omega
      rw [q1', Nat.mul_one] at key
      conv => whnf
      rw [abin_cat (a := _) (b := _) rfl rfl (by omega)]
      conv => whnf
      rw [abin_cat (a := _) (b := _) rfl rfl (by omega)]
      conv => whnf
      refine ⟨_, _, _, rfl, rfl, ⟨by rw [hw]; omega, ?_⟩, by rw [hw]; omega⟩
      rw [hw, Int.toNat_natCast, ByteArray.size_append]; omega
    · rename_i q1
      rw [hr] at q1
      simp only [beq_eq_false_iff_ne] at q1
      have q1' : m % 2 = 0 := by omega
      rw [q1', Nat.mul_zero] at key
      conv => whnf
      rw [abin_cat (a := _) (b := _) rfl rfl (by omega)]
      conv => whnf
      refine ⟨_, _, _, rfl, rfl, ⟨by rw [hw]; omega, ?_⟩, by rw [hw]; omega⟩
      rw [hw, Int.toNat_natCast]; omega
  · conv => whnf
    refine ⟨trivial, ?_⟩
    conv => whnf
    exact ⟨_, rfl, by omega, rfl⟩
end Go.Abs.D

set_option linter.unusedSimpArgs false
set_option linter.unusedVariables false
namespace Go.Abs.D
open Go Go.Abs Go.Proofs Go.RowKit
attribute [local irreducible] IntKind.wrap
@[reducible] def eI (n : Int) : List PV := [.lit (.int .i64 n)]
theorem atI (l : List Int) {j i : Nat} (e : j = i) (h : i < l.length) : (l.map eI).getD j [] = eI (l.getD i 0) := by rw [e]; exact getD_map eI l i 0 h
@[reducible] def slI (l : List Int) : PV := .sl (l.map eI)
@[reducible] def planF (l s : Int) (ws gs : List Int) : AV := .agg [.p (.lit (.int .i64 l)), .p (.lit (.int .i64 s)), .p (slI ws), .p (slI gs)]
/-- How many blocks. -/
def cnt (l s : Int) : Int := IntKind.i64.wrap ((IntKind.i64.wrap (IntKind.i64.wrap (l + s) - 1)).tdiv s)
theorem wb (x : Int) (h1 : -9223372036854775808 ≤ x) (h2 : x ≤ 9223372036854775807) : IntKind.i64.wrap x = x := wrap_in _ h1 h2
theorem cnt_eq {l s : Int} (h1 : 1 ≤ l) (h2 : l ≤ 300) (h3 : 1 ≤ s) (h4 : s ≤ 16) : cnt l s = (l + s - 1) / s := by
  unfold cnt
  rw [wb (l + s) (by omega) (by omega), wb (l + s - 1) (by omega) (by omega), Int.tdiv_eq_ediv_of_nonneg (by omega)]
  have h5 : 0 ≤ (l + s - 1) / s := Int.ediv_nonneg (by omega) (by omega)
  have h6 : (l + s - 1) / s ≤ l + s - 1 := Int.ediv_le_self _ (by omega)
  exact wb _ (by omega) (by omega)
set_option maxHeartbeats 16000000 in
set_option maxRecDepth 100000 in
theorem specCount_ok (l s : Int) (ws gs : List Int) (hs : s ≠ 0) : Good Tryd.prog 57 [planF l s ws gs] [] (vint (cnt l s)) [] := by
  refine good_e noM Tryd.func57 rfl rfl ?_
  conv => whnf
  rw [abin_quo (a := IntKind.i64.wrap (IntKind.i64.wrap (l + s) - 1)) (b := s) rfl rfl hs]
  conv => whnf
  refine ⟨trivial, ?_⟩
  conv => whnf
  exact ⟨rfl, rfl⟩
set_option maxHeartbeats 16000000 in
set_option maxRecDepth 100000 in
theorem implCount_ok (l s : Int) (ws gs : List Int) (hs : s ≠ 0) : Good Tryd.prog 58 [planF l s ws gs] [] (vint (cnt l s)) [] := by
  refine good_e noM Tryd.func58 rfl rfl ?_
  conv => whnf
  rw [abin_quo (a := IntKind.i64.wrap (IntKind.i64.wrap (l + s) - 1)) (b := s) rfl rfl hs]
  conv => whnf
  refine ⟨trivial, ?_⟩
  conv => whnf
  exact ⟨rfl, rfl⟩
structure POk (l s : Int) (ws gs : List Int) : Prop where
  l1 : 1 ≤ l
  l2 : l ≤ 300
  s1 : 1 ≤ s
  s2 : s ≤ 16
  c1 : 1 ≤ cnt l s
  c2 : cnt l s ≤ 24
  w1 : 1 ≤ ws.length
  w2 : ws.length ≤ 3
  g : gs.length = ws.length
  rng : ∀ i, i < ws.length → 1 ≤ ws.getD i 0 ∧ ws.getD i 0 ≤ cnt l s
  asc : ∀ i, i + 1 < ws.length → ws.getD i 0 < ws.getD (i + 1) 0
  wt : ∀ i, i < ws.length → 1 ≤ gs.getD i 0 ∧ gs.getD i 0 ≤ 99
  last : ws.getD (ws.length - 1) 0 = cnt l s
theorem pok_ex (l s : Int) (ws gs : List Int) : ∃ b : Bool, b = true ↔ POk l s ws gs := by
  by_cases h : POk l s ws gs
  · exact ⟨true, fun _ => h, fun _ => rfl⟩
  · exact ⟨false, fun q => by (cases q), fun q => (h q).elim⟩
theorem pok_f {l s : Int} {ws gs : List Int} {b : Bool} (hb : b = true ↔ POk l s ws gs) (h : ¬ POk l s ws gs) : b = false := by
  cases b with
  | false => rfl
  | true => exact (h (hb.1 rfl)).elim
theorem inR_f {n lo hi : Int} (h : inR n lo hi = false) : ¬ (lo ≤ n ∧ n ≤ hi) := fun q => by rw [inR_iff.2 q] at h; cases h
set_option maxHeartbeats 16000000 in
set_option maxRecDepth 100000 in
theorem specPOk_ok (l s : Int) (ws gs : List Int) (hw : ws.length ≤ 1000000) (b : Bool) (hb : b = true ↔ POk l s ws gs) : Good Tryd.prog 26 [planF l s ws gs] [] (vbool b) [] := by
  have hwm : (ws.map eI).length = ws.length := List.length_map ..
  have hgm : (gs.map eI).length = gs.length := List.length_map ..
  refine good_e noM Tryd.func26 rfl rfl ?_
  conv => whnf
  refine .mk _ _ false Tryd.call43 (l1In_ok l 1 300) (Nat.le_of_ble_eq_true rfl) (.inl rfl) ?_
  conv => whnf
  cases h1 : inR l 1 300 with
  | false =>
    obtain rfl := pok_f hb fun q => inR_f h1 ⟨q.l1, q.l2⟩
    conv => whnf
    refine ⟨trivial, ?_⟩
    conv => whnf
    exact ⟨rfl, rfl⟩
  | true =>
  conv => whnf
  refine .mk _ _ false Tryd.call43 (l1In_ok s 1 16) (Nat.le_of_ble_eq_true rfl) (.inl rfl) ?_
  conv => whnf
  cases h2 : inR s 1 16 with
  | false =>
    obtain rfl := pok_f hb fun q => inR_f h2 ⟨q.s1, q.s2⟩
    conv => whnf
    refine ⟨trivial, ?_⟩
    conv => whnf
    exact ⟨rfl, rfl⟩
  | true =>
  have h1' := inR_iff.1 h1
  have h2' := inR_iff.1 h2
  conv => whnf
  refine .mk _ _ false Tryd.call57 (specCount_ok l s ws gs (by omega)) (Nat.le_of_ble_eq_true rfl) (.inl rfl) ?_
  conv => whnf
  refine .mk _ _ false Tryd.call43 (l1In_ok (cnt l s) 1 24) (Nat.le_of_ble_eq_true rfl) (.inl rfl) ?_
  conv => whnf
  cases h3 : inR (cnt l s) 1 24 with
  | false =>
    obtain rfl := pok_f hb fun q => inR_f h3 ⟨q.c1, q.c2⟩
    conv => whnf
    refine ⟨trivial, ?_⟩
    conv => whnf
    exact ⟨rfl, rfl⟩
  | true =>
  have h3' := inR_iff.1 h3
  conv => whnf
  refine .mk _ _ false Tryd.call43 (l1In_ok _ 1 3) (Nat.le_of_ble_eq_true rfl) (.inl rfl) ?_
  conv => whnf
  rw [hwm]
  cases h4 : inR (ws.length : Int) 1 3 with
  | false =>
    obtain rfl := pok_f hb fun q => inR_f h4 ⟨by have := q.w1; omega, by have := q.w2; omega⟩
    conv => whnf
    refine ⟨trivial, ?_⟩
    conv => whnf
    exact ⟨rfl, rfl⟩
  | true =>
  have h4' := inR_iff.1 h4
  conv => whnf
  rw [hgm, hwm]
  split
  · rename_i q
    have q' : ¬ (gs.length : Int) = ws.length := bne_iff_ne.1 q
    obtain rfl := pok_f hb fun p => by have := p.g; omega
    conv => whnf
    refine ⟨trivial, ?_⟩
    conv => whnf
    exact ⟨rfl, rfl⟩
  rename_i q
  have q' : (gs.length : Int) = ws.length := by simpa using q
  have hgl : gs.length = ws.length := by omega
  conv => whnf
  refine VLoop.enter [1, 3] ?_
  conv => whnf
  refine VLoop.ind1 (n0 := 1) (α := Int) noM [1, 3] (fun a => ⟨90, 0, [(1, .one (.hp 0 0 0)), (3, vint a)], [(0, some (.box [.p (.lit (.int .i64 l)), .p (.lit (.int .i64 s)), .p (slI ws), .p (slI gs)]))]⟩)
    (fun a => ∃ i : Nat, a = i ∧ i ≤ ws.length ∧ ∀ k, k < i → (1 ≤ ws.getD k 0 ∧ ws.getD k 0 ≤ cnt l s) ∧ (0 < k → ws.getD (k - 1) 0 < ws.getD k 0) ∧ (1 ≤ gs.getD k 0 ∧ gs.getD k 0 ≤ 99)) (fun a => (ws.length - a).toNat) ?_ 0 ⟨0, rfl, by omega, fun k hk => by omega⟩
  rintro _ ⟨i, rfl, hi, hk⟩
  have en : ((i : Nat) : Int).toNat = i := Int.toNat_natCast i
  conv => whnf
  rw [hwm]
  split
  · rename_i qq
    have qq' : (i : Int) < ws.length := of_decide_eq_true qq
    have hwi : IntKind.i64.wrap ((i : Int) + 1) = ((i + 1 : Nat) : Int) := by rw [wrap_in _ (by omega) (by omega)]; omega
    conv => whnf
    refine VDraw.goR [0, 1, 0, 7, 15, 0, 32, 127, 255, 511, 1023, 2047, 4095, 8191, 16383, 8191, 40959, 131071, 262143, 8191, 532479, 8191, 3678207, 7872511, 16777215, 33554431, 67108863, 134217727, 268435455, 536870911, 268435455, 2147483647, 4294967295, 8589934591, 17179869183, 34359738367] [6, 7, 33] [] [] rfl (by decide +kernel) ?_
    conv => whnf
    refine ⟨by omega, by rw [hwm]; omega, _, atI ws en (by omega), ?_⟩
    conv => whnf
    refine .mk _ _ false Tryd.call57 (specCount_ok l s ws gs (by omega)) (Nat.le_of_ble_eq_true rfl) (.inl rfl) ?_
    conv => whnf
    refine .mk _ _ false Tryd.call43 (l1In_ok (ws.getD i 0) 1 (cnt l s)) (Nat.le_of_ble_eq_true rfl) (.inl rfl) ?_
    conv => whnf
    cases h5 : inR (ws.getD i 0) 1 (cnt l s) with
    | false =>
      obtain rfl := pok_f hb fun p => inR_f h5 (p.rng i (by omega))
      conv => whnf
      refine ⟨trivial, ?_⟩
      conv => whnf
      exact ⟨rfl, rfl⟩
    | true =>
    have h5' := inR_iff.1 h5
    conv => whnf
    split
    · rename_i q1
      have q1' : (i : Int) > 0 := of_decide_eq_true q1
      have hw1 : IntKind.i64.wrap ((i : Int) - 1) = ((i - 1 : Nat) : Int) := by rw [wrap_in _ (by omega) (by omega)]; omega
      have en1 : ((i - 1 : Nat) : Int).toNat = i - 1 := Int.toNat_natCast _
      conv => whnf
      rw [hw1]
      refine ⟨by omega, by rw [hwm]; omega, _, atI ws en1 (by omega), ?_⟩
      conv => whnf
      refine ⟨by omega, by rw [hwm]; omega, _, atI ws en (by omega), ?_⟩
      conv => whnf
      split
      · rename_i q2
        have q2' := of_decide_eq_true q2
        obtain rfl := pok_f hb fun p => by
          have := p.asc (i - 1) (by omega)
          rw [show i - 1 + 1 = i by omega] at this
          omega
        conv => whnf
        refine ⟨trivial, ?_⟩
        conv => whnf
        exact ⟨rfl, rfl⟩
      rename_i q2
      have q2' := of_decide_eq_false q2
      conv => whnf
      refine ⟨by omega, by rw [hgm]; omega, _, atI gs en (by omega), ?_⟩
      conv => whnf
      refine .mk _ _ false Tryd.call43 (l1In_ok (gs.getD i 0) 1 99) (Nat.le_of_ble_eq_true rfl) (.inl rfl) ?_
      conv => whnf
      cases h6 : inR (gs.getD i 0) 1 99 with
      | false =>
        obtain rfl := pok_f hb fun p => inR_f h6 (p.wt i (by omega))
        conv => whnf
        refine ⟨trivial, ?_⟩
        conv => whnf
        exact ⟨rfl, rfl⟩
      | true =>
      have h6' := inR_iff.1 h6
      conv => whnf
      refine ⟨_, rfl, rfl, ⟨i + 1, hwi, by omega, fun k hkk => ?_⟩, by rw [hwi]; omega⟩
      by_cases e : k = i
      · subst e; exact ⟨h5', fun _ => by omega, h6'⟩
      · exact hk k (by omega)
    · rename_i q1
      have q1' : ¬ (i : Int) > 0 := of_decide_eq_false q1
      conv => whnf
      refine ⟨by omega, by rw [hgm]; omega, _, atI gs en (by omega), ?_⟩
      conv => whnf
      refine .mk _ _ false Tryd.call43 (l1In_ok (gs.getD i 0) 1 99) (Nat.le_of_ble_eq_true rfl) (.inl rfl) ?_
      conv => whnf
      cases h6 : inR (gs.getD i 0) 1 99 with
      | false =>
        obtain rfl := pok_f hb fun p => inR_f h6 (p.wt i (by omega))
        conv => whnf
        refine ⟨trivial, ?_⟩
        conv => whnf
        exact ⟨rfl, rfl⟩
      | true =>
      have h6' := inR_iff.1 h6
      conv => whnf
      refine ⟨_, rfl, rfl, ⟨i + 1, hwi, by omega, fun k hkk => ?_⟩, by rw [hwi]; omega⟩
      by_cases e : k = i
      · subst e; exact ⟨h5', fun _ => by omega, h6'⟩
      · exact hk k (by omega)
  · rename_i qq
    have qq' : ¬ (i : Int) < ws.length := of_decide_eq_false qq
    obtain rfl : i = ws.length := by omega
    have hw1 : IntKind.i64.wrap ((ws.length : Int) - 1) = ((ws.length - 1 : Nat) : Int) := by rw [wrap_in _ (by omega) (by omega)]; omega
    have en1 : ((ws.length - 1 : Nat) : Int).toNat = ws.length - 1 := Int.toNat_natCast _
    conv => whnf
    refine VDraw.goR [0, 1, 0, 4, 12, 28, 63, 127, 0, 256, 1023, 2047] [9] [] [] rfl (by decide +kernel) ?_
    conv => whnf
    rw [hwm, hw1]
    refine ⟨by omega, by omega, _, atI ws en1 (by omega), ?_⟩
    conv => whnf
    refine .mk _ _ false Tryd.call57 (specCount_ok l s ws gs (by omega)) (Nat.le_of_ble_eq_true rfl) (.inl rfl) ?_
    conv => whnf
    have hbb : (ws.getD (ws.length - 1) 0 == cnt l s) = b := by
      cases hq : (ws.getD (ws.length - 1) 0 == cnt l s) with
      | true =>
        have := beq_iff_eq.1 hq
        exact (hb.2 ⟨h1'.1, h1'.2, h2'.1, h2'.2, h3'.1, h3'.2, by omega, by omega, hgl, fun k hkk => (hk k hkk).1, fun k hkk => (hk (k + 1) hkk).2.1 (by omega), fun k hkk => (hk k hkk).2.2, this⟩).symm
      | false =>
        have := beq_eq_false_iff_ne.1 hq
        exact (pok_f hb fun p => this p.last).symm
    rw [hbb]
    refine ⟨trivial, ?_⟩
    conv => whnf
    exact ⟨rfl, rfl⟩
end Go.Abs.D

set_option linter.unusedSimpArgs false
set_option linter.unusedVariables false
namespace Go.Abs.D
open Go Go.Abs Go.Proofs Go.RowKit
attribute [local irreducible] IntKind.wrap
@[reducible] def cm : ByteArray := ⟨#[44]⟩
@[reducible] def sl : ByteArray := ⟨#[47]⟩
theorem cm1 : (ByteArray.mk #[44]).size = 1 := rfl
theorem sl1 : (ByteArray.mk #[47]).size = 1 := rfl
/-- The first numbers of a list, commas between. -/
def lt (l : List Int) : Nat → ByteArray
  | 0 => ⟨#[]⟩
  | i + 1 => (match decide ((i : Int) > 0) with | true => lt l i ++ cm | false => lt l i) ++ dec (l.getD i 0)
def small (l : List Int) : Prop := ∀ i, i < l.length → 0 ≤ l.getD i 0 ∧ l.getD i 0 < 100000
theorem decZ_size {n : Int} (h0 : 0 ≤ n) (h : n < 100000) : (dec n).size ≤ 5 := decI_size h0 h
theorem lt_size {l : List Int} (hs : small l) : ∀ i, i ≤ l.length → (lt l i).size ≤ 6 * i := by
  intro i
  induction i with
  | zero => intro _; exact Nat.le_refl _
  | succ i ih =>
    intro h
    have h1 := ih (by omega)
    have h2 := decZ_size (hs i (by omega)).1 (hs i (by omega)).2
    unfold lt
    split
    · simp only [ByteArray.size_append, cm1]; omega
    · rw [ByteArray.size_append]; omega
set_option maxHeartbeats 16000000 in
set_option maxRecDepth 100000 in
theorem l5List_ok (l : List Int) (hl : l.length ≤ 1000) (hs : small l) : Good Tryd.prog 56 [.one (.p (slI l))] [] (vstr (lt l l.length)) [] := by
  have hm : (l.map eI).length = l.length := List.length_map ..
  refine good_e noM Tryd.func56 rfl rfl ?_
  conv => whnf
  refine VLoop.enter [0, 3, 4] ?_
  conv => whnf
  refine VLoop.ind2 (n0 := 0) (α := Int) (β := ByteArray) noM [0, 3, 4] (fun a t => ⟨23, 0, [(0, .one (.p (slI l))), (3, vstr t), (4, vint a)], []⟩)
    (fun a t => ∃ i : Nat, a = i ∧ i ≤ l.length ∧ t = lt l i) (fun a _ => (l.length - a).toNat) ?_ 0 _ ⟨0, rfl, by omega, rfl⟩
  rintro _ _ ⟨i, rfl, hi, rfl⟩
  have en : ((i : Nat) : Int).toNat = i := Int.toNat_natCast i
  have hsz := lt_size hs i hi
  conv => whnf
  rw [hm]
  split
  · rename_i q
    have q' : (i : Int) < l.length := of_decide_eq_true q
    have hwi : IntKind.i64.wrap ((i : Int) + 1) = ((i + 1 : Nat) : Int) := by rw [wrap_in _ (by omega) (by omega)]; omega
    have hd := hs i (by omega)
    have h2 := decZ_size hd.1 hd.2
    have hnx : lt l (i + 1) = (match decide ((i : Int) > 0) with | true => lt l i ++ cm | false => lt l i) ++ dec (l.getD i 0) := rfl
    conv => whnf
    split
    · rename_i q1
      rw [q1] at hnx
      conv => whnf
      rw [abin_cat (a := _) (b := _) rfl rfl (by show (lt l i).size + 1 ≤ _; omega)]
      conv => whnf
      refine ⟨by omega, by rw [hm]; omega, _, atI l en (by omega), ?_⟩
      conv => whnf
      refine .mk _ _ false Tryd.call55 (l1DecI_ok (l.getD i 0) hd.1 (by omega)) (Nat.le_of_ble_eq_true rfl) (.inl rfl) ?_
      conv => whnf
      rw [abin_cat (a := _) (b := _) rfl rfl (by simp only [ByteArray.size_append, cm1]; omega)]
      conv => whnf
      refine ⟨_, _, rfl, rfl, ⟨i + 1, hwi, by omega, hnx.symm⟩, by rw [hwi]; omega⟩
    · rename_i q1
      rw [q1] at hnx
      conv => whnf
      refine ⟨by omega, by rw [hm]; omega, _, atI l en (by omega), ?_⟩
      conv => whnf
      refine .mk _ _ false Tryd.call55 (l1DecI_ok (l.getD i 0) hd.1 (by omega)) (Nat.le_of_ble_eq_true rfl) (.inl rfl) ?_
      conv => whnf
      rw [abin_cat (a := _) (b := _) rfl rfl (by omega)]
      conv => whnf
      refine ⟨_, _, rfl, rfl, ⟨i + 1, hwi, by omega, hnx.symm⟩, by rw [hwi]; omega⟩
  · rename_i q
    have q' : ¬ (i : Int) < l.length := of_decide_eq_false q
    obtain rfl : i = l.length := by omega
    conv => whnf
    refine ⟨trivial, ?_⟩
    conv => whnf
    exact ⟨rfl, rfl⟩
def ptext (l s : Int) (ws gs : List Int) : ByteArray := dec l ++ sl ++ dec s ++ co ++ lt ws ws.length ++ co ++ lt gs gs.length
theorem POk.smallW {l s : Int} {ws gs : List Int} (h : POk l s ws gs) : small ws := fun i hi => by have := h.rng i hi; have := h.c2; omega
theorem POk.smallG {l s : Int} {ws gs : List Int} (h : POk l s ws gs) : small gs := fun i hi => by have := h.wt i (by rw [← h.g]; exact hi); omega
theorem ptext_size {l s : Int} {ws gs : List Int} (h : POk l s ws gs) : (ptext l s ws gs).size ≤ 49 := by
  have h1 := decZ_size (n := l) (by have := h.l1; omega) (by have := h.l2; omega)
  have h2 := decZ_size (n := s) (by have := h.s1; omega) (by have := h.s2; omega)
  have h3 := lt_size h.smallW ws.length (Nat.le_refl _); have h4 := lt_size h.smallG gs.length (Nat.le_refl _)
  have h5 := h.w2; have h6 := h.g
  unfold ptext sl co
  simp only [ByteArray.size_append, sl1, co1]; omega
def pw (b : Bool) (l s : Int) (ws gs : List Int) : ByteArray := match b with
  | true => ptext l s ws gs
  | false => ⟨#[]⟩
set_option maxHeartbeats 16000000 in
set_option maxRecDepth 100000 in
theorem specPW_ok (l s : Int) (ws gs : List Int) (hw : ws.length ≤ 1000000) (b : Bool) (hb : b = true ↔ POk l s ws gs) : Good Tryd.prog 25 [planF l s ws gs] [] (vstr (pw b l s ws gs)) [] := by
  refine good_e noM Tryd.func25 rfl rfl ?_
  conv => whnf
  refine .mk _ _ false Tryd.call26 (specPOk_ok l s ws gs hw b hb) (Nat.le_of_ble_eq_true rfl) (.inl rfl) ?_
  conv => whnf
  unfold pw
  cases hk : b with
  | false =>
    conv => whnf
    refine ⟨trivial, ?_⟩
    conv => whnf
    exact ⟨rfl, rfl⟩
  | true =>
    have h := hb.1 hk
    have h1 := decZ_size (n := l) (by have := h.l1; omega) (by have := h.l2; omega)
    have h2 := decZ_size (n := s) (by have := h.s1; omega) (by have := h.s2; omega)
    have h3 := lt_size h.smallW ws.length (Nat.le_refl _); have h4 := lt_size h.smallG gs.length (Nat.le_refl _)
    have h5 := h.w2; have h6 := h.g
    conv => whnf
    refine VDraw.goR [0, 1, 3, 7, 0, 16, 55, 127, 255, 0, 512, 1655, 4095, 8191, 0, 16384, 52855, 131071, 262143] [2, 6, 11, 16] [] [] rfl (by decide +kernel) ?_
    conv => whnf
    refine .mk _ _ false Tryd.call55 (l1DecI_ok l (by have := h.l1; omega) (by have := h.l2; omega)) (Nat.le_of_ble_eq_true rfl) (.inl rfl) ?_
    conv => whnf
    rw [abin_cat (a := _) (b := _) rfl rfl (by show (dec l).size + 1 ≤ _; omega)]
    conv => whnf
    refine .mk _ _ false Tryd.call55 (l1DecI_ok s (by have := h.s1; omega) (by have := h.s2; omega)) (Nat.le_of_ble_eq_true rfl) (.inl rfl) ?_
    conv => whnf
    rw [abin_cat (a := _) (b := _) rfl rfl (by simp only [ByteArray.size_append, sl1]; omega)]
    conv => whnf
    rw [abin_cat (a := _) (b := _) rfl rfl (by simp only [ByteArray.size_append, sl1, co1]; omega)]
    conv => whnf
    refine .mk _ _ false Tryd.call56 (l5List_ok ws (by omega) h.smallW) (Nat.le_of_ble_eq_true rfl) (.inl rfl) ?_
    conv => whnf
    rw [abin_cat (a := _) (b := _) rfl rfl (by simp only [ByteArray.size_append, sl1, co1]; omega)]
    conv => whnf
    rw [abin_cat (a := _) (b := _) rfl rfl (by simp only [ByteArray.size_append, sl1, co1]; omega)]
    conv => whnf
    refine .mk _ _ false Tryd.call56 (l5List_ok gs (by omega) h.smallG) (Nat.le_of_ble_eq_true rfl) (.inl rfl) ?_
    conv => whnf
    rw [abin_cat (a := _) (b := _) rfl rfl (by simp only [ByteArray.size_append, sl1, co1]; omega)]
    conv => whnf
    refine ⟨trivial, ?_⟩
    conv => whnf
    exact ⟨rfl, rfl⟩
end Go.Abs.D

set_option linter.unusedSimpArgs false
set_option linter.unusedVariables false
namespace Go.Abs.D
open Go Go.Abs Go.Proofs Go.RowKit
attribute [local irreducible] IntKind.wrap
@[reducible] def nilP : AC := .p (.lit (.slice none 0 0))
set_option maxHeartbeats 16000000 in
set_option maxRecDepth 100000 in
theorem specCountN_ok (l s : Int) (hs : s ≠ 0) : Good Tryd.prog 57 [.agg [.p (.lit (.int .i64 l)), .p (.lit (.int .i64 s)), nilP, nilP]] [] (vint (cnt l s)) [] := by
  refine good_e noM Tryd.func57 rfl rfl ?_
  conv => whnf
  rw [abin_quo (a := IntKind.i64.wrap (IntKind.i64.wrap (l + s) - 1)) (b := s) rfl rfl hs]
  conv => whnf
  refine ⟨trivial, ?_⟩
  conv => whnf
  exact ⟨rfl, rfl⟩
theorem cnt_rng {l s : Int} (h1 : 1 ≤ l) (h2 : l ≤ 300) (h3 : 8 ≤ s) (h4 : s ≤ 16) : 1 ≤ cnt l s ∧ cnt l s ≤ 38 ∧ (13 ≤ s → cnt l s ≤ 24) := by
  rw [cnt_eq h1 h2 (by omega) h4]
  have : s = 8 ∨ s = 9 ∨ s = 10 ∨ s = 11 ∨ s = 12 ∨ s = 13 ∨ s = 14 ∨ s = 15 ∨ s = 16 := by omega
  rcases this with rfl | rfl | rfl | rfl | rfl | rfl | rfl | rfl | rfl <;> omega
/-- A plan with its rows. -/
def PlanR (r : AV) (out : List Blk) : Prop := ∃ (l s : Int) (ws gs : List Int) (n m : Nat), POk l s ws gs ∧ n = ws.length ∧ m = gs.length ∧ r = .agg [.p (.lit (.int .i64 l)), .p (.lit (.int .i64 s)), .hs 0 0 n, .hs 1 0 m] ∧ out = [.arr 1 (ws.map eI), .arr 1 (gs.map eI)]
theorem pok1 {l s a g : Int} (l1 : 1 ≤ l) (l2 : l ≤ 300) (s1 : 1 ≤ s) (s2 : s ≤ 16) (c1 : 1 ≤ cnt l s) (c2 : cnt l s ≤ 24) (ha : a = cnt l s) (hg : 1 ≤ g ∧ g ≤ 99) : POk l s [a] [g] := by
  refine ⟨l1, l2, s1, s2, c1, c2, Nat.le_refl 1, Nat.le_of_ble_eq_true rfl, rfl, fun i hi => ?_, fun i hi => ?_, fun i hi => ?_, ha⟩
  · obtain rfl : i = 0 := by simp at hi; exact hi
    show 1 ≤ a ∧ a ≤ _; omega
  · simp at hi
  · obtain rfl : i = 0 := by simp at hi; exact hi
    exact hg
theorem pok2 {l s a b g h : Int} (l1 : 1 ≤ l) (l2 : l ≤ 300) (s1 : 1 ≤ s) (s2 : s ≤ 16) (c1 : 1 ≤ cnt l s) (c2 : cnt l s ≤ 24) (ha : 1 ≤ a) (hab : a < b) (hb : b = cnt l s) (hg : 1 ≤ g ∧ g ≤ 99) (hh : 1 ≤ h ∧ h ≤ 99) : POk l s [a, b] [g, h] := by
  refine ⟨l1, l2, s1, s2, c1, c2, Nat.le_of_ble_eq_true rfl, Nat.le_of_ble_eq_true rfl, rfl, fun i hi => ?_, fun i hi => ?_, fun i hi => ?_, hb⟩
  · have : i = 0 ∨ i = 1 := by simp at hi; omega
    rcases this with rfl | rfl
    · show 1 ≤ a ∧ a ≤ _; omega
    · show 1 ≤ b ∧ b ≤ _; omega
  · obtain rfl : i = 0 := by simp at hi; omega
    exact hab
  · have : i = 0 ∨ i = 1 := by simp at hi; omega
    rcases this with rfl | rfl
    · exact hg
    · exact hh
theorem pok3 {l s a b c g h k : Int} (l1 : 1 ≤ l) (l2 : l ≤ 300) (s1 : 1 ≤ s) (s2 : s ≤ 16) (c1 : 1 ≤ cnt l s) (c2 : cnt l s ≤ 24) (ha : 1 ≤ a) (hab : a < b) (hbc : b < c) (hb : c = cnt l s) (hg : 1 ≤ g ∧ g ≤ 99) (hh : 1 ≤ h ∧ h ≤ 99) (hk : 1 ≤ k ∧ k ≤ 99) : POk l s [a, b, c] [g, h, k] := by
  refine ⟨l1, l2, s1, s2, c1, c2, Nat.le_of_ble_eq_true rfl, Nat.le_of_ble_eq_true rfl, rfl, fun i hi => ?_, fun i hi => ?_, fun i hi => ?_, hb⟩
  · have : i = 0 ∨ i = 1 ∨ i = 2 := by simp at hi; omega
    rcases this with rfl | rfl | rfl
    · show 1 ≤ a ∧ a ≤ _; omega
    · show 1 ≤ b ∧ b ≤ _; omega
    · show 1 ≤ c ∧ c ≤ _; omega
  · have : i = 0 ∨ i = 1 := by simp at hi; omega
    rcases this with rfl | rfl
    · exact hab
    · exact hbc
  · have : i = 0 ∨ i = 1 ∨ i = 2 := by simp at hi; omega
    rcases this with rfl | rfl | rfl
    · exact hg
    · exact hh
    · exact hk
set_option maxHeartbeats 16000000 in
set_option maxRecDepth 100000 in
theorem l5For_ok (l : Int) (h1 : 1 ≤ l) (h2 : l ≤ 300) : ∃ r out, PlanR r out ∧ Good Tryd.prog 65 [vint l] [] r out := by
  refine good_v noM Tryd.func65 rfl rfl ?_
  conv => whnf
  refine VLoop.enter [2, 3] ?_
  conv => whnf
  refine VLoop.ind1 (n0 := 2) (α := Int) noM [2, 3] (fun a => ⟨35, 0, [(2, .one (.hp 0 0 0)), (3, .one (.hp 1 0 0))], [(0, some (.box [.p (.lit (.int .i64 0)), .p (.lit (.int .i64 0)), nilP, nilP])), (1, some (.box [.p (.lit (.int .i64 l)), .p (.lit (.int .i64 a)), nilP, nilP]))]⟩)
    (fun a => 8 ≤ a ∧ a ≤ 13) (fun a => (13 - a).toNat) ?_ 8 ⟨by omega, by omega⟩
  rintro a ⟨ha0, ha1⟩
  have hc := cnt_rng h1 h2 ha0 (by omega)
  conv => whnf
  refine .mk _ _ false Tryd.call57 (specCountN_ok l a (by omega)) (Nat.le_of_ble_eq_true rfl) (.inl rfl) ?_
  conv => whnf
  split
  · rename_i q
    have q' := of_decide_eq_true q
    have hw : IntKind.i64.wrap (a + 1) = a + 1 := wrap_in _ (by omega) (by omega)
    conv => whnf
    refine ⟨_, rfl, rfl, ⟨by rw [hw]; omega, by rw [hw]; omega⟩, by rw [hw]; omega⟩
  · rename_i q
    have q' := of_decide_eq_false q
    conv => whnf
    refine .mk _ _ false Tryd.call57 (specCountN_ok l a (by omega)) (Nat.le_of_ble_eq_true rfl) (.inl rfl) ?_
    conv => whnf
    have hk : IntKind.i64.wrap ((IntKind.i64.wrap (cnt l a + 3)).tdiv 4) = (cnt l a + 3) / 4 := by
      rw [wrap_in (cnt l a + 3) (by omega) (by omega), Int.tdiv_eq_ediv_of_nonneg (by omega), wrap_in _ (by omega) (by omega)]
    rw [hk]
    split
    · rename_i q1
      have q1' := of_decide_eq_true q1
      conv => whnf
      refine ⟨⟨⟨by decide +kernel, Nat.le_of_ble_eq_true rfl⟩, trivial⟩, ?_⟩
      conv => whnf
      exact ⟨l, a, [(cnt l a + 3) / 4, cnt l a], [2, 3], 2, 2, pok2 h1 h2 (by omega) (by omega) hc.1 (by omega) (by omega) q1' rfl (by decide) (by decide), rfl, rfl, rfl, rfl⟩
    · rename_i q1
      have q1' := of_decide_eq_false q1
      conv => whnf
      refine ⟨⟨⟨by decide +kernel, Nat.le_of_ble_eq_true rfl⟩, trivial⟩, ?_⟩
      conv => whnf
      exact ⟨l, a, [cnt l a], [1], 1, 1, pok1 h1 h2 (by omega) (by omega) hc.1 (by omega) rfl (by decide), rfl, rfl, rfl, rfl⟩
/-- A drawn plan: ahead of its rows the reader. -/
def PlanD (bs : List Int) (p : Int) (r : AV) (out : List Blk) : Prop := ∃ (l s : Int) (ws gs gs' : List Int) (n m : Nat) (q : Int), POk l s ws gs ∧ n = ws.length ∧ m = gs.length ∧ gs = gs'.take m ∧ m ≤ gs'.length ∧ p ≤ q ∧ q ≤ p + 10 ∧ r = .agg [.p (.lit (.int .i64 l)), .p (.lit (.int .i64 s)), .hs 1 0 n, .hs 2 0 m] ∧ out = [rdB bs q, .arr 1 (ws.map eI), .arr 1 (gs'.map eI)]
theorem take_all {l : List Int} {n : Nat} (h : n = l.length) : List.take n (List.drop 0 (l.map eI)) = l.map eI := by
  subst h
  rw [List.drop_zero, List.take_of_length_le (by rw [List.length_map]; exact Nat.le_refl _)]
theorem len_all {l : List Int} {n : Nat} (h : n = l.length) : 0 + n ≤ (l.map eI).length := by rw [List.length_map]; omega
set_option maxHeartbeats 16000000 in
set_option maxRecDepth 100000 in
theorem l15Plan_ok (bs : List Int) (p : Int) (hb : Bytes bs) (h0 : 0 ≤ p) (h1 : p < 900000) : ∃ r out, PlanD bs p r out ∧ Good Tryd.prog 47 [.one (.hp 0 0 0)] [rdB bs p] r out := by
  refine good_v noM Tryd.func47 rfl rfl ?_
  conv => whnf
  obtain ⟨_, _, ⟨v, hv0, hv1, rfl, rfl⟩, hg⟩ := pick_ok bs p 300 hb.rng hb.len h0 (by omega) (by omega) (by omega)
  refine .mk _ _ false Tryd.call41 hg (Nat.le_of_ble_eq_true rfl) (.inl rfl) ?_
  conv => whnf
  have hw1 : IntKind.i64.wrap (1 + v) = 1 + v := wrap_in _ (by omega) (by omega)
  rw [hw1]
  obtain ⟨_, _, ⟨l, s, ws, gs, n, m, hp, hn, hm, rfl, rfl⟩, hg2⟩ := l5For_ok (1 + v) (by omega) (by omega)
  refine .mk _ _ false Tryd.call65 hg2 (Nat.le_of_ble_eq_true rfl) (.inl rfl) ?_
  conv => whnf
  obtain ⟨_, _, ⟨v2, hv20, hv21, rfl, rfl⟩, hg3⟩ := pick_ok bs (p + 1) 2 hb.rng hb.len (by omega) (by omega) (by omega) (by omega)
  refine .mk _ _ false Tryd.call41 hg3 (Nat.le_of_ble_eq_true rfl) (.inl rfl) ?_
  conv => whnf
  obtain ⟨q0, hq0⟩ : ∃ q0, q0 = p + 1 + 1 := ⟨_, rfl⟩
  rw [← hq0]
  split
  · rename_i k0
    conv => whnf
    obtain ⟨_, _, ⟨v3, hv30, hv31, rfl, rfl⟩, hg4⟩ := pick_ok bs q0 60 hb.rng hb.len (by omega) (by omega) (by omega) (by omega)
    refine .mk _ _ false Tryd.call41 hg4 (Nat.le_of_ble_eq_true rfl) (.inl rfl) ?_
    conv => whnf
    have hw2 : IntKind.i64.wrap (1 + v3) = 1 + v3 := wrap_in _ (by omega) (by omega)
    rw [hw2]
    obtain ⟨_, _, ⟨l, s, ws, gs, n, m, hp, hn, hm, rfl, rfl⟩, hg5⟩ := l5For_ok (1 + v3) (by omega) (by omega)
    refine .mk _ _ false Tryd.call65 hg5 (Nat.le_of_ble_eq_true rfl) (.inl rfl) ?_
    conv => whnf
    refine ⟨len_all hn, len_all hm, ?_⟩
    rw [take_all hn, take_all hm]
    refine .mk _ _ false Tryd.call57 (specCount_ok l s ws gs (by have := hp.s1; omega)) (Nat.le_of_ble_eq_true rfl) (.inr ⟨AV.nsB_iff rfl, fun k hk => by cases hk⟩) ?_
    conv => whnf
    obtain ⟨q, hq⟩ : ∃ q, q = q0 + 1 := ⟨_, rfl⟩
    rw [← hq]
    have c1 := hp.c1
    have c2 := hp.c2
    split
    · rename_i k1
      have k1' := of_decide_eq_true k1
      conv => whnf
      obtain ⟨_, _, ⟨v4, hv40, hv41, rfl, rfl⟩, hg6⟩ := pick_ok bs q 3 hb.rng hb.len (by omega) (by omega) (by omega) (by omega)
      refine .mk _ _ false Tryd.call41 hg6 (Nat.le_of_ble_eq_true rfl) (.inl rfl) ?_
      conv => whnf
      split
      · rename_i k2
        conv => whnf
        have hw3 : IntKind.i64.wrap (cnt l s - 2) = cnt l s - 2 := wrap_in _ (by omega) (by omega)
        rw [hw3]
        obtain ⟨_, _, ⟨v5, hv50, hv51, rfl, rfl⟩, hg7⟩ := pick_ok bs (q + 1) (cnt l s - 2) hb.rng hb.len (by omega) (by omega) (by omega) (by omega)
        refine .mk _ _ false Tryd.call41 hg7 (Nat.le_of_ble_eq_true rfl) (.inl rfl) ?_
        conv => whnf
        have hw4 : IntKind.i64.wrap (1 + v5) = 1 + v5 := wrap_in _ (by omega) (by omega)
        have hw5 : IntKind.i64.wrap (1 + v5 + 1) = 1 + v5 + 1 := wrap_in _ (by omega) (by omega)
        obtain ⟨_, _, ⟨v6, hv60, hv61, rfl, rfl⟩, hg8⟩ := pick_ok bs (q + 1 + 1) 9 hb.rng hb.len (by omega) (by omega) (by omega) (by omega)
        refine .mk _ _ false Tryd.call41 hg8 (Nat.le_of_ble_eq_true rfl) (.inl rfl) ?_
        conv => whnf
        obtain ⟨_, _, ⟨v7, hv70, hv71, rfl, rfl⟩, hg9⟩ := pick_ok bs (q + 1 + 1 + 1) 9 hb.rng hb.len (by omega) (by omega) (by omega) (by omega)
        refine .mk _ _ false Tryd.call41 hg9 (Nat.le_of_ble_eq_true rfl) (.inl rfl) ?_
        conv => whnf
        obtain ⟨_, _, ⟨v8, hv80, hv81, rfl, rfl⟩, hg10⟩ := pick_ok bs (q + 1 + 1 + 1 + 1) 9 hb.rng hb.len (by omega) (by omega) (by omega) (by omega)
        refine .mk _ _ false Tryd.call41 hg10 (Nat.le_of_ble_eq_true rfl) (.inl rfl) ?_
        conv => whnf
        have hw6 : IntKind.i64.wrap (1 + v6) = 1 + v6 := wrap_in _ (by omega) (by omega)
        have hw7 : IntKind.i64.wrap (1 + v7) = 1 + v7 := wrap_in _ (by omega) (by omega)
        have hw8 : IntKind.i64.wrap (1 + v8) = 1 + v8 := wrap_in _ (by omega) (by omega)
        rw [hw4, hw5, hw6, hw7, hw8]
        have o1 := hp.l1; have o2 := hp.l2; have o3 := hp.s1; have o4 := hp.s2
        split
        · rename_i k3
          have k3' : 1 + v5 + 1 = cnt l s := beq_iff_eq.1 k3
          conv => whnf
          refine ⟨⟨by decide, by decide, by decide, Nat.le_refl 3, by decide +kernel, by decide +kernel⟩, ?_⟩
          conv => whnf
          refine ⟨⟨⟨by decide +kernel, Nat.le_of_ble_eq_true rfl⟩, trivial⟩, ?_⟩
          conv => whnf
          exact ⟨l, s, [1 + v5, cnt l s], [1 + v6, 1 + v7], [1 + v6, 1 + v7, 1 + v8], 2, 2, q + 1 + 1 + 1 + 1 + 1, pok2 o1 o2 o3 o4 c1 c2 (by omega) (by omega) rfl (by omega) (by omega), rfl, rfl, rfl, Nat.le_of_ble_eq_true rfl, by omega, by omega, rfl, rfl⟩
        · rename_i k3
          have k3' : ¬ 1 + v5 + 1 = cnt l s := beq_eq_false_iff_ne.1 k3
          conv => whnf
          refine ⟨⟨⟨by decide +kernel, Nat.le_of_ble_eq_true rfl⟩, trivial⟩, ?_⟩
          conv => whnf
          exact ⟨l, s, [1 + v5, 1 + v5 + 1, cnt l s], [1 + v6, 1 + v7, 1 + v8], [1 + v6, 1 + v7, 1 + v8], 3, 3, q + 1 + 1 + 1 + 1 + 1, pok3 o1 o2 o3 o4 c1 c2 (by omega) (by omega) (by omega) rfl (by omega) (by omega) (by omega), rfl, rfl, rfl, Nat.le_refl 3, by omega, by omega, rfl, rfl⟩
      · rename_i k2
        conv => whnf
        refine ⟨⟨⟨by decide +kernel, Nat.le_of_ble_eq_true rfl⟩, trivial⟩, ?_⟩
        conv => whnf
        exact ⟨l, s, ws, gs, gs, n, m, q + 1, hp, hn, hm, by rw [hm, List.take_of_length_le (Nat.le_refl _)], by omega, by omega, by omega, rfl, rfl⟩
    · rename_i k1
      conv => whnf
      refine ⟨⟨⟨by decide +kernel, Nat.le_of_ble_eq_true rfl⟩, trivial⟩, ?_⟩
      conv => whnf
      exact ⟨l, s, ws, gs, gs, n, m, q, hp, hn, hm, by rw [hm, List.take_of_length_le (Nat.le_refl _)], by omega, by omega, by omega, rfl, rfl⟩
  · rename_i k0
    conv => whnf
    refine ⟨len_all hn, len_all hm, ?_⟩
    rw [take_all hn, take_all hm]
    refine .mk _ _ false Tryd.call57 (specCount_ok l s ws gs (by have := hp.s1; omega)) (Nat.le_of_ble_eq_true rfl) (.inr ⟨AV.nsB_iff rfl, fun k hk => by cases hk⟩) ?_
    conv => whnf
    obtain ⟨q, hq⟩ : ∃ q, q = q0 := ⟨_, rfl⟩
    rw [← hq]
    have c1 := hp.c1
    have c2 := hp.c2
    split
    · rename_i k1
      have k1' := of_decide_eq_true k1
      conv => whnf
      obtain ⟨_, _, ⟨v4, hv40, hv41, rfl, rfl⟩, hg6⟩ := pick_ok bs q 3 hb.rng hb.len (by omega) (by omega) (by omega) (by omega)
      refine .mk _ _ false Tryd.call41 hg6 (Nat.le_of_ble_eq_true rfl) (.inl rfl) ?_
      conv => whnf
      split
      · rename_i k2
        conv => whnf
        have hw3 : IntKind.i64.wrap (cnt l s - 2) = cnt l s - 2 := wrap_in _ (by omega) (by omega)
        rw [hw3]
        obtain ⟨_, _, ⟨v5, hv50, hv51, rfl, rfl⟩, hg7⟩ := pick_ok bs (q + 1) (cnt l s - 2) hb.rng hb.len (by omega) (by omega) (by omega) (by omega)
        refine .mk _ _ false Tryd.call41 hg7 (Nat.le_of_ble_eq_true rfl) (.inl rfl) ?_
        conv => whnf
        have hw4 : IntKind.i64.wrap (1 + v5) = 1 + v5 := wrap_in _ (by omega) (by omega)
        have hw5 : IntKind.i64.wrap (1 + v5 + 1) = 1 + v5 + 1 := wrap_in _ (by omega) (by omega)
        obtain ⟨_, _, ⟨v6, hv60, hv61, rfl, rfl⟩, hg8⟩ := pick_ok bs (q + 1 + 1) 9 hb.rng hb.len (by omega) (by omega) (by omega) (by omega)
        refine .mk _ _ false Tryd.call41 hg8 (Nat.le_of_ble_eq_true rfl) (.inl rfl) ?_
        conv => whnf
        obtain ⟨_, _, ⟨v7, hv70, hv71, rfl, rfl⟩, hg9⟩ := pick_ok bs (q + 1 + 1 + 1) 9 hb.rng hb.len (by omega) (by omega) (by omega) (by omega)
        refine .mk _ _ false Tryd.call41 hg9 (Nat.le_of_ble_eq_true rfl) (.inl rfl) ?_
        conv => whnf
        obtain ⟨_, _, ⟨v8, hv80, hv81, rfl, rfl⟩, hg10⟩ := pick_ok bs (q + 1 + 1 + 1 + 1) 9 hb.rng hb.len (by omega) (by omega) (by omega) (by omega)
        refine .mk _ _ false Tryd.call41 hg10 (Nat.le_of_ble_eq_true rfl) (.inl rfl) ?_
        conv => whnf
        have hw6 : IntKind.i64.wrap (1 + v6) = 1 + v6 := wrap_in _ (by omega) (by omega)
        have hw7 : IntKind.i64.wrap (1 + v7) = 1 + v7 := wrap_in _ (by omega) (by omega)
        have hw8 : IntKind.i64.wrap (1 + v8) = 1 + v8 := wrap_in _ (by omega) (by omega)
        rw [hw4, hw5, hw6, hw7, hw8]
        have o1 := hp.l1; have o2 := hp.l2; have o3 := hp.s1; have o4 := hp.s2
        split
        · rename_i k3
          have k3' : 1 + v5 + 1 = cnt l s := beq_iff_eq.1 k3
          conv => whnf
          refine ⟨⟨by decide, by decide, by decide, Nat.le_refl 3, by decide +kernel, by decide +kernel⟩, ?_⟩
          conv => whnf
          refine ⟨⟨⟨by decide +kernel, Nat.le_of_ble_eq_true rfl⟩, trivial⟩, ?_⟩
          conv => whnf
          exact ⟨l, s, [1 + v5, cnt l s], [1 + v6, 1 + v7], [1 + v6, 1 + v7, 1 + v8], 2, 2, q + 1 + 1 + 1 + 1 + 1, pok2 o1 o2 o3 o4 c1 c2 (by omega) (by omega) rfl (by omega) (by omega), rfl, rfl, rfl, Nat.le_of_ble_eq_true rfl, by omega, by omega, rfl, rfl⟩
        · rename_i k3
          have k3' : ¬ 1 + v5 + 1 = cnt l s := beq_eq_false_iff_ne.1 k3
          conv => whnf
          refine ⟨⟨⟨by decide +kernel, Nat.le_of_ble_eq_true rfl⟩, trivial⟩, ?_⟩
          conv => whnf
          exact ⟨l, s, [1 + v5, 1 + v5 + 1, cnt l s], [1 + v6, 1 + v7, 1 + v8], [1 + v6, 1 + v7, 1 + v8], 3, 3, q + 1 + 1 + 1 + 1 + 1, pok3 o1 o2 o3 o4 c1 c2 (by omega) (by omega) (by omega) rfl (by omega) (by omega) (by omega), rfl, rfl, rfl, Nat.le_refl 3, by omega, by omega, rfl, rfl⟩
      · rename_i k2
        conv => whnf
        refine ⟨⟨⟨by decide +kernel, Nat.le_of_ble_eq_true rfl⟩, trivial⟩, ?_⟩
        conv => whnf
        exact ⟨l, s, ws, gs, gs, n, m, q + 1, hp, hn, hm, by rw [hm, List.take_of_length_le (Nat.le_refl _)], by omega, by omega, by omega, rfl, rfl⟩
    · rename_i k1
      conv => whnf
      refine ⟨⟨⟨by decide +kernel, Nat.le_of_ble_eq_true rfl⟩, trivial⟩, ?_⟩
      conv => whnf
      exact ⟨l, s, ws, gs, gs, n, m, q, hp, hn, hm, by rw [hm, List.take_of_length_le (Nat.le_refl _)], by omega, by omega, by omega, rfl, rfl⟩
end Go.Abs.D

set_option linter.unusedSimpArgs false
set_option linter.unusedVariables false
namespace Go.Abs.D
open Go Go.Abs Go.Proofs Go.RowKit
attribute [local irreducible] IntKind.wrap
theorem elsBytes_size (els : List (List PV)) : (elsBytes els).size = els.length := by
  show (els.map byteOf).toArray.size = _
  simp
theorem bytesEls_len (s : ByteArray) : (bytesEls s).length = s.size := by simp [bytesEls]
theorem bytesEls_isByte (s : ByteArray) : ∀ el ∈ bytesEls s, isByte el := fun el h => by
  obtain ⟨b, _, rfl⟩ := List.mem_map.1 h
  exact ⟨_, rfl⟩
theorem isByte_set {l : List (List PV)} {i : Nat} {n : Int} (h : ∀ el ∈ l, isByte el) : ∀ el ∈ l.set i [.lit (.int .u8 n)], isByte el := fun el hel => by
  rcases List.mem_or_eq_of_mem_set hel with q | rfl
  · exact h el q
  · exact ⟨n, rfl⟩
theorem bytesEls_at (s : ByteArray) (i : Nat) (h : i < s.size) : (bytesEls s).getD i [] = [.lit (.int .u8 (s.data.toList.getD i 0).toNat)] := by
  unfold bytesEls
  rw [List.getD_eq_getElem?_getD, List.getElem?_map, List.getD_eq_getElem?_getD, List.getElem?_eq_getElem (by simpa using h)]
  rfl
set_option maxHeartbeats 16000000 in
set_option maxRecDepth 100000 in
theorem l14Spoil_ok (k m : Int) (s : ByteArray) (b : Bool) (hs : 1 ≤ s.size) (hs2 : s.size ≤ 100000) (h0 : 0 ≤ m) (h1 : m ≤ 100000000) : ∃ r out, (∃ s' : ByteArray, r = .agg [.p (.lit (.int .i64 k)), .p (.lit (.string s')), .p (.lit (.bool true))] ∧ s'.size = s.size ∧ out = []) ∧ Good Tryd.prog 42 [.agg [.p (.lit (.int .i64 k)), .p (.lit (.string s)), .p (.lit (.bool b))], vint m] [] r out := by
  refine good_v noM Tryd.func42 rfl rfl ?_
  conv => whnf
  refine ⟨trivial, ?_⟩
  conv => whnf
  rw [abin_rem (k := IntKind.i64) (b := (s.size : Int)) rfl rfl (by omega)]
  conv => whnf
  obtain ⟨a, ha⟩ : ∃ a, a = (m.tmod 4096).tmod (s.size : Int) := ⟨_, rfl⟩
  rw [← ha]
  have ha0 : 0 ≤ a ∧ a < s.size := by rw [ha]; exact ⟨Int.tmod_nonneg _ (Int.tmod_nonneg _ h0), Int.tmod_lt_of_pos _ (by omega)⟩
  have hlen := bytesEls_len s
  refine ⟨ha0.1, ha0.2, by rw [hlen]; omega, ?_⟩
  conv => whnf
  refine ⟨_, bytesEls_at s (0 + a.toNat) (by omega), ?_⟩
  conv => whnf
  refine ⟨trivial, ?_⟩
  conv => whnf
  refine ⟨ha0.1, ha0.2, by rw [hlen]; omega, ?_⟩
  conv => whnf
  refine ⟨_, bytesEls_at s (0 + a.toNat) (by omega), by rw [hlen]; omega, ?_⟩
  conv => whnf
  refine ⟨⟨by rw [List.length_set, hlen]; omega, fun el hel => ?_⟩, ?_⟩
  · exact isByte_set (bytesEls_isByte s) el (List.mem_of_mem_drop (List.mem_of_mem_take hel))
  conv => whnf
  refine ⟨⟨⟨by decide +kernel, Nat.le_of_ble_eq_true rfl⟩, trivial⟩, ?_⟩
  conv => whnf
  refine ⟨_, rfl, ?_, rfl⟩
  rw [elsBytes_size, List.length_take, List.length_drop, List.length_set, hlen]
  omega
@[reducible] def e8 (n : Int) : List PV := [.lit (.int .u8 n)]
theorem e8_isByte (l : List Int) : ∀ el ∈ l.map e8, isByte el := fun el h => by
  obtain ⟨b, _, rfl⟩ := List.mem_map.1 h
  exact ⟨_, rfl⟩
theorem e8_snoc (l : List Int) (x : Int) : l.map e8 ++ [e8 x] = (l ++ [x]).map e8 := by simp
theorem bytes5 : Tryd.prog.bytesOf 5 + 1 ≤ 100 := by decide +kernel
theorem app5 {n : Nat} (h : n ≤ 1099511627777) : n * (Tryd.prog.bytesOf 5 + 1) ≤ 140737488355328 := Nat.le_trans (Nat.mul_le_mul h bytes5) (by decide)
set_option maxHeartbeats 16000000 in
set_option maxRecDepth 100000 in
theorem l15Block_ok (bs : List Int) (p n : Int) (hb : Bytes bs) (h0 : 0 ≤ p) (h1 : p < 900000) (hn0 : 1 ≤ n) (hn : n ≤ 100) : ∃ r out, (∃ (s : ByteArray) (q : Int), r = vstr s ∧ (s.size : Int) = n ∧ p ≤ q ∧ q ≤ p + 200 ∧ out = [rdB bs q]) ∧ Good Tryd.prog 64 [.one (.hp 0 0 0), vint n] [rdB bs p] r out := by
  refine good_v noM Tryd.func64 rfl rfl ?_
  conv => whnf
  refine VLoop.enter [0, 1, 5, 6] ?_
  conv => whnf
  refine VLoop.ind3 (n0 := 2) (α := Nat) (β := Int × Int) (γ := List (List PV)) noM [0, 1, 5, 6] (fun L x E => ⟨24, 1, [(0, .one (.hp 0 0 0)), (1, vint n), (5, .one (.hs 1 0 L)), (6, vint x.1)], [(0, some (rdB bs x.2)), (1, some (.arr 1 E))]⟩)
    (fun L x E => ∃ (l : List Int) (i : Nat), l.length = i ∧ L = i ∧ x.1 = i ∧ E = l.map e8 ∧ (i : Int) ≤ n ∧ x.2 = p + 2 * i) (fun L _ _ => (n - L).toNat) ?_ 0 (0, p) [] ⟨[], 0, rfl, rfl, rfl, rfl, by omega, by show p = _; omega⟩
  rintro i ⟨_, _⟩ _ ⟨l, _, hl, rfl, h2, rfl, hi, h3⟩
  have h2' := h2
  have h3' := h3
  dsimp only at h2' h3'
  subst h2' h3'
  clear h2 h3
  have hem : (l.map e8).length = i := by rw [List.length_map, hl]
  conv => whnf
  split
  · rename_i k
    have k' := of_decide_eq_true k
    conv => whnf
    obtain ⟨_, _, ⟨v, hv0, hv1, rfl, rfl⟩, hg⟩ := pick_ok bs (p + 2 * i) 4 hb.rng hb.len (by omega) (by omega) (by omega) (by omega)
    refine .mk _ _ false Tryd.call41 hg (Nat.le_of_ble_eq_true rfl) (.inl rfl) ?_
    conv => whnf
    obtain ⟨_, _, ⟨v2, hv20, hv21, rfl, rfl⟩, hg2⟩ := pick_ok bs (p + 2 * i + 1) 80 hb.rng hb.len (by omega) (by omega) (by omega) (by omega)
    refine .mk _ _ false Tryd.call41 hg2 (Nat.le_of_ble_eq_true rfl) (.inl rfl) ?_
    conv => whnf
    refine ⟨trivial, ?_⟩
    conv => whnf
    refine ⟨⟨rfl, hem.symm, rfl⟩, Nat.le_refl 1, ?_⟩
    conv => whnf
    refine ⟨(fun q => by cases q), app5 (show (l.map e8).length + 1 ≤ _ by omega), fun el hel => by cases List.mem_singleton.1 hel; rfl, ?_⟩
    conv => whnf
    refine ⟨_, (_, _), _, rfl, rfl, ⟨l ++ [_], i + 1, ?_, ?_, ?_, e8_snoc l _, by omega, ?_⟩, ?_⟩
    · rw [List.length_append, hl]; rfl
    · rw [hem]; rfl
    · show IntKind.i64.wrap ((i : Int) + 1) = _
      rw [wrap_in _ (by omega) (by omega)]; omega
    · show p + 2 * (i : Int) + 1 + 1 = _; omega
    · rw [hem]; show (n - ((i + 1 : Nat) : Int)).toNat < _; omega
  · rename_i k
    have k' := of_decide_eq_false k
    conv => whnf
    refine ⟨⟨by omega, fun el hel => e8_isByte l el (List.mem_of_mem_drop (List.mem_of_mem_take hel))⟩, ?_⟩
    conv => whnf
    refine ⟨trivial, ?_⟩
    conv => whnf
    refine ⟨_, _, rfl, ?_, ?_, ?_, rfl⟩
    · rw [elsBytes_size, List.length_take, List.length_drop, hem]; omega
    · omega
    · omega
end Go.Abs.D

set_option linter.unusedSimpArgs false
set_option linter.unusedVariables false
namespace Go.Abs.D
open Go Go.Abs Go.Proofs Go.RowKit
attribute [local irreducible] IntKind.wrap
theorem e_tt : ((ByteArray.mk #[]).toList == (ByteArray.mk #[]).toList) = true := str_t rfl
theorem okS_pre {w : RWord} (hb : 0 ≤ w.b ∧ w.b ≤ 99999) (hc : 1 ≤ w.c ∧ w.c ≤ 99999) (hd : 0 ≤ w.d ∧ w.d ≤ 99999) (he : 0 ≤ w.e ∧ w.e ≤ 99999) (hg : w.g.size ≤ 80) :
    okS w = (match w.a == 1 with
    | true => (match nameOk w.f with
      | false => false
      | true => match w.e == 0 with
        | true => w.g.toList == (ByteArray.mk #[]).toList
        | false => false)
    | false => match !(w.f.toList == (ByteArray.mk #[]).toList) with
      | true => false
      | false => match w.a == 6 with
        | true => (match w.e == 0 with
          | true => w.g.toList == (ByteArray.mk #[]).toList
          | false => false)
        | false => match w.a == 2 with
          | true => (match decide (w.d > 0) with
            | true => (match w.e == 0 with
              | true => !(w.g.toList == (ByteArray.mk #[]).toList)
              | false => false)
            | false => false)
          | false => match w.a == 3 with
            | true => (match decide (w.d > 0) with
              | true => !(w.g.toList == (ByteArray.mk #[]).toList)
              | false => false)
            | false => match w.a == 4 with
              | true => (match decide (w.d > 0) with
                | true => w.g.toList == (ByteArray.mk #[]).toList
                | false => false)
              | false => match w.a == 5 with
                | true => (match decide (w.d > 0) with
                  | true => w.g.toList == (ByteArray.mk #[]).toList
                  | false => false)
                | false => false) := by
  unfold okS
  rw [inR_iff.2 hb, inR_iff.2 hc, inR_iff.2 hd, inR_iff.2 he, decide_eq_false (by omega : ¬ (w.g.size : Int) > 80)]
  rfl
theorem e0_size : (ByteArray.mk #[]).size = 0 := rfl
theorem okS_1 {b c d : Int} {f : ByteArray} (hb : 0 ≤ b ∧ b ≤ 99999) (hc : 1 ≤ c ∧ c ≤ 99999) (hd : 0 ≤ d ∧ d ≤ 99999) (hf : nameOk f = true) : okS ⟨1, b, c, d, 0, f, ⟨#[]⟩⟩ = true := by
  rw [okS_pre hb hc hd ⟨by show (0 : Int) ≤ 0; omega, by show (0 : Int) ≤ _; omega⟩ (by rw [e0_size]; omega)]
  show (match nameOk f with | false => false | true => _) = true
  rw [hf]
  exact e_tt
theorem ne_size {g : ByteArray} (h : 1 ≤ g.size) : g ≠ ⟨#[]⟩ := fun q => by rw [q] at h; cases h
theorem okS_2 {b c d : Int} {g : ByteArray} (hb : 0 ≤ b ∧ b ≤ 99999) (hc : 1 ≤ c ∧ c ≤ 99999) (hd : 1 ≤ d ∧ d ≤ 99999) (hg : 1 ≤ g.size ∧ g.size ≤ 80) : okS ⟨2, b, c, d, 0, ⟨#[]⟩, g⟩ = true := by
  rw [okS_pre hb hc ⟨by show 0 ≤ d; omega, hd.2⟩ ⟨by show (0 : Int) ≤ 0; omega, by show (0 : Int) ≤ _; omega⟩ hg.2]
  dsimp only
  rw [e_tt, decide_eq_true (by omega : d > 0), str_f (ne_size hg.1)]
  rfl
theorem okS_3 {b c d e : Int} {g : ByteArray} (hb : 0 ≤ b ∧ b ≤ 99999) (hc : 1 ≤ c ∧ c ≤ 99999) (hd : 1 ≤ d ∧ d ≤ 99999) (he : 0 ≤ e ∧ e ≤ 99999) (hg : 1 ≤ g.size ∧ g.size ≤ 80) : okS ⟨3, b, c, d, e, ⟨#[]⟩, g⟩ = true := by
  rw [okS_pre hb hc ⟨by show 0 ≤ d; omega, hd.2⟩ he hg.2]
  dsimp only
  rw [e_tt, decide_eq_true (by omega : d > 0), str_f (ne_size hg.1)]
  rfl
theorem okS_4 {b c d e : Int} (hb : 0 ≤ b ∧ b ≤ 99999) (hc : 1 ≤ c ∧ c ≤ 99999) (hd : 1 ≤ d ∧ d ≤ 99999) (he : 0 ≤ e ∧ e ≤ 99999) : okS ⟨4, b, c, d, e, ⟨#[]⟩, ⟨#[]⟩⟩ = true := by
  rw [okS_pre hb hc ⟨by show 0 ≤ d; omega, hd.2⟩ he (by rw [e0_size]; omega)]
  dsimp only
  rw [e_tt, decide_eq_true (by omega : d > 0)]
  rfl
theorem okS_5 {b c d : Int} (hb : 0 ≤ b ∧ b ≤ 99999) (hc : 1 ≤ c ∧ c ≤ 99999) (hd : 1 ≤ d ∧ d ≤ 99999) : okS ⟨5, b, c, d, 0, ⟨#[]⟩, ⟨#[]⟩⟩ = true := by
  rw [okS_pre hb hc ⟨by show 0 ≤ d; omega, hd.2⟩ ⟨by show (0 : Int) ≤ 0; omega, by show (0 : Int) ≤ _; omega⟩ (by rw [e0_size]; omega)]
  dsimp only
  rw [e_tt, decide_eq_true (by omega : d > 0)]
  rfl
theorem okS_6 {b c d : Int} (hb : 0 ≤ b ∧ b ≤ 99999) (hc : 1 ≤ c ∧ c ≤ 99999) (hd : 0 ≤ d ∧ d ≤ 99999) : okS ⟨6, b, c, d, 0, ⟨#[]⟩, ⟨#[]⟩⟩ = true := by
  rw [okS_pre hb hc hd ⟨by show (0 : Int) ≤ 0; omega, by show (0 : Int) ≤ _; omega⟩ (by rw [e0_size]; omega)]
  dsimp only
  rw [e_tt]
  rfl
theorem nameOk_a {f : ByteArray} (h : f ∈ [(ByteArray.mk #[97]), ⟨#[98]⟩, ⟨#[99, 99]⟩]) : nameOk f = true := by
  rcases List.mem_cons.1 h with rfl | h
  · decide
  rcases List.mem_cons.1 h with rfl | h
  · decide
  cases List.mem_singleton.1 h
  decide
theorem ptext_pos (l s : Int) (ws gs : List Int) : 1 ≤ (ptext l s ws gs).size := by
  unfold ptext sl
  simp only [ByteArray.size_append, sl1]; omega
/-- A drawn word that is ok. -/
def WordD (bs : List Int) (p : Int) (r : AV) (out : List Blk) : Prop := ∃ (w : RWord) (q : Int), okS w = true ∧ p ≤ q ∧ q ≤ p + 300 ∧ r = word w ∧ out = [rdB bs q]
set_option maxHeartbeats 16000000 in
set_option maxRecDepth 100000 in
theorem l15Word_ok (bs : List Int) (p : Int) (hb : Bytes bs) (h0 : 0 ≤ p) (h1 : p < 800000) : ∃ r out, WordD bs p r out ∧ Good Tryd.prog 40 [.one (.hp 0 0 0)] [rdB bs p] r out := by
  refine good_v noM Tryd.func40 rfl rfl ?_
  conv => whnf
  obtain ⟨_, _, ⟨v, hv0, hv1, rfl, rfl⟩, hg⟩ := pick_ok bs p 6 hb.rng hb.len h0 (by omega) (by omega) (by omega)
  refine .mk _ _ false Tryd.call41 hg (Nat.le_of_ble_eq_true rfl) (.inl rfl) ?_
  conv => whnf
  obtain ⟨_, _, ⟨v2, hv20, hv21, rfl, rfl⟩, hg2⟩ := pick_ok bs (p + 1) 5 hb.rng hb.len (by omega) (by omega) (by omega) (by omega)
  refine .mk _ _ false Tryd.call41 hg2 (Nat.le_of_ble_eq_true rfl) (.inl rfl) ?_
  conv => whnf
  obtain ⟨_, _, ⟨v3, hv30, hv31, rfl, rfl⟩, hg3⟩ := pick_ok bs (p + 1 + 1) 4 hb.rng hb.len (by omega) (by omega) (by omega) (by omega)
  refine .mk _ _ false Tryd.call41 hg3 (Nat.le_of_ble_eq_true rfl) (.inl rfl) ?_
  conv => whnf
  obtain ⟨_, _, ⟨v4, hv40, hv41, rfl, rfl⟩, hg4⟩ := pick_ok bs (p + 1 + 1 + 1) 4 hb.rng hb.len (by omega) (by omega) (by omega) (by omega)
  refine .mk _ _ false Tryd.call41 hg4 (Nat.le_of_ble_eq_true rfl) (.inl rfl) ?_
  conv => whnf
  have hw1 : IntKind.i64.wrap (1 + v) = 1 + v := wrap_in _ (by omega) (by omega)
  have hw3 : IntKind.i64.wrap (1 + v3) = 1 + v3 := wrap_in _ (by omega) (by omega)
  have hw4 : IntKind.i64.wrap (1 + v4) = 1 + v4 := wrap_in _ (by omega) (by omega)
  rw [hw1, hw3, hw4]
  obtain ⟨q, hq⟩ : ∃ q, q = p + 1 + 1 + 1 + 1 := ⟨_, rfl⟩
  rw [← hq]
  have hv : v = 0 ∨ v = 1 ∨ v = 2 ∨ v = 3 ∨ v = 4 ∨ v = 5 := by omega
  rcases hv with rfl | rfl | rfl | rfl | rfl | rfl
  · conv => whnf
    refine ⟨Nat.le_refl 3, ?_⟩
    conv => whnf
    obtain ⟨_, _, ⟨f, hf, rfl, rfl⟩, hg5⟩ := of_ok bs q [⟨#[97]⟩, ⟨#[98]⟩, ⟨#[99, 99]⟩] hb (by omega) (by omega) (by decide) (by decide)
    refine .mk _ _ true Tryd.call48 hg5 (Nat.le_of_ble_eq_true rfl) (fun b hb => by cases List.mem_singleton.1 hb; exact Nat.le_of_ble_eq_true rfl) ?_
    conv => whnf
    obtain ⟨_, _, ⟨v6, hv60, hv61, rfl, rfl⟩, hg6⟩ := pick_ok bs (q + 1) 3 hb.rng hb.len (by omega) (by omega) (by omega) (by omega)
    refine .mk _ _ false Tryd.call41 hg6 (Nat.le_of_ble_eq_true rfl) (.inl rfl) ?_
    conv => whnf
    refine ⟨⟨⟨by decide +kernel, Nat.le_of_ble_eq_true rfl⟩, trivial⟩, ?_⟩
    conv => whnf
    exact ⟨⟨1, v2, 1 + v3, v6, 0, f, ⟨#[]⟩⟩, q + 1 + 1, okS_1 ⟨hv20, by omega⟩ ⟨by omega, by omega⟩ ⟨hv60, by omega⟩ (nameOk_a hf), by omega, by omega, rfl, rfl⟩
  · conv => whnf
    obtain ⟨_, _, ⟨l, s, ws, gs, gs', n, m, q', hp, hn, hm, hgs, hml, hq1, hq2, rfl, rfl⟩, hg5⟩ := l15Plan_ok bs q hb (by omega) (by omega)
    refine .mk _ _ false Tryd.call47 hg5 (Nat.le_of_ble_eq_true rfl) (.inl rfl) ?_
    conv => whnf
    refine ⟨len_all hn, by rw [List.length_map]; omega, ?_⟩
    rw [take_all hn, show List.take m (List.drop 0 (gs'.map eI)) = gs.map eI by rw [List.drop_zero, ← List.map_take, ← hgs]]
    refine .mk _ _ false Tryd.call25 (specPW_ok l s ws gs (by have := hp.w2; omega) true ⟨fun _ => hp, fun _ => rfl⟩) (Nat.le_of_ble_eq_true rfl) (.inr ⟨AV.nsB_iff rfl, fun k hk => by cases hk⟩) ?_
    conv => whnf
    refine ⟨⟨⟨by decide +kernel, Nat.le_of_ble_eq_true rfl⟩, trivial⟩, ?_⟩
    conv => whnf
    exact ⟨⟨2, v2, 1 + v3, 1 + v4, 0, ⟨#[]⟩, ptext l s ws gs⟩, q', okS_2 ⟨hv20, by omega⟩ ⟨by omega, by omega⟩ ⟨by omega, by omega⟩ ⟨ptext_pos l s ws gs, by have := ptext_size hp; omega⟩, by omega, by omega, rfl, rfl⟩
  · conv => whnf
    obtain ⟨_, _, ⟨v6, hv60, hv61, rfl, rfl⟩, hg6⟩ := pick_ok bs q 60 hb.rng hb.len (by omega) (by omega) (by omega) (by omega)
    refine .mk _ _ false Tryd.call41 hg6 (Nat.le_of_ble_eq_true rfl) (.inl rfl) ?_
    conv => whnf
    obtain ⟨_, _, ⟨g, q', rfl, hgz, hq1, hq2, rfl⟩, hg7⟩ := l15Block_ok bs (q + 1) 8 hb (by omega) (by omega) (by omega) (by omega)
    refine .mk _ _ false Tryd.call64 hg7 (Nat.le_of_ble_eq_true rfl) (.inl rfl) ?_
    conv => whnf
    refine ⟨⟨⟨by decide +kernel, Nat.le_of_ble_eq_true rfl⟩, trivial⟩, ?_⟩
    conv => whnf
    exact ⟨⟨3, v2, 1 + v3, 1 + v4, v6, ⟨#[]⟩, g⟩, q', okS_3 ⟨hv20, by omega⟩ ⟨by omega, by omega⟩ ⟨by omega, by omega⟩ ⟨by omega, by omega⟩ ⟨by omega, by omega⟩, by omega, by omega, rfl, rfl⟩
  · conv => whnf
    obtain ⟨_, _, ⟨v6, hv60, hv61, rfl, rfl⟩, hg6⟩ := pick_ok bs q 4 hb.rng hb.len (by omega) (by omega) (by omega) (by omega)
    refine .mk _ _ false Tryd.call41 hg6 (Nat.le_of_ble_eq_true rfl) (.inl rfl) ?_
    conv => whnf
    refine ⟨⟨⟨by decide +kernel, Nat.le_of_ble_eq_true rfl⟩, trivial⟩, ?_⟩
    conv => whnf
    exact ⟨⟨4, v2, 1 + v3, 1 + v4, v6, ⟨#[]⟩, ⟨#[]⟩⟩, q + 1, okS_4 ⟨hv20, by omega⟩ ⟨by omega, by omega⟩ ⟨by omega, by omega⟩ ⟨by omega, by omega⟩, by omega, by omega, rfl, rfl⟩
  · conv => whnf
    refine ⟨⟨⟨by decide +kernel, Nat.le_of_ble_eq_true rfl⟩, trivial⟩, ?_⟩
    conv => whnf
    exact ⟨⟨5, v2, 1 + v3, 1 + v4, 0, ⟨#[]⟩, ⟨#[]⟩⟩, q, okS_5 ⟨hv20, by omega⟩ ⟨by omega, by omega⟩ ⟨by omega, by omega⟩, by omega, by omega, rfl, rfl⟩
  · conv => whnf
    obtain ⟨_, _, ⟨v6, hv60, hv61, rfl, rfl⟩, hg6⟩ := pick_ok bs q 3 hb.rng hb.len (by omega) (by omega) (by omega) (by omega)
    refine .mk _ _ false Tryd.call41 hg6 (Nat.le_of_ble_eq_true rfl) (.inl rfl) ?_
    conv => whnf
    refine ⟨⟨⟨by decide +kernel, Nat.le_of_ble_eq_true rfl⟩, trivial⟩, ?_⟩
    conv => whnf
    exact ⟨⟨6, v2, 1 + v3, v6, 0, ⟨#[]⟩, ⟨#[]⟩⟩, q + 1, okS_6 ⟨hv20, by omega⟩ ⟨by omega, by omega⟩ ⟨by omega, by omega⟩, by omega, by omega, rfl, rfl⟩
end Go.Abs.D

set_option linter.unusedSimpArgs false
set_option linter.unusedVariables false
namespace Go.Abs.D
open Go Go.Abs Go.Proofs Go.RowKit
attribute [local irreducible] IntKind.wrap
structure Sz (w : RWord) : Prop where
  f : w.f.size ≤ 1000000
  g : w.g.size ≤ 1000000
theorem okS_sz {w : RWord} (h : okS w = true) : Sz w := by
  refine ⟨?_, ?_⟩
  · rcases okS_f h with q | q
    · unfold nameOk at q
      rw [Bool.and_eq_true] at q
      have := inR_iff.1 q.2
      omega
    · have : w.f.size = 0 := by rw [← szl, q]; rfl
      omega
  · unfold okS at h
    split at h
    · cases h
    split at h
    · cases h
    split at h
    · cases h
    split at h
    · cases h
    split at h
    · cases h
    · rename_i q
      have := of_decide_eq_false q
      omega
/-- Any drawn word. -/
def WordA (bs : List Int) (p : Int) (r : AV) (out : List Blk) : Prop := ∃ (w : RWord) (q : Int), Sz w ∧ p ≤ q ∧ q ≤ p + 400 ∧ r = word w ∧ out = [rdB bs q]
set_option maxHeartbeats 16000000 in
set_option maxRecDepth 100000 in
theorem l15AnyWord_ok (bs : List Int) (p : Int) (hb : Bytes bs) (h0 : 0 ≤ p) (h1 : p < 800000) : ∃ r out, WordA bs p r out ∧ Good Tryd.prog 38 [.one (.hp 0 0 0)] [rdB bs p] r out := by
  refine good_v noM Tryd.func38 rfl rfl ?_
  conv => whnf
  obtain ⟨_, _, ⟨w, q, hok, hq0, hq1, rfl, rfl⟩, hg⟩ := l15Word_ok bs p hb h0 h1
  have hsz := okS_sz hok
  refine .mk _ _ false Tryd.call40 hg (Nat.le_of_ble_eq_true rfl) (.inl rfl) ?_
  conv => whnf
  obtain ⟨_, _, ⟨v, hv0, hv1, rfl, rfl⟩, hg1⟩ := pick_ok bs q 24 hb.rng hb.len (by omega) (by omega) (by omega) (by omega)
  refine .mk _ _ false Tryd.call41 hg1 (Nat.le_of_ble_eq_true rfl) (.inl rfl) ?_
  conv => whnf
  have hv : v = 0 ∨ v = 1 ∨ v = 2 ∨ v = 3 ∨ v = 4 ∨ v = 5 ∨ v = 6 ∨ 7 ≤ v := by omega
  rcases hv with rfl | rfl | rfl | rfl | rfl | rfl | rfl | hv7
  · conv => whnf
    obtain ⟨_, _, ⟨v6, hv60, hv61, rfl, rfl⟩, hg6⟩ := pick_ok bs (q + 1) 2 hb.rng hb.len (by omega) (by omega) (by omega) (by omega)
    refine .mk _ _ false Tryd.call41 hg6 (Nat.le_of_ble_eq_true rfl) (.inl rfl) ?_
    conv => whnf
    have hv6 : v6 = 0 ∨ v6 = 1 := by omega
    rcases hv6 with rfl | rfl
    · refine ⟨by decide, by decide, Nat.le_refl 2, ?_⟩
      conv => whnf
      refine ⟨_, rfl, ?_⟩
      conv => whnf
      refine ⟨⟨⟨by decide +kernel, Nat.le_of_ble_eq_true rfl⟩, trivial⟩, ?_⟩
      conv => whnf
      exact ⟨⟨0, w.b, w.c, w.d, w.e, w.f, w.g⟩, q + 1 + 1, ⟨hsz.f, hsz.g⟩, by omega, by omega, rfl, rfl⟩
    · refine ⟨by decide, by decide, Nat.le_refl 2, ?_⟩
      conv => whnf
      refine ⟨_, rfl, ?_⟩
      conv => whnf
      refine ⟨⟨⟨by decide +kernel, Nat.le_of_ble_eq_true rfl⟩, trivial⟩, ?_⟩
      conv => whnf
      exact ⟨⟨7, w.b, w.c, w.d, w.e, w.f, w.g⟩, q + 1 + 1, ⟨hsz.f, hsz.g⟩, by omega, by omega, rfl, rfl⟩
  · conv => whnf
    refine ⟨⟨⟨by decide +kernel, Nat.le_of_ble_eq_true rfl⟩, trivial⟩, ?_⟩
    conv => whnf
    exact ⟨⟨w.a, -1, w.c, w.d, w.e, w.f, w.g⟩, q + 1, ⟨hsz.f, hsz.g⟩, by omega, by omega, rfl, rfl⟩
  · conv => whnf
    refine ⟨⟨⟨by decide +kernel, Nat.le_of_ble_eq_true rfl⟩, trivial⟩, ?_⟩
    conv => whnf
    exact ⟨⟨w.a, w.b, 0, w.d, w.e, w.f, w.g⟩, q + 1, ⟨hsz.f, hsz.g⟩, by omega, by omega, rfl, rfl⟩
  · conv => whnf
    obtain ⟨_, _, ⟨v6, hv60, hv61, rfl, rfl⟩, hg6⟩ := pick_ok bs (q + 1) 3 hb.rng hb.len (by omega) (by omega) (by omega) (by omega)
    refine .mk _ _ false Tryd.call41 hg6 (Nat.le_of_ble_eq_true rfl) (.inl rfl) ?_
    conv => whnf
    have hv6 : v6 = 0 ∨ v6 = 1 ∨ v6 = 2 := by omega
    rcases hv6 with rfl | rfl | rfl
    · refine ⟨by decide, by decide, Nat.le_refl 3, ?_⟩
      conv => whnf
      refine ⟨_, rfl, ?_⟩
      conv => whnf
      refine ⟨⟨⟨by decide +kernel, Nat.le_of_ble_eq_true rfl⟩, trivial⟩, ?_⟩
      conv => whnf
      exact ⟨⟨w.a, w.b, w.c, -1, w.e, w.f, w.g⟩, q + 1 + 1, ⟨hsz.f, hsz.g⟩, by omega, by omega, rfl, rfl⟩
    · refine ⟨by decide, by decide, Nat.le_refl 3, ?_⟩
      conv => whnf
      refine ⟨_, rfl, ?_⟩
      conv => whnf
      refine ⟨⟨⟨by decide +kernel, Nat.le_of_ble_eq_true rfl⟩, trivial⟩, ?_⟩
      conv => whnf
      exact ⟨⟨w.a, w.b, w.c, 0, w.e, w.f, w.g⟩, q + 1 + 1, ⟨hsz.f, hsz.g⟩, by omega, by omega, rfl, rfl⟩
    · refine ⟨by decide, by decide, Nat.le_refl 3, ?_⟩
      conv => whnf
      refine ⟨_, rfl, ?_⟩
      conv => whnf
      refine ⟨⟨⟨by decide +kernel, Nat.le_of_ble_eq_true rfl⟩, trivial⟩, ?_⟩
      conv => whnf
      exact ⟨⟨w.a, w.b, w.c, 100000, w.e, w.f, w.g⟩, q + 1 + 1, ⟨hsz.f, hsz.g⟩, by omega, by omega, rfl, rfl⟩
  · conv => whnf
    obtain ⟨_, _, ⟨v6, hv60, hv61, rfl, rfl⟩, hg6⟩ := pick_ok bs (q + 1) 3 hb.rng hb.len (by omega) (by omega) (by omega) (by omega)
    refine .mk _ _ false Tryd.call41 hg6 (Nat.le_of_ble_eq_true rfl) (.inl rfl) ?_
    conv => whnf
    have hv6 : v6 = 0 ∨ v6 = 1 ∨ v6 = 2 := by omega
    rcases hv6 with rfl | rfl | rfl
    · refine ⟨by decide, by decide, Nat.le_refl 3, ?_⟩
      conv => whnf
      refine ⟨_, rfl, ?_⟩
      conv => whnf
      refine ⟨⟨⟨by decide +kernel, Nat.le_of_ble_eq_true rfl⟩, trivial⟩, ?_⟩
      conv => whnf
      exact ⟨⟨w.a, w.b, w.c, w.d, -1, w.f, w.g⟩, q + 1 + 1, ⟨hsz.f, hsz.g⟩, by omega, by omega, rfl, rfl⟩
    · refine ⟨by decide, by decide, Nat.le_refl 3, ?_⟩
      conv => whnf
      refine ⟨_, rfl, ?_⟩
      conv => whnf
      refine ⟨⟨⟨by decide +kernel, Nat.le_of_ble_eq_true rfl⟩, trivial⟩, ?_⟩
      conv => whnf
      exact ⟨⟨w.a, w.b, w.c, w.d, 7, w.f, w.g⟩, q + 1 + 1, ⟨hsz.f, hsz.g⟩, by omega, by omega, rfl, rfl⟩
    · refine ⟨by decide, by decide, Nat.le_refl 3, ?_⟩
      conv => whnf
      refine ⟨_, rfl, ?_⟩
      conv => whnf
      refine ⟨⟨⟨by decide +kernel, Nat.le_of_ble_eq_true rfl⟩, trivial⟩, ?_⟩
      conv => whnf
      exact ⟨⟨w.a, w.b, w.c, w.d, 100000, w.f, w.g⟩, q + 1 + 1, ⟨hsz.f, hsz.g⟩, by omega, by omega, rfl, rfl⟩
  · conv => whnf
    refine ⟨Nat.le_refl 3, ?_⟩
    conv => whnf
    obtain ⟨_, _, ⟨f, hf, rfl, rfl⟩, hg5⟩ := of_ok bs (q + 1) [⟨#[]⟩, ⟨#[65]⟩, ⟨#[97]⟩] hb (by omega) (by omega) (by decide) (by decide)
    have hf2 : f.size ≤ 1000000 := by
      simp only [List.mem_cons, List.not_mem_nil, or_false] at hf
      rcases hf with rfl | rfl | rfl <;> decide
    refine .mk _ _ true Tryd.call48 hg5 (Nat.le_of_ble_eq_true rfl) (fun b hb => by cases List.mem_singleton.1 hb; exact Nat.le_of_ble_eq_true rfl) ?_
    conv => whnf
    refine ⟨⟨⟨by decide +kernel, Nat.le_of_ble_eq_true rfl⟩, trivial⟩, ?_⟩
    conv => whnf
    exact ⟨⟨w.a, w.b, w.c, w.d, w.e, f, w.g⟩, q + 1 + 1, ⟨hf2, hsz.g⟩, by omega, by omega, rfl, rfl⟩
  · conv => whnf
    obtain ⟨_, _, ⟨v6, hv60, hv61, rfl, rfl⟩, hg6⟩ := pick_ok bs (q + 1) 2 hb.rng hb.len (by omega) (by omega) (by omega) (by omega)
    refine .mk _ _ false Tryd.call41 hg6 (Nat.le_of_ble_eq_true rfl) (.inl rfl) ?_
    conv => whnf
    have hw : IntKind.i64.wrap (80 + v6) = 80 + v6 := wrap_in _ (by omega) (by omega)
    rw [hw]
    obtain ⟨_, _, ⟨g, rfl, hgz, rfl⟩, hg7⟩ := l1Many_ok ⟨#[100]⟩ (80 + v6) (by omega) (by decide)
    refine .mk _ _ false Tryd.call63 hg7 (Nat.le_of_ble_eq_true rfl) (.inl rfl) ?_
    conv => whnf
    obtain ⟨_, _, ⟨v8, hv80, hv81, rfl, rfl⟩, hg8⟩ := pick_ok bs (q + 1 + 1) 3 hb.rng hb.len (by omega) (by omega) (by omega) (by omega)
    refine .mk _ _ false Tryd.call41 hg8 (Nat.le_of_ble_eq_true rfl) (.inl rfl) ?_
    conv => whnf
    have hv8 : v8 = 0 ∨ v8 = 1 ∨ v8 = 2 := by omega
    rcases hv8 with rfl | rfl | rfl
    · refine ⟨by decide, by decide, Nat.le_refl 3, ?_⟩
      conv => whnf
      refine ⟨_, rfl, ?_⟩
      conv => whnf
      refine ⟨⟨⟨by decide +kernel, Nat.le_of_ble_eq_true rfl⟩, trivial⟩, ?_⟩
      conv => whnf
      exact ⟨⟨w.a, w.b, w.c, w.d, w.e, w.f, ⟨#[]⟩⟩, q + 1 + 1 + 1, ⟨hsz.f, by show 0 ≤ _; omega⟩, by omega, by omega, rfl, rfl⟩
    · refine ⟨by decide, by decide, Nat.le_refl 3, ?_⟩
      conv => whnf
      refine ⟨_, rfl, ?_⟩
      conv => whnf
      refine ⟨⟨⟨by decide +kernel, Nat.le_of_ble_eq_true rfl⟩, trivial⟩, ?_⟩
      conv => whnf
      exact ⟨⟨w.a, w.b, w.c, w.d, w.e, w.f, ⟨#[120]⟩⟩, q + 1 + 1 + 1, ⟨hsz.f, by show 1 ≤ _; omega⟩, by omega, by omega, rfl, rfl⟩
    · refine ⟨by decide, by decide, Nat.le_refl 3, ?_⟩
      conv => whnf
      refine ⟨_, rfl, ?_⟩
      conv => whnf
      refine ⟨⟨⟨by decide +kernel, Nat.le_of_ble_eq_true rfl⟩, trivial⟩, ?_⟩
      conv => whnf
      exact ⟨⟨w.a, w.b, w.c, w.d, w.e, w.f, g⟩, q + 1 + 1 + 1, ⟨hsz.f, by show g.size ≤ _; omega⟩, by omega, by omega, rfl, rfl⟩
  · have n0 : (v == 0) = false := beq_eq_false_iff_ne.2 (by omega)
    have n1 : (v == 1) = false := beq_eq_false_iff_ne.2 (by omega)
    have n2 : (v == 2) = false := beq_eq_false_iff_ne.2 (by omega)
    have n3 : (v == 3) = false := beq_eq_false_iff_ne.2 (by omega)
    have n4 : (v == 4) = false := beq_eq_false_iff_ne.2 (by omega)
    have n5 : (v == 5) = false := beq_eq_false_iff_ne.2 (by omega)
    have n6 : (v == 6) = false := beq_eq_false_iff_ne.2 (by omega)
    rw [n0]
    conv => whnf
    rw [n1]
    conv => whnf
    rw [n2]
    conv => whnf
    rw [n3]
    conv => whnf
    rw [n4]
    conv => whnf
    rw [n5]
    conv => whnf
    rw [n6]
    conv => whnf
    refine ⟨⟨⟨by decide +kernel, Nat.le_of_ble_eq_true rfl⟩, trivial⟩, ?_⟩
    conv => whnf
    exact ⟨w, q + 1, hsz, by omega, by omega, rfl, rfl⟩
end Go.Abs.D

set_option linter.unusedSimpArgs false
set_option linter.unusedVariables false
namespace Go.Abs.D
open Go Go.Abs Go.Proofs Go.RowKit
attribute [local irreducible] IntKind.wrap
set_option maxHeartbeats 16000000 in
set_option maxRecDepth 100000 in
theorem drawWrite_ok (bs : List Int) (hb : ∀ x ∈ bs, 0 ≤ x ∧ x ≤ 255) (hl : bs.length ≤ 9223372036854775807) : ∃ r out, (∃ w, Sz w ∧ r = word w ∧ out = []) ∧ Good Tryd.prog 15 [.one (.p (.sl (bs.map encU)))] [] r out := by
  refine good_v noM Tryd.func15 rfl rfl ?_
  conv => whnf
  obtain ⟨_, _, ⟨bs', hb', rfl, rfl⟩, hg⟩ := l1Open_ok bs hb hl
  refine .mk _ _ false Tryd.call39 hg (Nat.le_of_ble_eq_true rfl) (.inl rfl) ?_
  conv => whnf
  obtain ⟨_, _, ⟨w, q, hsz, hq0, hq1, rfl, rfl⟩, hg2⟩ := l15AnyWord_ok bs' 0 hb' (by omega) (by omega)
  refine .mk _ _ false Tryd.call38 hg2 (Nat.le_of_ble_eq_true rfl) (.inl rfl) ?_
  conv => whnf
  refine ⟨⟨⟨by decide +kernel, Nat.le_of_ble_eq_true rfl⟩, trivial⟩, ?_⟩
  conv => whnf
  exact ⟨w, hsz, rfl, rfl⟩
theorem wtext_rng {w : RWord} (h : okS w = true) : 1 ≤ (wtext w).size ∧ (wtext w).size ≤ 400 := by
  have h1 := wbody_size (okS_lim h)
  rw [wtext_ok h, ByteArray.size_append, seven_7 (sum_lt _)]
  omega
set_option maxHeartbeats 16000000 in
set_option maxRecDepth 100000 in
theorem drawRead_ok (bs : List Int) (hb : ∀ x ∈ bs, 0 ≤ x ∧ x ≤ 255) (hl : bs.length ≤ 9223372036854775807) : ∃ r out, (∃ s : ByteArray, s.size ≤ 1000000 ∧ r = vstr s ∧ out = []) ∧ Good Tryd.prog 16 [.one (.p (.sl (bs.map encU)))] [] r out := by
  refine good_v noM Tryd.func16 rfl rfl ?_
  conv => whnf
  obtain ⟨_, _, ⟨bs', hb', rfl, rfl⟩, hg⟩ := l1Open_ok bs hb hl
  refine .mk _ _ false Tryd.call39 hg (Nat.le_of_ble_eq_true rfl) (.inl rfl) ?_
  conv => whnf
  obtain ⟨_, _, ⟨w, q, hok, hq0, hq1, rfl, rfl⟩, hg2⟩ := l15Word_ok bs' 0 hb' (by omega) (by omega)
  refine .mk _ _ false Tryd.call40 hg2 (Nat.le_of_ble_eq_true rfl) (.inl rfl) ?_
  conv => whnf
  have hw := wtext_rng hok
  have hsz := okS_sz hok
  refine .mk _ _ false Tryd.call9 (specWrite_ok w (by have := hsz.f; omega)) (Nat.le_of_ble_eq_true rfl) (.inl rfl) ?_
  conv => whnf
  obtain ⟨_, _, ⟨v, hv0, hv1, rfl, rfl⟩, hg3⟩ := pick_ok bs' q 4 hb'.rng hb'.len (by omega) (by omega) (by omega) (by omega)
  refine .mk _ _ false Tryd.call41 hg3 (Nat.le_of_ble_eq_true rfl) (.inl rfl) ?_
  conv => whnf
  have hv : v = 0 ∨ v = 1 ∨ 2 ≤ v := by omega
  rcases hv with rfl | rfl | hv2
  · conv => whnf
    obtain ⟨_, _, ⟨v4, hv40, hv41, rfl, rfl⟩, hg4⟩ := pick_ok bs' (q + 1) 256 hb'.rng hb'.len (by omega) (by omega) (by omega) (by omega)
    refine .mk _ _ false Tryd.call41 hg4 (Nat.le_of_ble_eq_true rfl) (.inl rfl) ?_
    conv => whnf
    obtain ⟨_, _, ⟨v5, hv50, hv51, rfl, rfl⟩, hg5⟩ := pick_ok bs' (q + 1 + 1) 256 hb'.rng hb'.len (by omega) (by omega) (by omega) (by omega)
    refine .mk _ _ false Tryd.call41 hg5 (Nat.le_of_ble_eq_true rfl) (.inl rfl) ?_
    conv => whnf
    have hw2 : IntKind.i64.wrap (v4 * 256) = v4 * 256 := wrap_in _ (by omega) (by omega)
    have hw3 : IntKind.i64.wrap (v4 * 256 + v5) = v4 * 256 + v5 := wrap_in _ (by omega) (by omega)
    rw [hw2, hw3]
    obtain ⟨_, _, ⟨s', rfl, hs', rfl⟩, hg6⟩ := l14Spoil_ok 0 (v4 * 256 + v5) (wtext w) false hw.1 (by omega) (by omega) (by omega)
    refine .mk _ _ false Tryd.call42 hg6 (Nat.le_of_ble_eq_true rfl) (.inl rfl) ?_
    conv => whnf
    refine ⟨trivial, ?_⟩
    conv => whnf
    exact ⟨s', by omega, rfl, rfl⟩
  · conv => whnf
    have hw2 : IntKind.i64.wrap (((wtext w).size : Int) + 1) = ((wtext w).size : Int) + 1 := wrap_in _ (by omega) (by omega)
    rw [hw2]
    obtain ⟨_, _, ⟨v4, hv40, hv41, rfl, rfl⟩, hg4⟩ := pick_ok bs' (q + 1) (((wtext w).size : Int) + 1) hb'.rng hb'.len (by omega) (by omega) (by omega) (by omega)
    refine .mk _ _ false Tryd.call41 hg4 (Nat.le_of_ble_eq_true rfl) (.inl rfl) ?_
    conv => whnf
    refine ⟨⟨by omega, by omega, by omega⟩, ?_⟩
    conv => whnf
    refine ⟨trivial, ?_⟩
    conv => whnf
    refine ⟨_, ?_, rfl, rfl⟩
    show ((wtext w).extract 0 v4.toNat).size ≤ _
    rw [ByteArray.size_extract]; omega
  · rw [show (v == 0) = false from beq_eq_false_iff_ne.2 (by omega)]
    conv => whnf
    rw [show (v == 1) = false from beq_eq_false_iff_ne.2 (by omega)]
    conv => whnf
    refine ⟨trivial, ?_⟩
    conv => whnf
    exact ⟨_, by omega, rfl, rfl⟩
end Go.Abs.D

set_option linter.unusedSimpArgs false
set_option linter.unusedVariables false
namespace Go.Abs.D
open Go Go.Abs Go.Proofs Go.RowKit
attribute [local irreducible] IntKind.wrap
theorem reads_w {w : RWord} {o : Option RWord} (ho : ∀ w', o = some w' ↔ Reads (wtext w) w') : o.isSome = okS w ∧ (okS w = true → o = some w) := by
  cases h : okS w with
  | true =>
    have := (ho w).2 ⟨h, rfl⟩
    rw [this]
    exact ⟨rfl, fun _ => rfl⟩
  | false =>
    have : o = none := none_of ho fun w' q => by
      have := q.size
      rw [wtext_bad h, e0_size] at this
      omega
    rw [this]
    exact ⟨rfl, fun q => by cases q⟩
theorem wtext_max (w : RWord) : (wtext w).size ≤ 1099511627776 := by
  cases h : okS w with
  | true => have := wtext_rng h; omega
  | false => rw [wtext_bad h, e0_size]; omega
theorem eqW_same (w : RWord) : (w.a == w.a && (w.b == w.b && (w.c == w.c && (w.d == w.d && (w.e == w.e && (w.f.toList == w.f.toList && (w.g.toList == w.g.toList && true))))))) = true := by simp
set_option maxHeartbeats 16000000 in
set_option maxRecDepth 100000 in
theorem wordText_law (xs ys : List Int) (hx : ∀ x ∈ xs, 0 ≤ x ∧ x ≤ 255) (hxl : xs.length ≤ 9223372036854775807) (hy : ∀ x ∈ ys, 0 ≤ x ∧ x ≤ 255) (hyl : ys.length ≤ 9223372036854775807) : ∃ r out, r = vbool true ∧ Good Tryd.prog 6 [.one (.p (.sl (xs.map encU))), .one (.p (.sl (ys.map encU)))] [] r out := by
  refine good_v noM Tryd.func6 rfl rfl ?_
  conv => whnf
  split
  · conv => whnf
    refine ⟨trivial, ?_⟩
    conv => whnf
    rfl
  rename_i q
  conv => whnf
  split
  · conv => whnf
    refine ⟨trivial, ?_⟩
    conv => whnf
    rfl
  rename_i q2
  conv => whnf
  obtain ⟨_, _, ⟨s, hs, rfl, rfl⟩, hg⟩ := drawRead_ok xs hx hxl
  refine .mk _ _ false Tryd.call16 hg (Nat.le_of_ble_eq_true rfl) (.inl rfl) ?_
  conv => whnf
  obtain ⟨o, ho⟩ := reads_ex s
  refine .mk _ _ false Tryd.call13 (implRead_ok s (by omega) o ho) (Nat.le_of_ble_eq_true rfl) (.inl rfl) ?_
  conv => whnf
  refine .mk _ _ false Tryd.call12 (specRead_ok s (by omega) o ho) (Nat.le_of_ble_eq_true rfl) (.inl rfl) ?_
  conv => whnf
  rw [show (!o.isSome == o.isSome) = false by cases o <;> rfl]
  conv => whnf
  refine ⟨by decide +kernel, by decide +kernel, ?_⟩
  conv => whnf
  rw [eqW_same]
  conv => whnf
  have hk : ∃ b : Bool, b = o.isSome := ⟨_, rfl⟩
  cases o with
  | none =>
    conv => whnf
    obtain ⟨_, _, ⟨w2, hsz2, rfl, rfl⟩, hg2⟩ := drawWrite_ok ys hy hyl
    refine .mk _ _ false Tryd.call15 hg2 (Nat.le_of_ble_eq_true rfl) (.inl rfl) ?_
    conv => whnf
    have hf2 : w2.f.size ≤ 9223372036854775807 := by have := hsz2.f; omega
    refine .mk _ _ false Tryd.call11 (implWrite_ok w2 hf2) (Nat.le_of_ble_eq_true rfl) (.inl rfl) ?_
    conv => whnf
    obtain ⟨o2, ho2⟩ := reads_ex (wtext w2)
    obtain ⟨hs2, hs3⟩ := reads_w ho2
    refine .mk _ _ false Tryd.call13 (implRead_ok (wtext w2) (wtext_max w2) o2 ho2) (Nat.le_of_ble_eq_true rfl) (.inl rfl) ?_
    conv => whnf
    refine VDraw.goR [0, 0, 2, 7, 15, 31, 31, 95, 255, 511, 1023, 2047, 4095, 2047, 16383, 32767, 65535, 131071, 262143, 524287, 1048575, 2097151, 2097151, 8388607, 16777215, 33554431, 67108863] [2, 7, 12, 14] [] [] rfl (by decide +kernel) ?_
    conv => whnf
    refine .mk _ _ false Tryd.call9 (specWrite_ok w2 hf2) (Nat.le_of_ble_eq_true rfl) (.inl rfl) ?_
    conv => whnf
    rw [str_t rfl]
    conv => whnf
    refine .mk _ _ false Tryd.call17 (specOk_ok w2 hf2) (Nat.le_of_ble_eq_true rfl) (.inl rfl) ?_
    conv => whnf
    rw [hs2, show (okS w2 == okS w2) = true by simp]
    conv => whnf
    refine .mk _ _ false Tryd.call18 (implOk_ok w2 hf2) (Nat.le_of_ble_eq_true rfl) (.inl rfl) ?_
    conv => whnf
    refine .mk _ _ false Tryd.call17 (specOk_ok w2 hf2) (Nat.le_of_ble_eq_true rfl) (.inl rfl) ?_
    conv => whnf
    rw [← ok_same, show (okS w2 == okS w2) = true by simp]
    conv => whnf
    cases hk2 : okS w2 with
    | false =>
      conv => whnf
      refine ⟨trivial, ?_⟩
      conv => whnf
      rfl
    | true =>
      rw [hs3 hk2]
      conv => whnf
      refine ⟨by decide +kernel, by decide +kernel, ?_⟩
      conv => whnf
      refine ⟨trivial, ?_⟩
      conv => whnf
      exact congrArg vbool (eqW_same w2)
  | some w =>
    have hr := (ho w).1 rfl
    conv => whnf
    refine .mk _ _ false Tryd.call11 (implWrite_ok w (by have := okS_sz hr.ok; have := this.f; omega)) (Nat.le_of_ble_eq_true rfl) (.inl rfl) ?_
    conv => whnf
    rw [str_t hr.wr]
    conv => whnf
    obtain ⟨_, _, ⟨w2, hsz2, rfl, rfl⟩, hg2⟩ := drawWrite_ok ys hy hyl
    refine .mk _ _ false Tryd.call15 hg2 (Nat.le_of_ble_eq_true rfl) (.inl rfl) ?_
    conv => whnf
    have hf2 : w2.f.size ≤ 9223372036854775807 := by have := hsz2.f; omega
    refine .mk _ _ false Tryd.call11 (implWrite_ok w2 hf2) (Nat.le_of_ble_eq_true rfl) (.inl rfl) ?_
    conv => whnf
    obtain ⟨o2, ho2⟩ := reads_ex (wtext w2)
    obtain ⟨hs2, hs3⟩ := reads_w ho2
    refine .mk _ _ false Tryd.call13 (implRead_ok (wtext w2) (wtext_max w2) o2 ho2) (Nat.le_of_ble_eq_true rfl) (.inl rfl) ?_
    conv => whnf
    refine VDraw.goR [0, 0, 2, 7, 15, 31, 31, 95, 255, 511, 1023, 2047, 4095, 2047, 16383, 32767, 65535, 131071, 262143, 524287, 1048575, 2097151, 2097151, 8388607, 16777215, 33554431, 67108863] [2, 7, 12, 14] [] [] rfl (by decide +kernel) ?_
    conv => whnf
    refine .mk _ _ false Tryd.call9 (specWrite_ok w2 hf2) (Nat.le_of_ble_eq_true rfl) (.inl rfl) ?_
    conv => whnf
    rw [str_t rfl]
    conv => whnf
    refine .mk _ _ false Tryd.call17 (specOk_ok w2 hf2) (Nat.le_of_ble_eq_true rfl) (.inl rfl) ?_
    conv => whnf
    rw [hs2, show (okS w2 == okS w2) = true by simp]
    conv => whnf
    refine .mk _ _ false Tryd.call18 (implOk_ok w2 hf2) (Nat.le_of_ble_eq_true rfl) (.inl rfl) ?_
    conv => whnf
    refine .mk _ _ false Tryd.call17 (specOk_ok w2 hf2) (Nat.le_of_ble_eq_true rfl) (.inl rfl) ?_
    conv => whnf
    rw [← ok_same, show (okS w2 == okS w2) = true by simp]
    conv => whnf
    cases hk2 : okS w2 with
    | false =>
      conv => whnf
      refine ⟨trivial, ?_⟩
      conv => whnf
      rfl
    | true =>
      rw [hs3 hk2]
      conv => whnf
      refine ⟨by decide +kernel, by decide +kernel, ?_⟩
      conv => whnf
      refine ⟨trivial, ?_⟩
      conv => whnf
      exact congrArg vbool (eqW_same w2)
theorem wf8 {x : Int} (h : (Lit.int .u8 x).wf = true) : 0 ≤ x ∧ x ≤ 255 := by
  unfold Lit.wf at h
  simp only [Bool.and_eq_true, decide_eq_true_eq] at h
  exact h
theorem fnWordText_good (xs ys : List Int) (hx : xs.length ≤ 9223372036854775807 ∧ ∀ x ∈ xs, (Lit.int .u8 x).wf = true) (hy : ys.length ≤ 9223372036854775807 ∧ ∀ x ∈ ys, (Lit.int .u8 x).wf = true) : ∃ r out, r = vbool true ∧ Good Tryd.prog 6 [.one (.p (.sl (xs.map encU))), .one (.p (.sl (ys.map encU)))] [] r out := wordText_law xs ys (fun x h => wf8 (hx.2 x h)) hx.1 (fun x h => wf8 (hy.2 x h)) hy.1
end Go.Abs.D
