import Derived.Test.YtilogdijodgcgaaDoorGLog5
import Derived.Test.YtilogdijodgcgaaDoorGBASE
set_option linter.unusedSimpArgs false
set_option linter.unusedVariables false
namespace Go.Abs.E
open Go Go.Abs Go.Proofs Go.RowKit
attribute [local irreducible] IntKind.wrap
attribute [local irreducible] lineS hashS
set_option maxHeartbeats 16000000 in
set_option maxRecDepth 100000 in
theorem mend_law (s : ByteArray) (hs : s.size ≤ 9223372036854775807) : ∃ r out, r = vbool true ∧ Good Tryd.prog 3 [vstr s] [] r out := by
  refine good_v noM Tryd.func3 rfl rfl ?_
  conv => whnf
  split
  · conv => whnf
    refine ⟨trivial, ?_⟩
    conv => whnf
    rfl
  rename_i q
  have q' := of_decide_eq_false q
  obtain ⟨rs, at_, f⟩ := fin_ex s
  conv => whnf
  refine .mk _ _ false Tryd.call11 (specMend_ok s (by omega) rs at_ f) (Nat.le_of_ble_eq_true rfl) (.inl rfl) ?_
  conv => whnf
  refine .mk _ _ false Tryd.call12 (implMend_ok s (by omega) rs at_ f) (Nat.le_of_ble_eq_true rfl) (.inl rfl) ?_
  conv => whnf
  rw [str_t rfl]
  conv => whnf
  refine ⟨trivial, ?_⟩
  conv => whnf
  rfl
set_option maxHeartbeats 16000000 in
set_option maxRecDepth 100000 in
theorem ok_law (s : ByteArray) (hs : s.size ≤ 9223372036854775807) : ∃ r out, r = vbool true ∧ Good Tryd.prog 4 [vstr s] [] r out := by
  refine good_v noM Tryd.func4 rfl rfl ?_
  conv => whnf
  split
  · conv => whnf
    refine ⟨trivial, ?_⟩
    conv => whnf
    rfl
  rename_i q
  have q' := of_decide_eq_false q
  obtain ⟨rs, at_, f⟩ := fin_ex s
  conv => whnf
  refine .mk _ _ false Tryd.call13 (specOk_ok s (by omega) rs at_ f) (Nat.le_of_ble_eq_true rfl) (.inl rfl) ?_
  conv => whnf
  refine .mk _ _ false Tryd.call14 (implOk_ok s (by omega) rs at_ f) (Nat.le_of_ble_eq_true rfl) (.inl rfl) ?_
  conv => whnf
  rw [show (okB s at_ == okB s at_) = true by simp]
  conv => whnf
  refine ⟨trivial, ?_⟩
  conv => whnf
  rfl
set_option maxHeartbeats 16000000 in
set_option maxRecDepth 100000 in
theorem add_law (s r : ByteArray) (hs : s.size ≤ 9223372036854775807) (hr : r.size ≤ 9223372036854775807) : ∃ v out, v = vbool true ∧ Good Tryd.prog 5 [vstr s, vstr r] [] v out := by
  refine good_v noM Tryd.func5 rfl rfl ?_
  conv => whnf
  split
  · conv => whnf
    refine ⟨trivial, ?_⟩
    conv => whnf
    rfl
  rename_i q
  have q' := of_decide_eq_false q
  obtain ⟨rs, at_, f⟩ := fin_ex s
  conv => whnf
  split
  · conv => whnf
    refine ⟨trivial, ?_⟩
    conv => whnf
    rfl
  conv => whnf
  refine .mk _ _ false Tryd.call15 (specAdd_ok s (by omega) rs at_ f r) (Nat.le_of_ble_eq_true rfl) (.inl rfl) ?_
  conv => whnf
  refine .mk _ _ false Tryd.call16 (implAdd_ok s (by omega) rs at_ f r) (Nat.le_of_ble_eq_true rfl) (.inl rfl) ?_
  conv => whnf
  rw [str_t rfl]
  conv => whnf
  rw [show ((addO s rs.length at_ r).isSome == (addO s rs.length at_ r).isSome) = true by simp]
  conv => whnf
  refine ⟨trivial, ?_⟩
  conv => whnf
  rfl
end Go.Abs.E

set_option linter.unusedSimpArgs false
set_option linter.unusedVariables false
namespace Go.Abs.E
open Go Go.Abs Go.Proofs Go.RowKit
attribute [local irreducible] IntKind.wrap
attribute [local irreducible] lineS hashS
def tornS (log : ByteArray) (o : Option ByteArray) (m : Int) : ByteArray := match o with
  | none => log
  | some l => l.extract 0 ((log.size : Int) + min (max m 0) ((l.size : Int) - log.size)).toNat
theorem addO_some {log : ByteArray} {n at_ : Nat} {r l : ByteArray} (h : addO log n at_ r = some l) : l = log ++ lineS n r ∧ l.size ≤ 9000 ∧ log.size ≤ l.size := by
  unfold addO at h
  split at h
  · rename_i q
    cases h
    refine ⟨rfl, ?_, ?_⟩
    · rw [ByteArray.size_append]; exact q.2.2
    · rw [ByteArray.size_append]; omega
  · cases h
theorem ext_self {l : ByteArray} {n : Nat} (h : l.size ≤ n) : l.extract 0 n = l := by
  apply ByteArray.ext
  rw [ByteArray.data_extract]
  exact Array.extract_eq_self_of_le h
theorem ext_app {a b : ByteArray} : (a ++ b).extract 0 a.size = a := by
  apply ByteArray.ext
  rw [ByteArray.data_extract, ByteArray.data_append]
  apply Array.ext'
  rw [Array.toList_extract, Array.toList_append, List.extract_eq_take_drop]
  rw [List.drop_zero, Nat.sub_zero, show a.size = a.data.toList.length from rfl, List.take_left]
set_option maxHeartbeats 16000000 in
set_option maxRecDepth 100000 in
theorem specTorn_ok (log : ByteArray) (hs : log.size ≤ 2000000) (rs : List ByteArray) (at_ : Nat) (f : Fin log rs at_) (r : ByteArray) (m : Int) (hm : -9223372036854775808 ≤ m ∧ m ≤ 9223372036854775807) : Good Tryd.prog 22 [vstr log, vstr r, vint m] [] (vstr (tornS log (addO log rs.length at_ r) m)) [] := by
  refine good_e noM Tryd.func22 rfl rfl ?_
  conv => whnf
  refine .mk _ _ false Tryd.call15 (specAdd_ok log hs rs at_ f r) (Nat.le_of_ble_eq_true rfl) (.inl rfl) ?_
  conv => whnf
  cases ho : addO log rs.length at_ r with
  | none =>
    conv => whnf
    refine ⟨trivial, ?_⟩
    conv => whnf
    exact ⟨rfl, rfl⟩
  | some l =>
    have hl := addO_some ho
    conv => whnf
    split
    · rename_i q
      have q' := of_decide_eq_true q
      conv => whnf
      rw [show tornS log (some l) m = log from by
        unfold tornS
        show l.extract 0 _ = log
        rw [show ((log.size : Int) + min (max m 0) ((l.size : Int) - log.size)).toNat = log.size by omega, hl.1, ext_app]]
      refine ⟨trivial, ?_⟩
      conv => whnf
      exact ⟨rfl, rfl⟩
    rename_i q
    have q' := of_decide_eq_false q
    conv => whnf
    split
    · rename_i q1
      have q1' := of_decide_eq_true q1
      have hw : IntKind.i64.wrap ((l.size : Int) - log.size) = (l.size : Int) - log.size := wrap_in _ (by omega) (by omega)
      rw [show ((some l).getD ⟨#[]⟩) = l from rfl, hw] at q1'
      conv => whnf
      rw [show tornS log (some l) m = l from by
        unfold tornS
        show l.extract 0 _ = l
        exact ext_self (by omega)]
      refine ⟨trivial, ?_⟩
      conv => whnf
      exact ⟨rfl, rfl⟩
    · rename_i q1
      have q1' := of_decide_eq_false q1
      have hw : IntKind.i64.wrap ((l.size : Int) - log.size) = (l.size : Int) - log.size := wrap_in _ (by omega) (by omega)
      rw [show ((some l).getD ⟨#[]⟩) = l from rfl, hw] at q1'
      have hw2 : IntKind.i64.wrap ((log.size : Int) + m) = (log.size : Int) + m := wrap_in _ (by omega) (by omega)
      conv => whnf
      rw [hw2]
      refine ⟨⟨by omega, by omega, by show _ ≤ (l.size : Int); omega⟩, ?_⟩
      conv => whnf
      rw [show tornS log (some l) m = l.extract 0 ((log.size : Int) + m).toNat from by
        unfold tornS
        show l.extract 0 _ = l.extract 0 _
        rw [show min (max m 0) ((l.size : Int) - log.size) = m by omega]]
      refine ⟨trivial, ?_⟩
      conv => whnf
      exact ⟨rfl, rfl⟩
set_option maxHeartbeats 16000000 in
set_option maxRecDepth 100000 in
theorem implTorn_ok (log : ByteArray) (hs : log.size ≤ 2000000) (rs : List ByteArray) (at_ : Nat) (f : Fin log rs at_) (r : ByteArray) (m : Int) (hm : -9223372036854775808 ≤ m ∧ m ≤ 9223372036854775807) : Good Tryd.prog 23 [vstr log, vstr r, vint m] [] (vstr (tornS log (addO log rs.length at_ r) m)) [] := by
  refine good_e noM Tryd.func23 rfl rfl ?_
  conv => whnf
  refine .mk _ _ false Tryd.call16 (implAdd_ok log hs rs at_ f r) (Nat.le_of_ble_eq_true rfl) (.inl rfl) ?_
  conv => whnf
  cases ho : addO log rs.length at_ r with
  | none =>
    conv => whnf
    refine ⟨trivial, ?_⟩
    conv => whnf
    exact ⟨rfl, rfl⟩
  | some l =>
    have hl := addO_some ho
    conv => whnf
    have hw : IntKind.i64.wrap ((l.size : Int) - log.size) = (l.size : Int) - log.size := wrap_in _ (by omega) (by omega)
    have hk : (if (l.size : Int) - log.size < (if 0 > m then 0 else m) then (l.size : Int) - log.size else (if 0 > m then 0 else m)) = min (max m 0) ((l.size : Int) - log.size) := by
      split <;> split <;> omega
    have hw2 : IntKind.i64.wrap ((log.size : Int) + min (max m 0) ((l.size : Int) - log.size)) = (log.size : Int) + min (max m 0) ((l.size : Int) - log.size) := wrap_in _ (by omega) (by omega)
    rw [show ((some l).getD ⟨#[]⟩) = l from rfl, hw, hk, hw2]
    refine ⟨⟨by omega, by omega, by omega⟩, ?_⟩
    conv => whnf
    refine ⟨trivial, ?_⟩
    conv => whnf
    exact ⟨rfl, rfl⟩
set_option maxHeartbeats 16000000 in
set_option maxRecDepth 100000 in
theorem torn_law (s r : ByteArray) (m : Int) (hs : s.size ≤ 9223372036854775807) (hr : r.size ≤ 9223372036854775807) (hm : -9223372036854775808 ≤ m ∧ m ≤ 9223372036854775807) : ∃ v out, v = vbool true ∧ Good Tryd.prog 7 [vstr s, vstr r, vint m] [] v out := by
  refine good_v noM Tryd.func7 rfl rfl ?_
  conv => whnf
  split
  · conv => whnf
    refine ⟨trivial, ?_⟩
    conv => whnf
    rfl
  rename_i q
  have q' := of_decide_eq_false q
  obtain ⟨rs, at_, f⟩ := fin_ex s
  conv => whnf
  split
  · conv => whnf
    refine ⟨trivial, ?_⟩
    conv => whnf
    rfl
  conv => whnf
  refine .mk _ _ false Tryd.call22 (specTorn_ok s (by omega) rs at_ f r m hm) (Nat.le_of_ble_eq_true rfl) (.inl rfl) ?_
  conv => whnf
  refine .mk _ _ false Tryd.call23 (implTorn_ok s (by omega) rs at_ f r m hm) (Nat.le_of_ble_eq_true rfl) (.inl rfl) ?_
  conv => whnf
  rw [str_t rfl]
  conv => whnf
  refine ⟨trivial, ?_⟩
  conv => whnf
  rfl
theorem rng64 {n : Int} (h : (Lit.int .i64 n).wf = true) : -9223372036854775808 ≤ n ∧ n ≤ 9223372036854775807 := by
  unfold Lit.wf at h
  simp only [Bool.and_eq_true, decide_eq_true_eq] at h
  exact h
theorem torn_good (s r : ByteArray) (m : Int) (hs : s.size ≤ 9223372036854775807) (hr : r.size ≤ 9223372036854775807) (hm : (Lit.int .i64 m).wf = true) : ∃ v out, v = vbool true ∧ Good Tryd.prog 7 [vstr s, vstr r, vint m] [] v out := torn_law s r m hs hr (rng64 hm)
end Go.Abs.E

set_option linter.unusedSimpArgs false
set_option linter.unusedVariables false
namespace Go.Abs.E
open Go Go.Abs Go.Proofs Go.RowKit
attribute [local irreducible] IntKind.wrap
attribute [local irreducible] lineS hashS
section
variable {log b : ByteArray} {rs : List ByteArray} {at_ n : Nat} {r : ByteArray}
theorem IsRec.mono (h : IsRec log at_ n r) {t : List UInt8} (e : b.data.toList = log.data.toList ++ t) : IsRec b at_ n r := by
  obtain ⟨u, hu⟩ := h.pre
  have hf := h.fits
  refine ⟨h.pos, h.max, u ++ t, ?_⟩
  rw [e, List.drop_append_of_le_length (by rw [szl]; omega), hu, List.append_assoc]
theorem Chain.mono (h : Chain log rs at_) {t : List UInt8} (e : b.data.toList = log.data.toList ++ t) : Chain b rs at_ := by
  induction h with
  | nil => exact .nil
  | snoc h hr ih => exact ih.snoc (hr.mono e)
theorem IsRec.shut (h : IsRec log at_ n r) {k : Nat} (hk : at_ + (lineS n r).size ≤ k) : IsRec (log.extract 0 k) at_ n r := by
  obtain ⟨u, hu⟩ := h.pre
  have hf := h.fits
  refine ⟨h.pos, h.max, u.take (k - at_ - (lineS n r).size), ?_⟩
  have e : (log.extract 0 k).data.toList = log.data.toList.take k := by
    rw [ByteArray.data_extract, Array.toList_extract, List.extract_eq_take_drop, List.drop_zero, Nat.sub_zero]
  have hl : (lineL n r).length = (lineS n r).size := szl _
  rw [e, List.drop_take, hu, List.take_append, hl, List.take_of_length_le (by rw [hl]; omega)]
theorem Chain.cut (h : Chain log rs at_) : ∀ {k : Nat}, at_ ≤ k → Chain (log.extract 0 k) rs at_ := by
  induction h with
  | nil => intro k _; exact .nil
  | snoc h hr ih =>
    intro k hk
    exact (ih (by omega)).snoc (hr.shut hk)
theorem ext_size {k : Nat} (h : k ≤ log.size) : (log.extract 0 k).size = k := by rw [ByteArray.size_extract]; omega
theorem Fin.of_end (h : Chain log rs log.size) : Fin log rs log.size := ⟨h, fun r hr => by
  have h1 := hr.fits; have h2 := lineS_size rs.length r
  omega⟩
/-- A log cut at its records' end has those records. -/
theorem Fin.cut (f : Fin log rs at_) : Fin (log.extract 0 at_) rs at_ := by
  have h := f.ch.cut (Nat.le_refl at_)
  have hs := ext_size f.ch.le.1
  have := Fin.of_end (log := log.extract 0 at_) (rs := rs) (by rw [hs]; exact h)
  rw [hs] at this
  exact this
theorem app_list (a b : ByteArray) : (a ++ b).data.toList = a.data.toList ++ b.data.toList := by rw [ByteArray.data_append, Array.toList_append]
theorem IsRec.last (h1 : 1 ≤ r.size) (h2 : r.size ≤ 500) : IsRec (log ++ lineS n r) log.size n r := by
  refine ⟨h1, h2, [], ?_⟩
  rw [app_list, List.drop_left' (szl _), List.append_nil]
  rfl
theorem Fin.grow (f : Fin log rs log.size) (h1 : 1 ≤ r.size) (h2 : r.size ≤ 500) : Fin (log ++ lineS rs.length r) (rs ++ [r]) (log ++ lineS rs.length r).size := by
  apply Fin.of_end
  rw [ByteArray.size_append]
  exact (f.ch.mono (app_list log (lineS rs.length r))).snoc (IsRec.last h1 h2)
theorem Fin.torn (f : Fin log rs log.size) (h1 : 1 ≤ r.size) (h2 : r.size ≤ 500) {k : Nat} (hk : k < (lineS rs.length r).size) : Fin ((log ++ lineS rs.length r).extract 0 (log.size + k)) rs log.size := by
  have hsz : ((log ++ lineS rs.length r).extract 0 (log.size + k)).size = log.size + k := ext_size (by rw [ByteArray.size_append]; omega)
  have e : ((log ++ lineS rs.length r).extract 0 (log.size + k)).data.toList = (log ++ lineS rs.length r).data.toList.take (log.size + k) := by
    rw [ByteArray.data_extract, Array.toList_extract, List.extract_eq_take_drop, List.drop_zero, Nat.sub_zero]
  refine ⟨f.ch.mono (t := (lineS rs.length r).data.toList.take k) ?_, fun r' hr => ?_⟩
  · rw [e, app_list, List.take_append, szl, List.take_of_length_le (by rw [szl]; omega)]
    simp
  · have hf := hr.fits
    have hm := hr.mono (b := log ++ lineS rs.length r) (t := (log ++ lineS rs.length r).data.toList.drop (log.size + k)) (by rw [e, List.take_append_drop])
    obtain rfl := hm.uniq (IsRec.last h1 h2)
    omega
end
end Go.Abs.E

set_option linter.unusedSimpArgs false
set_option linter.unusedVariables false
namespace Go.Abs.E
open Go Go.Abs Go.Proofs Go.RowKit
attribute [local irreducible] IntKind.wrap
@[reducible] def encU (n : Int) : List PV := [.lit (.int .u8 n)]
@[reducible] def rdB (bs : List Int) (p : Int) : Blk := .box [.p (.sl (bs.map encU)), .p (.lit (.int .i64 p))]
theorem xor_nn {x y : Int} (h1 : 0 ≤ x) (h2 : x < 1099511627776) (h3 : 0 ≤ y) (h4 : y < 1099511627776) : 0 ≤ IntKind.i64.wrap (((BitVec.ofInt IntKind.i64.bits x ^^^ BitVec.ofInt IntKind.i64.bits y).toNat : Nat) : Int) := by
  obtain ⟨a, rfl⟩ := Int.eq_ofNat_of_zero_le h1
  obtain ⟨b, rfl⟩ := Int.eq_ofNat_of_zero_le h3
  have ha : a < 2 ^ 40 := by omega
  have hb : b < 2 ^ 40 := by omega
  have hx := Nat.xor_lt_two_pow ha hb
  have e : (BitVec.ofInt IntKind.i64.bits (a : Int) ^^^ BitVec.ofInt IntKind.i64.bits (b : Int)).toNat = a ^^^ b := by
    rw [BitVec.toNat_xor, BitVec.toNat_ofInt, BitVec.toNat_ofInt]
    have e1 : ((a : Int) % ((2 ^ IntKind.i64.bits : Nat) : Int)).toNat = a := by
      show ((a : Int) % ((2 ^ 64 : Nat) : Int)).toNat = a
      omega
    have e2 : ((b : Int) % ((2 ^ IntKind.i64.bits : Nat) : Int)).toNat = b := by
      show ((b : Int) % ((2 ^ 64 : Nat) : Int)).toNat = b
      omega
    rw [e1, e2]
  rw [e, wrap_in _ (by omega) (by omega)]
  omega
set_option maxHeartbeats 8000000 in
set_option maxRecDepth 100000 in
theorem pick_ok (bs : List Int) (p n : Int) (hb : ∀ x ∈ bs, 0 ≤ x ∧ x ≤ 255) (hl : bs.length ≤ 2000) (h0 : 0 ≤ p) (h1 : p < 1000000) (hn : 1 ≤ n) (hn2 : n < 1000000) :
    ∃ r out, (∃ v : Int, 0 ≤ v ∧ v < n ∧ r = vint v ∧ out = [rdB bs (p + 1)]) ∧ Good Tryd.prog 41 [.one (.hp 0 0 0), vint n] [rdB bs p] r out := by
  refine good_v noM Tryd.func41 rfl rfl ?_
  have w1 : IntKind.i64.wrap (p + 1) = p + 1 := wrap_in _ (by omega) (by omega)
  have w2 : IntKind.i64.wrap (p + 1 - 1) = p := by rw [wrap_in _ (by omega) (by omega)]; omega
  conv => whnf
  rw [w1]
  split
  · rename_i h; have := of_decide_eq_true h; omega
  rename_i h
  conv => whnf
  split
  · rename_i h2
    conv => whnf
    refine ⟨trivial, ?_⟩
    conv => whnf
    exact ⟨0, by omega, by omega, rfl, rfl⟩
  rename_i h2
  have h2' : ((bs.map encU).length : Int) ≠ 0 := by simpa using h2
  rw [List.length_map] at h2'
  conv => whnf
  rw [w2]
  split
  · rename_i h3
    have h3' := of_decide_eq_true h3
    rw [List.length_map] at h3'
    conv => whnf
    refine ⟨by omega, by rw [List.length_map]; omega, _, getD_map encU bs _ 0 (by omega), ?_⟩
    conv => whnf
    refine ⟨trivial, ?_⟩
    conv => whnf
    have hbv := hb (bs.getD p.toNat 0) (by rw [List.getD_eq_getElem?_getD, List.getElem?_eq_getElem (by omega)]; exact List.getElem_mem _)
    rw [abin_rem (a := IntKind.i64.wrap (bs.getD p.toNat 0)) (b := n) rfl rfl (by omega)]
    conv => whnf
    refine ⟨trivial, ?_⟩
    conv => whnf
    rw [wrap_in _ (by omega) (by omega), Int.tmod_eq_emod_of_nonneg (by omega)]
    exact ⟨_, Int.emod_nonneg _ (by omega), Int.emod_lt_of_pos _ (by omega), rfl, rfl⟩
  rename_i h3
  have h3' := of_decide_eq_false h3
  rw [List.length_map] at h3'
  conv => whnf
  refine VDraw.go ⟨_, [0, 1, 3, 7, 0, 0, 32, 96, 224, 480, 1008, 2047, 4095, 8191, 16383, 0, 32768, 98304, 229376, 0, 524288, 1572864, 0, 4194304, 12582912, 29360128, 62914560, 133693440, 268402688, 536838144, 1073709056, 2147450880, 4294967295, 0, 8589934592, 34359738367, 0, 0, 137438953472, 412316860416, 962072674304, 2061584302080, 4329327034368, 8727373545472, 17592186044415, 35184372088831], [13, 30], []⟩ rfl rfl (by decide +kernel) ?_
  conv => whnf
  have hL : ((bs.map encU).length : Int) = bs.length := by rw [List.length_map]
  have hr1 : ∀ q : Int, 0 ≤ q → 0 ≤ q.tmod ((bs.map encU).length : Int) ∧ q.tmod ((bs.map encU).length : Int) < ((bs.map encU).length : Int) := fun q hq => by
    rw [Int.tmod_eq_emod_of_nonneg hq]; exact ⟨Int.emod_nonneg _ (by omega), Int.emod_lt_of_pos _ (by omega)⟩
  have hbv : ∀ q : Int, 0 ≤ q → q < bs.length → 0 ≤ bs.getD q.toNat 0 ∧ bs.getD q.toNat 0 ≤ 255 := fun q h1 h2 => hb _ (by rw [List.getD_eq_getElem?_getD, List.getElem?_eq_getElem (by omega)]; exact List.getElem_mem _)
  rw [abin_rem (a := p) (b := ((bs.map encU).length : Int)) rfl rfl (by omega)]
  conv => whnf
  have ha := hr1 p h0
  generalize p.tmod ((bs.map encU).length : Int) = q1 at ha ⊢
  have hq1 := hbv q1 (by omega) (by omega)
  refine ⟨by omega, by omega, _, getD_map encU bs _ 0 (by omega), ?_⟩
  conv => whnf
  refine ⟨trivial, ?_⟩
  conv => whnf
  have w7 : IntKind.i64.wrap (IntKind.i64.wrap (p * 7) + 3) = p * 7 + 3 := by rw [wrap_in (p * 7) (by omega) (by omega), wrap_in _ (by omega) (by omega)]
  rw [abin_rem (a := IntKind.i64.wrap (IntKind.i64.wrap (p * 7) + 3)) (b := ((bs.map encU).length : Int)) rfl rfl (by omega)]
  rw [w7]
  conv => whnf
  have ha2 := hr1 (p * 7 + 3) (by omega)
  generalize (p * 7 + 3).tmod ((bs.map encU).length : Int) = q2 at ha2 ⊢
  have hq2 := hbv q2 (by omega) (by omega)
  refine ⟨by omega, by omega, _, getD_map encU bs _ 0 (by omega), ?_⟩
  conv => whnf
  refine ⟨trivial, ?_⟩
  conv => whnf
  rw [abin_quo (a := p) (b := ((bs.map encU).length : Int)) rfl rfl (by omega)]
  conv => whnf
  have hq3 : 0 ≤ p.tdiv ((bs.map encU).length : Int) ∧ p.tdiv ((bs.map encU).length : Int) ≤ p := by
    rw [Int.tdiv_eq_ediv_of_nonneg h0]
    exact ⟨Int.ediv_nonneg h0 (by omega), Int.ediv_le_self _ h0⟩
  generalize p.tdiv ((bs.map encU).length : Int) = q3 at hq3 ⊢
  rw [abin_rem (k := IntKind.i64) (b := n) rfl rfl (by omega)]
  conv => whnf
  refine ⟨trivial, ?_⟩
  conv => whnf
  refine ⟨_, ?_, ?_, rfl, rfl⟩
  · refine Int.tmod_nonneg _ ?_
    have w : ∀ x : Int, 0 ≤ x → x < 1099511627776 → IntKind.i64.wrap x = x := fun x h1 h2 => wrap_in _ (by omega) (by omega)
    simp (disch := omega) only [w]
    have hX0 : 0 ≤ bs.getD q1.toNat 0 * 131 + bs.getD q2.toNat 0 * 1117 + p * 29 + q3 * 53 := by omega
    have hX1 : bs.getD q1.toNat 0 * 131 + bs.getD q2.toNat 0 * 1117 + p * 29 + q3 * 53 < 1099511627776 := by omega
    generalize bs.getD q1.toNat 0 * 131 + bs.getD q2.toNat 0 * 1117 + p * 29 + q3 * 53 = X at hX0 hX1 ⊢
    have hd : IntKind.i64.wrap (X.tdiv 64) = X / 64 := by rw [Int.tdiv_eq_ediv_of_nonneg hX0, wrap_in _ (by omega) (by omega)]
    refine xor_nn hX0 hX1 ?_ ?_
    · rw [hd]; omega
    · rw [hd]; omega
  · exact Int.tmod_lt_of_pos _ (by omega)
structure Bytes (bs : List Int) : Prop where
  rng : ∀ x ∈ bs, 0 ≤ x ∧ x ≤ 255
  len : bs.length ≤ 2000
set_option maxHeartbeats 8000000 in
set_option maxRecDepth 100000 in
theorem l1Open_ok (bs : List Int) (hb : ∀ x ∈ bs, 0 ≤ x ∧ x ≤ 255) (hl : bs.length ≤ 9223372036854775807) :
    ∃ r out, (∃ bs', Bytes bs' ∧ r = .one (.hp 0 0 0) ∧ out = [rdB bs' 0]) ∧ Good Tryd.prog 40 [.one (.p (.sl (bs.map encU)))] [] r out := by
  refine good_v noM Tryd.func40 rfl rfl ?_
  conv => whnf
  split
  · rename_i h
    have h' := of_decide_eq_true h
    rw [List.length_map] at h'
    conv => whnf
    refine ⟨⟨by decide, by decide, by rw [List.length_map]; omega, by decide +kernel, fun x hx => by obtain ⟨y, _, rfl⟩ := List.mem_map.1 hx; rw [show Tryd.prog.cellsOf 5 = 1 by decide +kernel]; rfl⟩, ?_⟩
    conv => whnf
    refine ⟨trivial, ?_⟩
    conv => whnf
    refine ⟨bs.take 2000, ⟨fun x hx => hb x (List.mem_of_mem_take hx), by rw [List.length_take]; omega⟩, rfl, ?_⟩
    show [Blk.box [.p (.sl (List.take 2000 (List.drop 0 (bs.map encU)))), .p (.lit (.int .i64 0))]] = _
    rw [List.drop_zero, ← List.map_take]
  · rename_i h
    have h' := of_decide_eq_false h
    rw [List.length_map] at h'
    conv => whnf
    refine ⟨trivial, ?_⟩
    conv => whnf
    exact ⟨bs, ⟨hb, by omega⟩, rfl, rfl⟩
@[reducible] def encT (s : ByteArray) : List PV := [.lit (.string s)]
set_option maxHeartbeats 16000000 in
set_option maxRecDepth 100000 in
theorem of_ok (bs : List Int) (p : Int) (L : List ByteArray) (hb : Bytes bs) (h0 : 0 ≤ p) (h1 : p < 1000000) (hn : 1 ≤ L.length) (hn2 : L.length < 1000) :
    ∃ r out, (∃ s, s ∈ L ∧ r = vstr s ∧ out = [rdB bs (p + 1)]) ∧ Good Tryd.prog 54 [.one (.hp 0 0 0), .one (.p (.sl (L.map encT)))] [rdB bs p] r out := by
  have hm : (L.map encT).length = L.length := by rw [List.length_map]
  refine good_v noM Tryd.func54 rfl rfl ?_
  conv => whnf
  rw [hm]
  obtain ⟨_, _, ⟨v, hv0, hv1, rfl, rfl⟩, hg⟩ := pick_ok bs p L.length hb.rng hb.len h0 h1 (by omega) (by omega)
  refine .mk _ _ false Tryd.call41 hg (Nat.le_of_ble_eq_true rfl) (.inl rfl) ?_
  conv => whnf
  refine ⟨by omega, by omega, _, getD_map encT L v.toNat ByteArray.empty (by omega), ?_⟩
  conv => whnf
  refine ⟨trivial, ?_⟩
  conv => whnf
  exact ⟨L.getD v.toNat ByteArray.empty, by rw [List.getD_eq_getElem?_getD, List.getElem?_eq_getElem (by omega)]; exact List.getElem_mem _, rfl, rfl⟩
set_option maxHeartbeats 16000000 in
set_option maxRecDepth 100000 in
theorem l1Many_ok (s : ByteArray) (n : Int) (hn : n ≤ 1000) (hs : s.size ≤ 100) : ∃ r out, (∃ s', r = vstr s' ∧ s'.size ≤ 100000 ∧ out = []) ∧ Good Tryd.prog 42 [vstr s, vint n] [] r out := by
  refine good_v noM Tryd.func42 rfl rfl ?_
  conv => whnf
  refine VLoop.enter [0, 1, 5] ?_
  conv => whnf
  refine VLoop.ind3 (n0 := 0) (α := ByteArray) (β := Int) (γ := ByteArray) noM [0, 1, 5] (fun s n o => ⟨20, 0, [(0, vstr s), (1, vint n), (5, vstr o)], []⟩)
    (fun s n o => n ≤ 1000 ∧ o.size + s.size * n.toNat ≤ 100000) (fun _ n _ => n.toNat) ?_ s n _ ⟨hn, ?_⟩
  rotate_left
  · show 0 + s.size * n.toNat ≤ _
    have := Nat.mul_le_mul hs (show n.toNat ≤ 1000 by omega)
    omega
  rintro s n o ⟨hn, hs⟩
  conv => whnf
  split
  · rename_i q
    have q' := of_decide_eq_true q
    obtain ⟨m, rfl⟩ := Int.eq_ofNat_of_zero_le (show 0 ≤ n by omega)
    rw [Int.toNat_natCast] at hs
    have hm0 : 1 ≤ m := by omega
    have hw : IntKind.i64.wrap ((m : Int).tdiv 2) = ((m / 2 : Nat) : Int) := by rw [Int.tdiv_eq_ediv_of_nonneg (by omega), wi _ (by omega) (by omega)]; omega
    have hr : ((m : Int).tmod 2) = ((m % 2 : Nat) : Int) := by rw [Int.tmod_eq_emod_of_nonneg (by omega)]; omega
    have hss : s.size ≤ s.size * m := Nat.le_mul_of_pos_right _ hm0
    have hdm := Nat.div_add_mod m 2
    have key : (s ++ s).size * (m / 2) + s.size * (m % 2) = s.size * m := by
      rw [ByteArray.size_append]
      calc (s.size + s.size) * (m / 2) + s.size * (m % 2) = s.size * (2 * (m / 2) + m % 2) := by rw [Nat.mul_add, ← Nat.mul_assoc, Nat.mul_two]
        _ = s.size * m := by rw [hdm]
    have k2 : (m % 2 = 0 ∨ m % 2 = 1) := by omega
    conv => whnf
    split
    · rename_i q1
      rw [hr] at q1
      simp only [beq_iff_eq] at q1
      have q1' : m % 2 = 1 := by omega
      rw [q1', Nat.mul_one] at key
      conv => whnf
      rw [abin_cat (a := _) (b := _) rfl rfl (by omega)]
      conv => whnf
      rw [abin_cat (a := _) (b := _) rfl rfl (by omega)]
      conv => whnf
      refine ⟨_, _, _, rfl, rfl, ⟨by rw [hw]; omega, ?_⟩, by rw [hw]; omega⟩
      rw [hw, Int.toNat_natCast, ByteArray.size_append]; omega
    · rename_i q1
      rw [hr] at q1
      simp only [beq_eq_false_iff_ne] at q1
      have q1' : m % 2 = 0 := by omega
      rw [q1', Nat.mul_zero] at key
      conv => whnf
      rw [abin_cat (a := _) (b := _) rfl rfl (by omega)]
      conv => whnf
      refine ⟨_, _, _, rfl, rfl, ⟨by rw [hw]; omega, ?_⟩, by rw [hw]; omega⟩
      rw [hw, Int.toNat_natCast]; omega
  · conv => whnf
    refine ⟨trivial, ?_⟩
    conv => whnf
    exact ⟨_, rfl, by omega, rfl⟩
end Go.Abs.E

set_option linter.unusedSimpArgs false
set_option linter.unusedVariables false
namespace Go.Abs.E
open Go Go.Abs Go.Proofs Go.RowKit
attribute [local irreducible] IntKind.wrap
attribute [local irreducible] lineS hashS
theorem bytesEls_len (s : ByteArray) : (bytesEls s).length = s.size := by simp [bytesEls]
theorem bytesEls_isByte (s : ByteArray) : ∀ el ∈ bytesEls s, isByte el := fun el h => by
  obtain ⟨b, _, rfl⟩ := List.mem_map.1 h
  exact ⟨_, rfl⟩
theorem isByte_set {l : List (List PV)} {i : Nat} {n : Int} (h : ∀ el ∈ l, isByte el) : ∀ el ∈ l.set i [.lit (.int .u8 n)], isByte el := fun el hel => by
  rcases List.mem_or_eq_of_mem_set hel with q | rfl
  · exact h el q
  · exact ⟨n, rfl⟩
theorem bytesEls_at (s : ByteArray) (i : Nat) (h : i < s.size) : (bytesEls s).getD i [] = [.lit (.int .u8 (s.data.toList.getD i 0).toNat)] := by
  unfold bytesEls
  rw [List.getD_eq_getElem?_getD, List.getElem?_map, List.getD_eq_getElem?_getD, List.getElem?_eq_getElem (by simpa using h)]
  rfl
set_option maxHeartbeats 16000000 in
set_option maxRecDepth 100000 in
theorem l14Spoil_ok (k m : Int) (s : ByteArray) (b : Bool) (hs : 1 ≤ s.size) (hs2 : s.size ≤ 100000) (h0 : 0 ≤ m) (h1 : m ≤ 100000000) : ∃ r out, (∃ s' : ByteArray, r = .agg [.p (.lit (.int .i64 k)), .p (.lit (.string s')), .p (.lit (.bool true))] ∧ s'.size = s.size ∧ out = []) ∧ Good Tryd.prog 53 [.agg [.p (.lit (.int .i64 k)), .p (.lit (.string s)), .p (.lit (.bool b))], vint m] [] r out := by
  refine good_v noM Tryd.func53 rfl rfl ?_
  conv => whnf
  refine ⟨trivial, ?_⟩
  conv => whnf
  rw [abin_rem (k := IntKind.i64) (b := (s.size : Int)) rfl rfl (by omega)]
  conv => whnf
  obtain ⟨a, ha⟩ : ∃ a, a = (m.tmod 4096).tmod (s.size : Int) := ⟨_, rfl⟩
  rw [← ha]
  have ha0 : 0 ≤ a ∧ a < s.size := by rw [ha]; exact ⟨Int.tmod_nonneg _ (Int.tmod_nonneg _ h0), Int.tmod_lt_of_pos _ (by omega)⟩
  have hlen := bytesEls_len s
  refine ⟨ha0.1, ha0.2, by rw [hlen]; omega, ?_⟩
  conv => whnf
  refine ⟨_, bytesEls_at s (0 + a.toNat) (by omega), ?_⟩
  conv => whnf
  refine ⟨trivial, ?_⟩
  conv => whnf
  refine ⟨ha0.1, ha0.2, by rw [hlen]; omega, ?_⟩
  conv => whnf
  refine ⟨_, bytesEls_at s (0 + a.toNat) (by omega), by rw [hlen]; omega, ?_⟩
  conv => whnf
  refine ⟨⟨by rw [List.length_set, hlen]; omega, fun el hel => ?_⟩, ?_⟩
  · exact isByte_set (bytesEls_isByte s) el (List.mem_of_mem_drop (List.mem_of_mem_take hel))
  conv => whnf
  refine ⟨⟨⟨by decide +kernel, Nat.le_of_ble_eq_true rfl⟩, trivial⟩, ?_⟩
  conv => whnf
  refine ⟨_, rfl, ?_, rfl⟩
  rw [elsBytes_size, List.length_take, List.length_drop, List.length_set, hlen]
  omega
set_option maxHeartbeats 16000000 in
set_option maxRecDepth 100000 in
theorem l15Record_ok (bs : List Int) (p : Int) (hb : Bytes bs) (h0 : 0 ≤ p) (h1 : p < 900000) : ∃ r out, (∃ s : ByteArray, s.size ≤ 100000 ∧ r = vstr s ∧ out = [rdB bs (p + 1)]) ∧ Good Tryd.prog 43 [.one (.hp 0 0 0)] [rdB bs p] r out := by
  refine good_v noM Tryd.func43 rfl rfl ?_
  conv => whnf
  obtain ⟨_, _, ⟨s1, rfl, hs1, rfl⟩, hg⟩ := l1Many_ok ⟨#[114]⟩ 500 (by decide) (by decide)
  refine .mk _ _ false Tryd.call42 hg (Nat.le_of_ble_eq_true rfl) (.inl rfl) ?_
  conv => whnf
  obtain ⟨_, _, ⟨s2, rfl, hs2, rfl⟩, hg2⟩ := l1Many_ok ⟨#[114]⟩ 501 (by decide) (by decide)
  refine .mk _ _ false Tryd.call42 hg2 (Nat.le_of_ble_eq_true rfl) (.inl rfl) ?_
  conv => whnf
  refine ⟨Nat.le_refl 8, ?_⟩
  conv => whnf
  obtain ⟨_, _, ⟨s, hs, rfl, rfl⟩, hg3⟩ := of_ok bs p [⟨#[120]⟩, ⟨#[97, 32, 114, 101, 99, 111, 114, 100]⟩, ⟨#[48, 32, 97, 58, 116, 101, 120, 116]⟩, ⟨#[49, 32, 98, 58]⟩, ⟨#[10]⟩, s1, s2, ⟨#[]⟩] hb (by omega) (by omega) (by show 1 ≤ 8; omega) (by show 8 < _; omega)
  have hsz : s.size ≤ 100000 := by
    simp only [List.mem_cons, List.not_mem_nil, or_false] at hs
    rcases hs with rfl | rfl | rfl | rfl | rfl | rfl | rfl | rfl
    · decide
    · decide
    · decide
    · decide
    · decide
    · exact hs1
    · exact hs2
    · decide
  refine .mk _ _ true Tryd.call54 hg3 (Nat.le_of_ble_eq_true rfl) (fun b hb => by cases List.mem_singleton.1 hb; exact Nat.le_of_ble_eq_true rfl) ?_
  conv => whnf
  refine ⟨trivial, ?_⟩
  conv => whnf
  exact ⟨s, hsz, rfl, rfl⟩
end Go.Abs.E

set_option linter.unusedSimpArgs false
set_option linter.unusedVariables false
namespace Go.Abs.E
open Go Go.Abs Go.Proofs Go.RowKit
attribute [local irreducible] IntKind.wrap
attribute [local irreducible] lineS hashS
set_option maxHeartbeats 16000000 in
set_option maxRecDepth 100000 in
theorem l15Log_ok (bs : List Int) (p : Int) (hb : Bytes bs) (h0 : 0 ≤ p) (h1 : p < 800000) : ∃ r out, (∃ (s : ByteArray) (q : Int), s.size ≤ 9000 ∧ p ≤ q ∧ q ≤ p + 10 ∧ r = vstr s ∧ out = [rdB bs q]) ∧ Good Tryd.prog 52 [.one (.hp 0 0 0)] [rdB bs p] r out := by
  refine good_v noM Tryd.func52 rfl rfl ?_
  conv => whnf
  obtain ⟨_, _, ⟨v, hv0, hv1, rfl, rfl⟩, hg⟩ := pick_ok bs p 6 hb.rng hb.len h0 (by omega) (by omega) (by omega)
  refine .mk _ _ false Tryd.call41 hg (Nat.le_of_ble_eq_true rfl) (.inl rfl) ?_
  conv => whnf
  refine VLoop.enter [0, 3, 4] ?_
  conv => whnf
  refine VLoop.ind3 (n0 := 1) (α := ByteArray) (β := Int) (γ := Int) noM [0, 3, 4] (fun s i q => ⟨23, 1, [(0, .one (.hp 0 0 0)), (3, vstr s), (4, vint i)], [(0, some (rdB bs q))]⟩)
    (fun s i q => s.size ≤ 9000 ∧ 0 ≤ i ∧ i ≤ v ∧ q = p + 1 + (v - i)) (fun _ i _ => i.toNat) ?_ ⟨#[]⟩ v (p + 1) ⟨Nat.zero_le _, hv0, by omega, by omega⟩
  rintro s i q ⟨hs, hi0, hi1, hq⟩
  conv => whnf
  split
  · rename_i k
    have k' := of_decide_eq_true k
    have hwi : IntKind.i64.wrap (i - 1) = i - 1 := wrap_in _ (by omega) (by omega)
    conv => whnf
    obtain ⟨_, _, ⟨rc, hrc, rfl, rfl⟩, hg2⟩ := l15Record_ok bs q hb (by omega) (by omega)
    refine .mk _ _ false Tryd.call43 hg2 (Nat.le_of_ble_eq_true rfl) (.inl rfl) ?_
    conv => whnf
    obtain ⟨rs, at_, f⟩ := fin_ex s
    refine .mk _ _ false Tryd.call15 (specAdd_ok s (by omega) rs at_ f rc) (Nat.le_of_ble_eq_true rfl) (.inl rfl) ?_
    conv => whnf
    cases ho : addO s rs.length at_ rc with
    | none =>
      conv => whnf
      refine ⟨_, _, _, rfl, rfl, ⟨hs, by rw [hwi]; omega, by rw [hwi]; omega, by rw [hwi]; omega⟩, by rw [hwi]; omega⟩
    | some l =>
      have hl := addO_some ho
      conv => whnf
      refine ⟨_, _, _, rfl, rfl, ⟨hl.2.1, by rw [hwi]; omega, by rw [hwi]; omega, by rw [hwi]; omega⟩, by rw [hwi]; omega⟩
  · rename_i k
    have k' := of_decide_eq_false k
    conv => whnf
    refine ⟨trivial, ?_⟩
    conv => whnf
    exact ⟨s, q, hs, by omega, by omega, rfl, rfl⟩
set_option maxHeartbeats 16000000 in
set_option maxRecDepth 100000 in
theorem l15AnyLog_ok (bs : List Int) (p : Int) (hb : Bytes bs) (h0 : 0 ≤ p) (h1 : p < 700000) : ∃ r out, (∃ (s : ByteArray) (q : Int), s.size ≤ 9000 ∧ p ≤ q ∧ q ≤ p + 20 ∧ r = vstr s ∧ out = [rdB bs q]) ∧ Good Tryd.prog 39 [.one (.hp 0 0 0)] [rdB bs p] r out := by
  refine good_v noM Tryd.func39 rfl rfl ?_
  conv => whnf
  obtain ⟨_, _, ⟨s, q, hs, hq0, hq1, rfl, rfl⟩, hg⟩ := l15Log_ok bs p hb h0 (by omega)
  refine .mk _ _ false Tryd.call52 hg (Nat.le_of_ble_eq_true rfl) (.inl rfl) ?_
  conv => whnf
  obtain ⟨_, _, ⟨v, hv0, hv1, rfl, rfl⟩, hg2⟩ := pick_ok bs q 5 hb.rng hb.len (by omega) (by omega) (by omega) (by omega)
  refine .mk _ _ false Tryd.call41 hg2 (Nat.le_of_ble_eq_true rfl) (.inl rfl) ?_
  conv => whnf
  have hv : v = 0 ∨ v = 1 ∨ 2 ≤ v := by omega
  rcases hv with rfl | rfl | hv2
  · conv => whnf
    have hw2 : IntKind.i64.wrap ((s.size : Int) + 1) = (s.size : Int) + 1 := wrap_in _ (by omega) (by omega)
    rw [hw2]
    obtain ⟨_, _, ⟨v4, hv40, hv41, rfl, rfl⟩, hg4⟩ := pick_ok bs (q + 1) ((s.size : Int) + 1) hb.rng hb.len (by omega) (by omega) (by omega) (by omega)
    refine .mk _ _ false Tryd.call41 hg4 (Nat.le_of_ble_eq_true rfl) (.inl rfl) ?_
    conv => whnf
    refine ⟨⟨by omega, by omega, by omega⟩, ?_⟩
    conv => whnf
    refine ⟨trivial, ?_⟩
    conv => whnf
    refine ⟨_, q + 1 + 1, ?_, by omega, by omega, rfl, rfl⟩
    show (s.extract 0 v4.toNat).size ≤ _
    rw [ByteArray.size_extract]; omega
  · conv => whnf
    split
    · rename_i k
      have hne : 1 ≤ s.size := by
        rcases Nat.eq_zero_or_pos s.size with h | h
        · exfalso
          have : s = ⟨#[]⟩ := by
            apply ByteArray.ext
            exact Array.eq_empty_of_size_eq_zero h
          rw [this, str_t rfl] at k
          cases k
        · exact h
      conv => whnf
      obtain ⟨_, _, ⟨v4, hv40, hv41, rfl, rfl⟩, hg4⟩ := pick_ok bs (q + 1) 256 hb.rng hb.len (by omega) (by omega) (by omega) (by omega)
      refine .mk _ _ false Tryd.call41 hg4 (Nat.le_of_ble_eq_true rfl) (.inl rfl) ?_
      conv => whnf
      obtain ⟨_, _, ⟨v5, hv50, hv51, rfl, rfl⟩, hg5⟩ := pick_ok bs (q + 1 + 1) 256 hb.rng hb.len (by omega) (by omega) (by omega) (by omega)
      refine .mk _ _ false Tryd.call41 hg5 (Nat.le_of_ble_eq_true rfl) (.inl rfl) ?_
      conv => whnf
      have hw2 : IntKind.i64.wrap (v4 * 256) = v4 * 256 := wrap_in _ (by omega) (by omega)
      have hw3 : IntKind.i64.wrap (v4 * 256 + v5) = v4 * 256 + v5 := wrap_in _ (by omega) (by omega)
      rw [hw2, hw3]
      obtain ⟨_, _, ⟨s', rfl, hs', rfl⟩, hg6⟩ := l14Spoil_ok 0 (v4 * 256 + v5) s false hne (by omega) (by omega) (by omega)
      refine .mk _ _ false Tryd.call53 hg6 (Nat.le_of_ble_eq_true rfl) (.inl rfl) ?_
      conv => whnf
      refine ⟨trivial, ?_⟩
      conv => whnf
      exact ⟨s', q + 1 + 1 + 1, by omega, by omega, by omega, rfl, rfl⟩
    · conv => whnf
      refine ⟨trivial, ?_⟩
      conv => whnf
      exact ⟨s, q + 1, hs, by omega, by omega, rfl, rfl⟩
  · rw [show (v == 0) = false from beq_eq_false_iff_ne.2 (by omega)]
    conv => whnf
    rw [show (v == 1) = false from beq_eq_false_iff_ne.2 (by omega)]
    conv => whnf
    refine ⟨trivial, ?_⟩
    conv => whnf
    exact ⟨s, q + 1, hs, by omega, by omega, rfl, rfl⟩
set_option maxHeartbeats 16000000 in
set_option maxRecDepth 100000 in
theorem drawLog_ok (bs : List Int) (hb : ∀ x ∈ bs, 0 ≤ x ∧ x ≤ 255) (hl : bs.length ≤ 9223372036854775807) : ∃ r out, (∃ s : ByteArray, s.size ≤ 9000 ∧ r = vstr s ∧ out = []) ∧ Good Tryd.prog 24 [.one (.p (.sl (bs.map encU)))] [] r out := by
  refine good_v noM Tryd.func24 rfl rfl ?_
  conv => whnf
  obtain ⟨_, _, ⟨bs', hb', rfl, rfl⟩, hg⟩ := l1Open_ok bs hb hl
  refine .mk _ _ false Tryd.call40 hg (Nat.le_of_ble_eq_true rfl) (.inl rfl) ?_
  conv => whnf
  obtain ⟨_, _, ⟨s, q, hs, hq0, hq1, rfl, rfl⟩, hg2⟩ := l15AnyLog_ok bs' 0 hb' (by omega) (by omega)
  refine .mk _ _ false Tryd.call39 hg2 (Nat.le_of_ble_eq_true rfl) (.inl rfl) ?_
  conv => whnf
  refine ⟨trivial, ?_⟩
  conv => whnf
  exact ⟨s, hs, rfl, rfl⟩
set_option maxHeartbeats 16000000 in
set_option maxRecDepth 100000 in
theorem drawAdd_ok (bs : List Int) (hb : ∀ x ∈ bs, 0 ≤ x ∧ x ≤ 255) (hl : bs.length ≤ 9223372036854775807) : ∃ r out, (∃ s rc : ByteArray, s.size ≤ 9000 ∧ rc.size ≤ 100000 ∧ r = .tup [vstr s, vstr rc] ∧ out = []) ∧ Good Tryd.prog 27 [.one (.p (.sl (bs.map encU)))] [] r out := by
  refine good_v noM Tryd.func27 rfl rfl ?_
  conv => whnf
  obtain ⟨_, _, ⟨bs', hb', rfl, rfl⟩, hg⟩ := l1Open_ok bs hb hl
  refine .mk _ _ false Tryd.call40 hg (Nat.le_of_ble_eq_true rfl) (.inl rfl) ?_
  conv => whnf
  obtain ⟨_, _, ⟨v, hv0, hv1, rfl, rfl⟩, hg2⟩ := pick_ok bs' 0 16 hb'.rng hb'.len (by omega) (by omega) (by omega) (by omega)
  refine .mk _ _ false Tryd.call41 hg2 (Nat.le_of_ble_eq_true rfl) (.inl rfl) ?_
  conv => whnf
  split
  · conv => whnf
    refine VLoop.enter [4, 5, 6] ?_
    conv => whnf
    refine VLoop.ind2 (n0 := 1) (α := ByteArray) (β := Int) noM [4, 5, 6] (fun s i => ⟨33, 0, [(4, .one (.hp 0 0 0)), (5, vstr s), (6, vint i)], [(0, some (rdB bs' (0 + 1)))]⟩)
      (fun s i => s.size ≤ 9000 ∧ 0 ≤ i ∧ i ≤ 17) (fun _ i => (17 - i).toNat) ?_ ⟨#[]⟩ 0 ⟨Nat.zero_le _, by omega, by omega⟩
    rintro s i ⟨hs, hi0, hi1⟩
    conv => whnf
    split
    · rename_i k
      have k' := of_decide_eq_true k
      have hwi : IntKind.i64.wrap (i + 1) = i + 1 := wrap_in _ (by omega) (by omega)
      conv => whnf
      obtain ⟨_, _, ⟨rc, rfl, hrc, rfl⟩, hg3⟩ := l1Many_ok ⟨#[108]⟩ 500 (by decide) (by decide)
      refine .mk _ _ false Tryd.call42 hg3 (Nat.le_of_ble_eq_true rfl) (.inl rfl) ?_
      conv => whnf
      obtain ⟨rs, at_, f⟩ := fin_ex s
      refine .mk _ _ false Tryd.call15 (specAdd_ok s (by omega) rs at_ f rc) (Nat.le_of_ble_eq_true rfl) (.inl rfl) ?_
      conv => whnf
      have hz : ((addO s rs.length at_ rc).getD ⟨#[]⟩).size ≤ 9000 := by
        cases ho : addO s rs.length at_ rc with
        | none => exact Nat.zero_le _
        | some l => exact (addO_some ho).2.1
      refine ⟨_, _, rfl, rfl, ⟨hz, by rw [hwi]; omega, by rw [hwi]; omega⟩, by rw [hwi]; omega⟩
    · rename_i k
      conv => whnf
      obtain ⟨_, _, ⟨v4, hv40, hv41, rfl, rfl⟩, hg4⟩ := pick_ok bs' (0 + 1) 256 hb'.rng hb'.len (by omega) (by omega) (by omega) (by omega)
      refine .mk _ _ false Tryd.call41 hg4 (Nat.le_of_ble_eq_true rfl) (.inl rfl) ?_
      conv => whnf
      obtain ⟨_, _, ⟨v5, hv50, hv51, rfl, rfl⟩, hg5⟩ := pick_ok bs' (0 + 1 + 1) 140 hb'.rng hb'.len (by omega) (by omega) (by omega) (by omega)
      refine .mk _ _ false Tryd.call41 hg5 (Nat.le_of_ble_eq_true rfl) (.inl rfl) ?_
      conv => whnf
      have hw3 : IntKind.i64.wrap (v4 + v5) = v4 + v5 := wrap_in _ (by omega) (by omega)
      rw [hw3]
      obtain ⟨_, _, ⟨rc, rfl, hrc, rfl⟩, hg6⟩ := l1Many_ok ⟨#[109]⟩ (v4 + v5) (by omega) (by decide)
      refine .mk _ _ false Tryd.call42 hg6 (Nat.le_of_ble_eq_true rfl) (.inl rfl) ?_
      conv => whnf
      refine ⟨trivial, ?_⟩
      conv => whnf
      exact ⟨s, rc, hs, hrc, rfl, rfl⟩
  · conv => whnf
    obtain ⟨_, _, ⟨s, q, hs, hq0, hq1, rfl, rfl⟩, hg3⟩ := l15AnyLog_ok bs' (0 + 1) hb' (by omega) (by omega)
    refine .mk _ _ false Tryd.call39 hg3 (Nat.le_of_ble_eq_true rfl) (.inl rfl) ?_
    conv => whnf
    obtain ⟨_, _, ⟨rc, hrc, rfl, rfl⟩, hg4⟩ := l15Record_ok bs' q hb' (by omega) (by omega)
    refine .mk _ _ false Tryd.call43 hg4 (Nat.le_of_ble_eq_true rfl) (.inl rfl) ?_
    conv => whnf
    refine ⟨trivial, ?_⟩
    conv => whnf
    exact ⟨s, rc, hs, hrc, rfl, rfl⟩
set_option maxHeartbeats 16000000 in
set_option maxRecDepth 100000 in
theorem drawTorn_ok (bs : List Int) (hb : ∀ x ∈ bs, 0 ≤ x ∧ x ≤ 255) (hl : bs.length ≤ 9223372036854775807) : ∃ r out, (∃ (s rc : ByteArray) (m : Int), s.size ≤ 9000 ∧ rc.size ≤ 100000 ∧ -1 ≤ m ∧ m ≤ 9999 ∧ r = .tup [vstr s, vstr rc, vint m] ∧ out = []) ∧ Good Tryd.prog 28 [.one (.p (.sl (bs.map encU)))] [] r out := by
  refine good_v noM Tryd.func28 rfl rfl ?_
  conv => whnf
  obtain ⟨_, _, ⟨bs', hb', rfl, rfl⟩, hg⟩ := l1Open_ok bs hb hl
  refine .mk _ _ false Tryd.call40 hg (Nat.le_of_ble_eq_true rfl) (.inl rfl) ?_
  conv => whnf
  obtain ⟨_, _, ⟨v, hv0, hv1, rfl, rfl⟩, hg2⟩ := pick_ok bs' 0 60 hb'.rng hb'.len (by omega) (by omega) (by omega) (by omega)
  refine .mk _ _ false Tryd.call41 hg2 (Nat.le_of_ble_eq_true rfl) (.inl rfl) ?_
  conv => whnf
  obtain ⟨_, _, ⟨v2, hv20, hv21, rfl, rfl⟩, hg3⟩ := pick_ok bs' (0 + 1) 4 hb'.rng hb'.len (by omega) (by omega) (by omega) (by omega)
  refine .mk _ _ false Tryd.call41 hg3 (Nat.le_of_ble_eq_true rfl) (.inl rfl) ?_
  conv => whnf
  obtain ⟨_, _, ⟨s, rc, hs, hrc, rfl, rfl⟩, hg4⟩ := drawAdd_ok bs hb hl
  have hv : v2 = 0 ∨ v2 = 1 ∨ v2 = 2 ∨ v2 = 3 := by omega
  rcases hv with rfl | rfl | rfl | rfl
  · refine ⟨by decide, by decide, Nat.le_refl 4, ?_⟩
    conv => whnf
    refine ⟨_, rfl, ?_⟩
    conv => whnf
    refine .mk _ _ false Tryd.call27 hg4 (Nat.le_of_ble_eq_true rfl) (.inl rfl) ?_
    conv => whnf
    refine ⟨trivial, ?_⟩
    conv => whnf
    exact ⟨s, rc, v, hs, hrc, by omega, by omega, rfl, rfl⟩
  · refine ⟨by decide, by decide, Nat.le_refl 4, ?_⟩
    conv => whnf
    refine ⟨_, rfl, ?_⟩
    conv => whnf
    refine .mk _ _ false Tryd.call27 hg4 (Nat.le_of_ble_eq_true rfl) (.inl rfl) ?_
    conv => whnf
    refine ⟨trivial, ?_⟩
    conv => whnf
    exact ⟨s, rc, 9999, hs, hrc, by omega, by omega, rfl, rfl⟩
  · refine ⟨by decide, by decide, Nat.le_refl 4, ?_⟩
    conv => whnf
    refine ⟨_, rfl, ?_⟩
    conv => whnf
    refine .mk _ _ false Tryd.call27 hg4 (Nat.le_of_ble_eq_true rfl) (.inl rfl) ?_
    conv => whnf
    refine ⟨trivial, ?_⟩
    conv => whnf
    exact ⟨s, rc, 0, hs, hrc, by omega, by omega, rfl, rfl⟩
  · refine ⟨by decide, by decide, Nat.le_refl 4, ?_⟩
    conv => whnf
    refine ⟨_, rfl, ?_⟩
    conv => whnf
    refine .mk _ _ false Tryd.call27 hg4 (Nat.le_of_ble_eq_true rfl) (.inl rfl) ?_
    conv => whnf
    refine ⟨trivial, ?_⟩
    conv => whnf
    exact ⟨s, rc, -1, hs, hrc, by omega, by omega, rfl, rfl⟩
end Go.Abs.E

set_option linter.unusedSimpArgs false
set_option linter.unusedVariables false
namespace Go.Abs.E
open Go Go.Abs Go.Proofs Go.RowKit
attribute [local irreducible] IntKind.wrap
attribute [local irreducible] lineS hashS
theorem eR_at (rs : List ByteArray) {j i : Nat} (e : j = i) (h : i < rs.length) : (rs.map eR).getD j [] = eR (rs.getD i ⟨#[]⟩) := by rw [e]; exact getD_map eR rs i ⟨#[]⟩ h
set_option maxHeartbeats 16000000 in
set_option maxRecDepth 100000 in
theorem whWords_same (rs : List ByteArray) (hr : rs.length ≤ 1000000000) : Good Tryd.prog 25 [.one (.p (.sl (rs.map eR))), .one (.p (.sl (rs.map eR)))] [] (vbool true) [] := by
  have hlen : (rs.map eR).length = rs.length := List.length_map ..
  refine good_e noM Tryd.func25 rfl rfl ?_
  conv => whnf
  rw [show ((((rs.map eR).length : Nat) : Int) != (((rs.map eR).length : Nat) : Int)) = false by simp]
  conv => whnf
  refine VLoop.enter [0, 1, 5] ?_
  conv => whnf
  refine VLoop.ind1 (n0 := 0) (α := Int) noM [0, 1, 5] (fun i => ⟨26, 0, [(0, .one (.p (.sl (rs.map eR)))), (1, .one (.p (.sl (rs.map eR)))), (5, vint i)], []⟩)
    (fun i => 0 ≤ i ∧ i ≤ rs.length) (fun i => (rs.length - i).toNat) ?_ 0 ⟨by omega, by omega⟩
  rintro i ⟨h0, h1⟩
  conv => whnf
  rw [hlen]
  split
  · rename_i k
    have k' := of_decide_eq_true k
    conv => whnf
    refine VDraw.goR [0, 0, 3, 7, 0, 0, 48, 112, 255] [] [] [] rfl (by decide +kernel) ?_
    conv => whnf
    refine ⟨h0, by rw [hlen]; omega, _, eR_at rs rfl (by omega), ?_⟩
    conv => whnf
    refine ⟨h0, by rw [hlen]; omega, _, eR_at rs rfl (by omega), ?_⟩
    conv => whnf
    rw [str_t rfl]
    conv => whnf
    have hw : IntKind.i64.wrap (i + 1) = i + 1 := wrap_in _ (by omega) (by omega)
    refine ⟨_, rfl, rfl, ⟨by rw [hw]; omega, by rw [hw]; omega⟩, by rw [hw]; omega⟩
  · conv => whnf
    refine ⟨trivial, ?_⟩
    conv => whnf
    exact ⟨rfl, rfl⟩
set_option maxHeartbeats 16000000 in
set_option maxRecDepth 100000 in
theorem whIn_ok (n lo hi : Int) : Good Tryd.prog 26 [vint n, vint lo, vint hi] [] (vbool (inR n lo hi)) [] := by
  refine good_e noM Tryd.func26 rfl rfl ?_
  conv => whnf
  split
  all_goals
    rename_i h
    unfold inR
    rw [show decide (lo ≤ n) = decide (n ≥ lo) from rfl, h]
    conv => whnf
    refine ⟨trivial, ?_⟩
    conv => whnf
    exact ⟨rfl, rfl⟩
end Go.Abs.E

set_option linter.unusedSimpArgs false
set_option linter.unusedVariables false
namespace Go.Abs.E
open Go Go.Abs Go.Proofs Go.RowKit
attribute [local irreducible] IntKind.wrap
attribute [local irreducible] lineS hashS
theorem addO_rng {log : ByteArray} {n at_ : Nat} {r l : ByteArray} (h : addO log n at_ r = some l) : 1 ≤ r.size ∧ r.size ≤ 500 ∧ at_ = log.size := by
  unfold addO at h
  split at h
  · rename_i q; exact ⟨q.2.1.1, q.2.1.2, q.1.1⟩
  · cases h
theorem take_all {l : List ByteArray} {n : Nat} (h : n = l.length) : List.take n (List.drop 0 (l.map eR)) = l.map eR := by
  subst h
  rw [List.drop_zero, List.take_of_length_le (by rw [List.length_map]; exact Nat.le_refl _)]
theorem len_all {l : List ByteArray} {n : Nat} (h : n = l.length) : 0 + n ≤ (l.map eR).length := by rw [List.length_map]; omega
/-- What a torn log reads as. -/
theorem torn_cases {log : ByteArray} {rs : List ByteArray} (f : Fin log rs log.size) (rc : ByteArray) (m : Int) : ∃ torn rs' at', torn = tornS log (addO log rs.length log.size rc) m ∧ Fin torn rs' at' ∧
    ((∃ l, addO log rs.length log.size rc = some l ∧ torn = l ∧ rs'.length = rs.length + 1) ∨ ((∀ l, addO log rs.length log.size rc = some l → torn ≠ l) ∧ rs' = rs ∧ torn.extract 0 at' = log)) := by
  cases ho : addO log rs.length log.size rc with
  | none => exact ⟨log, rs, log.size, rfl, f, .inr ⟨(fun l h => nomatch h), rfl, ext_self (Nat.le_refl _)⟩⟩
  | some l =>
    have h1 := addO_some ho
    have h2 := addO_rng ho
    obtain ⟨hl, hz, hle⟩ := h1
    have hsz : l.size = log.size + (lineS rs.length rc).size := by rw [hl, ByteArray.size_append]
    obtain ⟨k, hk⟩ : ∃ k : Nat, (k : Int) = min (max m 0) ((l.size : Int) - log.size) := ⟨(min (max m 0) ((l.size : Int) - log.size)).toNat, by omega⟩
    have ht : tornS log (some l) m = l.extract 0 (log.size + k) := by
      unfold tornS
      show l.extract 0 _ = _
      rw [← hk, show ((log.size : Int) + (k : Int)).toNat = log.size + k by omega]
    by_cases hq : k < (lineS rs.length rc).size
    · refine ⟨_, rs, log.size, rfl, ?_, .inr ⟨fun l' e => ?_, rfl, ?_⟩⟩
      · rw [ht, hl]; exact f.torn h2.1 h2.2.1 hq
      · cases e
        rw [ht]
        intro e
        have := congrArg ByteArray.size e
        rw [ext_size (by omega)] at this
        omega
      · rw [ht, hl]
        apply ByteArray.ext
        apply Array.ext'
        rw [ByteArray.data_extract, Array.toList_extract, ByteArray.data_extract, Array.toList_extract, List.extract_eq_take_drop, List.extract_eq_take_drop, List.drop_zero, List.drop_zero, Nat.sub_zero, Nat.sub_zero, app_list, List.take_take, Nat.min_eq_left (by omega)]
        exact List.take_left' (szl _)
    · have e : l.extract 0 (log.size + k) = l := ext_self (by omega)
      refine ⟨_, rs ++ [rc], l.size, rfl, ?_, .inl ⟨l, rfl, ?_, by simp⟩⟩
      · rw [ht, e, hl]; exact f.grow h2.1 h2.2.1
      · rw [ht, e]
theorem tornS_size {log : ByteArray} {n at_ : Nat} {rc : ByteArray} {m : Int} (h : log.size ≤ 9000) : (tornS log (addO log n at_ rc) m).size ≤ 9000 := by
  cases ho : addO log n at_ rc with
  | none => exact h
  | some l =>
    have := (addO_some ho).2.1
    show (l.extract 0 _).size ≤ _
    rw [ByteArray.size_extract]; omega
set_option maxHeartbeats 16000000 in
set_option maxRecDepth 100000 in
theorem logTorn_law (xs : List Int) (hx : ∀ x ∈ xs, 0 ≤ x ∧ x ≤ 255) (hxl : xs.length ≤ 9223372036854775807) : ∃ r out, r = vbool true ∧ Good Tryd.prog 10 [.one (.p (.sl (xs.map encU)))] [] r out := by
  refine good_v noM Tryd.func10 rfl rfl ?_
  conv => whnf
  split
  · conv => whnf
    refine ⟨trivial, ?_⟩
    conv => whnf
    rfl
  rename_i q
  conv => whnf
  obtain ⟨_, _, ⟨s, rc, m, hs, hrc, hm0, hm1, rfl, rfl⟩, hg⟩ := drawTorn_ok xs hx hxl
  refine .mk _ _ false Tryd.call28 hg (Nat.le_of_ble_eq_true rfl) (.inl rfl) ?_
  conv => whnf
  obtain ⟨rs, at_, f⟩ := fin_ex s
  refine .mk _ _ false Tryd.call23 (implTorn_ok s (by omega) rs at_ f rc m ⟨by omega, by omega⟩) (Nat.le_of_ble_eq_true rfl) (.inl rfl) ?_
  conv => whnf
  refine .mk _ _ false Tryd.call22 (specTorn_ok s (by omega) rs at_ f rc m ⟨by omega, by omega⟩) (Nat.le_of_ble_eq_true rfl) (.inl rfl) ?_
  conv => whnf
  rw [str_t rfl]
  conv => whnf
  refine .mk _ _ false Tryd.call13 (specOk_ok s (by omega) rs at_ f) (Nat.le_of_ble_eq_true rfl) (.inl rfl) ?_
  conv => whnf
  cases hk : okB s at_ with
  | false =>
    conv => whnf
    refine .mk _ _ false Tryd.call22 (specTorn_ok s (by omega) rs at_ f rc m ⟨by omega, by omega⟩) (Nat.le_of_ble_eq_true rfl) (.inl rfl) ?_
    conv => whnf
    refine ⟨trivial, ?_⟩
    conv => whnf
    exact congrArg vbool (str_t rfl)
  | true =>
    obtain ⟨rfl, hat⟩ := okB_iff.1 hk
    conv => whnf
    refine .mk _ _ false Tryd.call16 (implAdd_ok s (by omega) rs _ f rc) (Nat.le_of_ble_eq_true rfl) (.inl rfl) ?_
    conv => whnf
    refine .mk _ _ false Tryd.call18 (implRead_ok s (by omega) rs _ f) (Nat.le_of_ble_eq_true rfl) (.inl rfl) ?_
    conv => whnf
    obtain ⟨torn, rs', at', ht, f', hc⟩ := torn_cases f rc m
    have hts := tornS_size (n := rs.length) (at_ := s.size) (rc := rc) (m := m) hs
    rw [← ht] at hts ⊢
    refine .mk _ _ false Tryd.call18 (implRead_ok torn (by omega) rs' at' f') (Nat.le_of_ble_eq_true rfl) (.inl rfl) ?_
    conv => whnf
    have hle := f.ch.le
    have hle' := f'.ch.le
    have hlen : rs.length ≤ 1000000000 := by omega
    cases ho : addO s rs.length s.size rc with
    | none =>
      rcases hc with ⟨l, hl, _⟩ | ⟨_, rfl, hx⟩
      · rw [ho] at hl; cases hl
      conv => whnf
      refine ⟨len_all rfl, len_all rfl, ?_⟩
      rw [take_all rfl]
      refine .mk _ _ false Tryd.call25 (whWords_same rs' hlen) (Nat.le_of_ble_eq_true rfl) (.inr ⟨AV.nsB_iff rfl, fun k hk => by cases hk⟩) ?_
      conv => whnf
      refine .mk _ _ false Tryd.call12 (implMend_ok torn (by omega) _ at' f') (Nat.le_of_ble_eq_true rfl) (.inl rfl) ?_
      conv => whnf
      rw [hx, str_t rfl]
      refine ⟨trivial, ?_⟩
      conv => whnf
      rfl
    | some l =>
      conv => whnf
      rw [show ((some l).getD ⟨#[]⟩) = l from rfl]
      rcases hc with ⟨l', hl', ht', hn⟩ | ⟨hno, rfl, hx⟩
      · rw [ho] at hl'
        cases hl'
        rw [str_t ht']
        conv => whnf
        refine ⟨trivial, ?_⟩
        conv => whnf
        refine congrArg vbool ?_
        rw [wrap_in _ (by omega) (by omega), hn, beq_iff_eq]
        omega
      rw [str_f (hno l ho)]
      conv => whnf
      refine ⟨len_all rfl, len_all rfl, ?_⟩
      rw [take_all rfl]
      refine .mk _ _ false Tryd.call25 (whWords_same rs' hlen) (Nat.le_of_ble_eq_true rfl) (.inr ⟨AV.nsB_iff rfl, fun k hk => by cases hk⟩) ?_
      conv => whnf
      refine .mk _ _ false Tryd.call12 (implMend_ok torn (by omega) _ at' f') (Nat.le_of_ble_eq_true rfl) (.inl rfl) ?_
      conv => whnf
      rw [hx, str_t rfl]
      refine ⟨trivial, ?_⟩
      conv => whnf
      rfl
theorem wf8 {x : Int} (h : (Lit.int .u8 x).wf = true) : 0 ≤ x ∧ x ≤ 255 := by
  unfold Lit.wf at h
  simp only [Bool.and_eq_true, decide_eq_true_eq] at h
  exact h
theorem fnLogTorn_good (xs : List Int) (hx : xs.length ≤ 9223372036854775807 ∧ ∀ x ∈ xs, (Lit.int .u8 x).wf = true) : ∃ r out, r = vbool true ∧ Good Tryd.prog 10 [.one (.p (.sl (xs.map encU)))] [] r out := logTorn_law xs (fun x h => wf8 (hx.2 x h)) hx.1
end Go.Abs.E
