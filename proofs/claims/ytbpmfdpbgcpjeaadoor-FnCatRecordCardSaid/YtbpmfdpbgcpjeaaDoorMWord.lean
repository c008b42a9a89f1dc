import Derived.Test.YtbpmfdpbgcpjeaaDoorGAbs26
import Derived.Test.YtbpmfdpbgcpjeaaDoorGShelf
set_option linter.unusedSimpArgs false
set_option linter.unusedVariables false
namespace Go.Abs.W
open Go Go.Abs Go.Proofs Go.RowKit
attribute [local irreducible] IntKind.wrap
theorem tab_of {w : World} (h : GlobH w) : Lib.TabIs Tryd.prog w "internal/strconv.uint64pow10" .u64 Lib.pow10Tab := by
  obtain ⟨ty, fr, e⟩ := h.1 0 _ rfl
  unfold Lib.TabIs World.var?
  rw [show Tryd.prog.globalNamed "internal/strconv.uint64pow10" = some 0 by kernel_rfl]
  simp only [Option.bind_some, e]
  unfold Lib.pow10Tab
  rw [List.map_map]; rfl
/-- A number in decimals. -/
def dec (n : Int) : ByteArray := ⟨(Lib.itoa n).toArray⟩
theorem itoa_ok (n : Int) (h0 : -9223372036854775808 ≤ n) (h1 : n ≤ 9223372036854775807) : Good Tryd.prog 14 [vint n] [] (vstr (dec n)) [] :=
  good_lit (vs := [.int .i64 n]) fun w hg => Tryd.strconv_Itoa n h0 h1 w (tab_of hg)
theorem w8 (d : Nat) (h : d < 10) : IntKind.u8.wrap (IntKind.i64.wrap (48 + (d : Int))) = 48 + d := by
  have : d = 0 ∨ d = 1 ∨ d = 2 ∨ d = 3 ∨ d = 4 ∨ d = 5 ∨ d = 6 ∨ d = 7 ∨ d = 8 ∨ d = 9 := by omega
  rcases this with rfl | rfl | rfl | rfl | rfl | rfl | rfl | rfl | rfl | rfl <;> decide +kernel
theorem digit_bytes (d : Nat) (h : d < 10) : elsBytes [[.lit (.int .u8 (48 + (d : Int)))]] = ⟨#[UInt8.ofNat (48 + d)]⟩ := by
  have : d = 0 ∨ d = 1 ∨ d = 2 ∨ d = 3 ∨ d = 4 ∨ d = 5 ∨ d = 6 ∨ d = 7 ∨ d = 8 ∨ d = 9 := by omega
  rcases this with rfl | rfl | rfl | rfl | rfl | rfl | rfl | rfl | rfl | rfl <;> rfl
theorem dec_small {n : Nat} (h : n < 10) : dec n = ⟨#[UInt8.ofNat (48 + n)]⟩ := by
  unfold dec; rw [Lib.itoa_nonneg, Lib.decDigits_one h]
theorem dec_big {n : Nat} (h : ¬ n < 10) : dec n = dec (n / 10 : Nat) ++ ⟨#[UInt8.ofNat (48 + n % 10)]⟩ := by
  unfold dec
  rw [Lib.itoa_nonneg, Lib.itoa_nonneg, Lib.decDigits, dif_neg h]
  apply ByteArray.ext
  rw [ByteArray.data_append]
  simp
theorem dec_size {n k : Nat} (h : n < 10 ^ (k + 1)) : (dec n).size ≤ k + 1 := by
  induction k generalizing n with
  | zero => rw [dec_small (by omega)]; exact Nat.le_refl 1
  | succ k ih =>
    by_cases q : n < 10
    · rw [dec_small q]; show 1 ≤ _; omega
    · rw [dec_big q, ByteArray.size_append]
      have := ih (n := n / 10) (by rw [Nat.pow_succ] at h; omega)
      show (dec (n / 10 : Nat)).size + 1 ≤ _
      omega
def inR (n lo hi : Int) : Bool := decide (lo ≤ n) && decide (n ≤ hi)
theorem inR_iff {n lo hi : Int} : inR n lo hi = true ↔ lo ≤ n ∧ n ≤ hi := by unfold inR; simp
theorem wi (x : Int) (h1 : -100000000 ≤ x) (h2 : x < 2000000000) : IntKind.i64.wrap x = x := wrap_in _ (by omega) (by omega)
set_option maxHeartbeats 4000000 in
set_option maxRecDepth 100000 in
theorem within_ok (n lo hi : Int) : Good Tryd.prog 24 [vint n, vint lo, vint hi] [] (vbool (inR n lo hi)) [] := by
  refine good_e noM Tryd.func24 rfl rfl ?_
  conv => whnf
  split
  all_goals
    rename_i h
    unfold inR
    rw [h]
    conv => whnf
    refine ⟨trivial, ?_⟩
    conv => whnf
    exact ⟨rfl, rfl⟩
set_option maxHeartbeats 4000000 in
set_option maxRecDepth 100000 in
theorem l1In_ok (n lo hi : Int) : Good Tryd.prog 22 [vint n, vint lo, vint hi] [] (vbool (inR n lo hi)) [] := by
  refine good_e noM Tryd.func22 rfl rfl ?_
  conv => whnf
  split
  all_goals
    rename_i h
    unfold inR
    rw [h]
    conv => whnf
    refine ⟨trivial, ?_⟩
    conv => whnf
    exact ⟨rfl, rfl⟩
set_option maxHeartbeats 16000000 in
set_option maxRecDepth 100000 in
theorem l1Dec_ok (n : Nat) (h : n < 100000000) : Good Tryd.prog 11 [vint (n : Int)] [] (vstr (dec n)) [] := by
  induction n using Nat.strongRecOn with
  | _ n ih =>
  refine good_e noM Tryd.func11 rfl rfl ?_
  conv => whnf
  split
  · rename_i q
    have q' : n < 10 := by have := of_decide_eq_true q; omega
    conv => whnf
    refine ⟨trivial, ?_⟩
    conv => whnf
    rw [w8 n q']
    refine ⟨⟨Nat.le_refl 1, fun el hel => by cases List.mem_singleton.1 hel; exact isByte_mk⟩, ?_⟩
    conv => whnf
    refine ⟨trivial, ?_⟩
    conv => whnf
    refine ⟨?_, rfl⟩
    rw [dec_small q']
    exact congrArg vstr (digit_bytes n q')
  · rename_i q
    have q' : ¬ n < 10 := by have := of_decide_eq_false q; omega
    have hd : IntKind.i64.wrap ((n : Int).tdiv 10) = ((n / 10 : Nat) : Int) := by rw [Int.tdiv_eq_ediv_of_nonneg (by omega), wi _ (by omega) (by omega)]; omega
    have hr : ((n : Int).tmod 10) = ((n % 10 : Nat) : Int) := by rw [Int.tmod_eq_emod_of_nonneg (by omega)]; omega
    have ihd := ih (n / 10) (by omega) (by omega)
    have hs : (dec (n / 10 : Nat)).size ≤ 8 := dec_size (k := 7) (by omega)
    conv => whnf
    refine VDraw.go ⟨_, [0, 1, 3, 0, 8, 24, 56, 120, 248, 511, 1023], [2, 6, 7, 8], []⟩ rfl rfl (by decide +kernel) ?_
    conv => whnf
    rw [hd]
    refine .mk _ _ false Tryd.call11 ihd (Nat.le_of_ble_eq_true rfl) (.inl rfl) ?_
    conv => whnf
    refine ⟨trivial, ?_⟩
    conv => whnf
    rw [hr, w8 (n % 10) (by omega)]
    refine ⟨⟨Nat.le_refl 1, fun el hel => by cases List.mem_singleton.1 hel; exact isByte_mk⟩, ?_⟩
    conv => whnf
    rw [abin_cat (a := _) (b := _) rfl rfl (by rw [elsBytes_size]; show (dec (n / 10 : Nat)).size + 1 ≤ _; omega)]
    conv => whnf
    refine ⟨trivial, ?_⟩
    conv => whnf
    refine ⟨?_, rfl⟩
    rw [dec_big q']
    exact congrArg (fun b => vstr (dec (n / 10 : Nat) ++ b)) (digit_bytes (n % 10) (by omega))
end Go.Abs.W

set_option linter.unusedSimpArgs false
set_option linter.unusedVariables false
namespace Go.Abs.W
open Go Go.Abs Go.Proofs Go.RowKit
attribute [local irreducible] IntKind.wrap
theorem dec_eq (n : Nat) : dec (n : Int) = ⟨(Lib.decDigits n).toArray⟩ := by unfold dec; rw [Lib.itoa_nonneg]
theorem atoi_ok (s : ByteArray) (hs : s.size ≤ 281474976710656) (v : Int) (h : Lib.atoiAll s.data.toList = .ok v) : Good Tryd.prog 38 [vstr s] [] (.tup [vint v, lit .nilIface]) [] :=
  good_tupB (vs := [.string s]) (rs := [.int .i64 v, .nilIface]) fun w hg => by
    have hc : Calls Tryd.prog 38 #[.string s] w _ := Any.strconv_Atoi_ok Tryd.laysC172 s (by omega) v h w
    refine Calls.mono hc ?_
    rintro e w' ⟨rfl, rfl | ⟨t, rfl⟩⟩
    · exact ⟨rfl, Below.refl _ _⟩
    · exact ⟨rfl, Lib.bytesWorld_below _ _ _⟩
theorem cell_of {w : World} {g : Nat} {v : Value} {ty : TypeId} {fr : Nat × Nat} (h : w.heap[g]? = some (.cells #[v] ty fr)) : w.cell? ⟨g, 0, none⟩ = some v := by
  simp [World.cell?, h]
set_option maxHeartbeats 4000000 in
theorem number_fail (s : ByteArray) (hs : s.size ≤ 281474976710656) (h : ∀ v, Lib.atoiAll s.data.toList ≠ .ok v) (w : World) (hg : GlobH w) :
    Calls Tryd.prog 27 #[.string s] w fun e w' => e = .returned (.tuple #[.int .i64 0, .bool false]) ∧ Below w.heap.size w w' := by
  have hc : Calls Tryd.prog 38 #[.string s] w fun e w' => (∃ n N, e = .returned (.tuple #[.int .i64 n, .iface 92 (.pointer (some ⟨N, 0, none⟩))])) ∧ Below w.heap.size w w' := by
    rcases ha : Lib.atoiAll s.data.toList with v | _ | _
    · exact absurd ha (h v)
    · obtain ⟨t, p, ty, fr, e⟩ := hg.2 2 (by decide)
      have hc : Calls Tryd.prog 38 #[.string s] w _ := Any.strconv_Atoi_syntax Tryd.laysC172 s hs ha (.iface t p) w (cell_of e) (.inr ⟨_, _, rfl⟩)
      refine Calls.mono hc ?_
      rintro e w' ⟨N, rfl, _, _, hb⟩
      exact ⟨⟨_, N, rfl⟩, hb⟩
    · obtain ⟨t, p, ty, fr, e⟩ := hg.2 3 (by decide)
      have hc : Calls Tryd.prog 38 #[.string s] w _ := Any.strconv_Atoi_range Tryd.laysC172 s hs ha (.iface t p) w (cell_of e) (.inr ⟨_, _, rfl⟩)
      refine Calls.mono hc ?_
      rintro e w' ⟨N, rfl, _, _, hb⟩
      exact ⟨⟨_, N, rfl⟩, hb⟩
  go_enter Tryd.func27, Tryd.ntmps27
  go_wp2_with (go_at_call 38; refine hc.mono ?_; rintro e w' ⟨⟨n, N, rfl⟩, hb⟩)
  go_ret2
  exact ⟨rfl, hb⟩
/-- The number of at most six figures that a text is. -/
def num (s : ByteArray) : Option Nat := numOf s.data.toList
def numI (s : ByteArray) : Int := match num s with
  | some v => (v : Int)
  | none => 0
def numS (s : ByteArray) : Int := match num s with
  | some v => (v : Int)
  | none => -1
def numOk (s : ByteArray) : Bool := (num s).isSome
set_option maxHeartbeats 16000000 in
set_option maxRecDepth 100000 in
theorem number_ok (s : ByteArray) (hs : s.size ≤ 281474976710656) : Good Tryd.prog 27 [vstr s] [] (.tup [vint (numI s), vbool (numOk s)]) [] := by
  by_cases h : ∃ v, Lib.atoiAll s.data.toList = .ok v
  · obtain ⟨v, ha⟩ := h
    have hb := Lib.atoiAll_bounds ha
    refine good_e noM Tryd.func27 rfl rfl ?_
    conv => whnf
    refine .mk _ _ false Tryd.call38 (atoi_ok s hs v ha) (Nat.le_of_ble_eq_true rfl) (.inl rfl) ?_
    conv => whnf
    have none_of : (v < 0 ∨ ¬ s.size ≤ 6) → num s = none := fun hv => by
      cases q : num s with
      | none => rfl
      | some u =>
        obtain ⟨hp, hl, e, _⟩ := numOf_some (l := s.data.toList) q
        rw [atoi_plain hp (by omega)] at ha
        cases ha
        have : s.data.toList.length = s.size := by simp
        omega
    split
    · rename_i q
      have q' : v < 0 := of_decide_eq_true q
      have hn := none_of (.inl q')
      unfold numI numOk
      rw [hn]
      conv => whnf
      refine ⟨trivial, ?_⟩
      conv => whnf
      exact ⟨rfl, rfl⟩
    · rename_i q
      have q' : ¬ v < 0 := of_decide_eq_false q
      conv => whnf
      split
      · rename_i q2
        have q2' : 6 < (s.size : Int) := of_decide_eq_true q2
        have hn := none_of (.inr (by omega))
        unfold numI numOk
        rw [hn]
        conv => whnf
        refine ⟨trivial, ?_⟩
        conv => whnf
        exact ⟨rfl, rfl⟩
      · rename_i q2
        have q2' : ¬ 6 < (s.size : Int) := of_decide_eq_false q2
        conv => whnf
        refine .mk _ _ false Tryd.call14 (itoa_ok v hb.1 hb.2) (Nat.le_of_ble_eq_true rfl) (.inl rfl) ?_
        conv => whnf
        by_cases e : dec v = s
        · have hd : s.data.toList = Lib.decDigits v.toNat := by
            obtain ⟨n, rfl⟩ := Int.eq_ofNat_of_zero_le (show 0 ≤ v by omega)
            rw [← e, dec_eq]; rfl
          have hn : num s = some v.toNat := by
            show numOf s.data.toList = _
            have hl : s.data.toList.length = s.size := by simp
            rw [hd] at hl ⊢
            exact numOf_dec (by omega)
          have hv : ((v.toNat : Nat) : Int) = v := Int.toNat_of_nonneg (by omega)
          unfold numI numOk
          rw [hn, str_t e]
          simp only [Option.isSome, hv]
          conv => whnf
          refine ⟨trivial, ?_⟩
          conv => whnf
          exact ⟨rfl, rfl⟩
        · have hn : num s = none := by
            cases q : num s with
            | none => rfl
            | some u =>
              obtain ⟨hp, hl, e1, e2⟩ := numOf_some (l := s.data.toList) q
              rw [atoi_plain hp (by omega)] at ha
              cases ha
              exfalso
              apply e
              unfold dec
              rw [e1, e2]
          unfold numI numOk
          rw [hn, str_f e]
          conv => whnf
          refine ⟨trivial, ?_⟩
          conv => whnf
          exact ⟨rfl, rfl⟩
  · have hn : ∀ v, Lib.atoiAll s.data.toList ≠ .ok v := fun v q => h ⟨v, q⟩
    have hnum : num s = none := by
      cases q : num s with
      | none => rfl
      | some v =>
        obtain ⟨hp, hl, e, _⟩ := numOf_some (l := s.data.toList) q
        exact absurd (atoi_plain hp (by omega)) (hn _)
    unfold numI numOk
    rw [hnum]
    exact good_tupB (vs := [.string s]) (rs := [.int .i64 0, .bool false]) fun w hg => number_fail s hs hn w hg
theorem bt_get {s : ByteArray} {i : Nat} (h : i < s.size) : bt s i = ((s.data.toList[i]'(by simpa using h)).toNat : Int) := by
  unfold bt
  rw [List.getD_eq_getElem?_getD, List.getElem?_eq_getElem (by simpa using h)]; rfl
theorem bt_eq {s : ByteArray} {i : Nat} (h : i < s.size) (c : UInt8) : bt s i = (c.toNat : Int) ↔ s.data.toList[i]'(by simpa using h) = c := by
  rw [bt_get h]
  constructor
  · intro e; exact UInt8.toNat_inj.1 (by omega)
  · intro e; rw [e]
theorem szl (s : ByteArray) : s.data.toList.length = s.size := by simp
theorem take_snoc {l : List UInt8} {i : Nat} (h : i < l.length) : l.take (i + 1) = l.take i ++ [l[i]] := List.take_succ_eq_append_getElem h
theorem num_none_of {s : ByteArray} (h : ∀ v, num s = some v → False) : numS s = -1 := by
  unfold numS
  cases q : num s with
  | none => rfl
  | some v => exact (h v q).elim
theorem numS_bad {s : ByteArray} {i : Nat} (hi : i < s.size) (h : bt s i < 48 ∨ 57 < bt s i) : numS s = -1 := by
  refine num_none_of fun v q => ?_
  obtain ⟨hp, hl, e, _⟩ := numOf_some (l := s.data.toList) q
  rw [bt_get hi] at h
  have := isDg_iff.1 (hp.dg _ (List.getElem_mem (by rw [szl]; exact hi)))
  omega
theorem numS_nought {s : ByteArray} (hi : 1 < s.size) (h : bt s 0 = 48) : numS s = -1 := by
  refine num_none_of fun v q => ?_
  obtain ⟨hp, hl, e, _⟩ := numOf_some (l := s.data.toList) q
  apply hp.hd (by rw [szl]; exact hi)
  have h1 := (bt_eq (s := s) (i := 0) (by omega) 48).1 h
  rw [List.head?_eq_getElem?, List.getElem?_eq_getElem (by rw [szl]; omega), h1]
theorem numS_good {s : ByteArray} (h1 : 1 ≤ s.size) (h6 : s.size ≤ 6) (hd : ∀ k, k < s.size → 48 ≤ bt s k ∧ bt s k ≤ 57) (hh : 1 < s.size → ¬ bt s 0 = 48) : numS s = (valL s.data.toList : Int) := by
  have hp : Plain s.data.toList := by
    refine ⟨fun q => ?_, fun c hc => ?_, fun hl q => ?_⟩
    · have := szl s; rw [q] at this; simp at this; omega
    · obtain ⟨k, hk, rfl⟩ := List.mem_iff_getElem.1 hc
      have hk' : k < s.size := by rw [szl] at hk; exact hk
      have := hd k hk'
      rw [bt_get hk'] at this
      rw [isDg_iff]; omega
    · rw [szl] at hl
      apply hh hl
      rw [List.head?_eq_getElem?, List.getElem?_eq_getElem (by rw [szl]; omega)] at q
      exact (bt_eq (s := s) (i := 0) (by omega) 48).2 (Option.some.inj q)
  unfold numS num numOf
  rw [figB_iff.2 hp, decide_eq_true (by rw [szl]; omega)]
  rfl
theorem dg_take {s : ByteArray} {i : Nat} (hd : ∀ k, k < i → 48 ≤ bt s k ∧ bt s k ≤ 57) (hi : i ≤ s.size) : ∀ c ∈ s.data.toList.take i, isDg c = true := by
  intro c hc
  obtain ⟨k, hk, rfl⟩ := List.mem_iff_getElem.1 hc
  rw [List.length_take] at hk
  have hk' : k < s.size := by omega
  have := hd k (by omega)
  rw [bt_get hk'] at this
  rw [isDg_iff, List.getElem_take]; omega
theorem numS_step {s : ByteArray} {i : Nat} (hd : ∀ k, k < i → 48 ≤ bt s k ∧ bt s k ≤ 57) (hi : i < s.size) (h6 : s.size ≤ 6) (h1 : 48 ≤ bt s i) (h2 : bt s i ≤ 57) :
    IntKind.i64.wrap (IntKind.i64.wrap ((valL (s.data.toList.take i) : Int) * 10) + IntKind.i64.wrap (IntKind.u8.wrap (bt s i - 48))) = (valL (s.data.toList.take (i + 1)) : Int) := by
  have hv := valL_lt _ (dg_take hd (by omega))
  have hl : (s.data.toList.take i).length = i := by rw [List.length_take, szl]; omega
  rw [hl] at hv
  have hp : 10 ^ i ≤ 10 ^ 5 := Nat.pow_le_pow_right (by decide) (by omega)
  have e5 : (10 : Nat) ^ 5 = 100000 := by decide
  rw [take_snoc (by rw [szl]; omega), valL_snoc]
  rw [bt_get hi] at h1 h2 ⊢
  generalize (s.data.toList[i]'(by simpa using hi)).toNat = c at h1 h2 ⊢
  rw [wrap_u8 ((c : Int) - 48) (by omega) (by omega), wrap_in ((c : Int) - 48) (by omega) (by omega), wrap_in ((valL (s.data.toList.take i) : Int) * 10) (by omega) (by omega), wrap_in _ (by omega) (by omega)]
  omega
end Go.Abs.W

set_option linter.unusedSimpArgs false
set_option linter.unusedVariables false
namespace Go.Abs.W
open Go Go.Abs Go.Proofs Go.RowKit
attribute [local irreducible] IntKind.wrap
@[reducible] def blkS (ps : List (List UInt8)) : Blk := .arr 1 (encS ps)
theorem sindex1_ok (s : ByteArray) (c : UInt8) : Good Tryd.prog 50 [vstr s, vstr ⟨#[c]⟩] [] (vint (idxI c s)) [] :=
  good_litB (vs := [.string s, .string ⟨#[c]⟩]) (r := .int .i64 (idxI c s)) fun w hg => by
    have hc : Calls Tryd.prog 50 #[.string s, .string ⟨#[c]⟩] w _ := Tryd.stringslite_Index_one s c w
    refine Calls.mono hc ?_
    rintro e w' ⟨rfl, rfl⟩
    refine ⟨?_, Below.refl _ _⟩
    rw [indexByte_eq]; rfl
theorem one1 (c : UInt8) : (ByteArray.mk #[c]).size = 1 := rfl
set_option maxHeartbeats 16000000 in
set_option maxRecDepth 100000 in
theorem scut1_ok (s : ByteArray) (c : UInt8) (hs : s.size ≤ 281474976710656) : Good Tryd.prog 37 [vstr s, vstr ⟨#[c]⟩] [] (.tup [vstr (cutA c s), vstr (cutB c s), vbool (cutC c s)]) [] := by
  refine good_e noM Tryd.func37 rfl rfl ?_
  conv => whnf
  refine .mk _ _ false Tryd.call50 (sindex1_ok s c) (Nat.le_of_ble_eq_true rfl) (.inl rfl) ?_
  conv => whnf
  cases hx : idx c s.data.toList with
  | none =>
    have e1 : cutA c s = s := by unfold cutA; rw [hx]
    have e2 : cutB c s = ⟨#[]⟩ := by unfold cutB; rw [hx]
    have e3 : cutC c s = false := by unfold cutC; rw [hx]; rfl
    rw [e1, e2, e3, idxI_none hx]
    conv => whnf
    refine ⟨trivial, ?_⟩
    conv => whnf
    exact ⟨rfl, rfl⟩
  | some k =>
    have hk := (idx_some hx).1
    rw [szl] at hk
    have e1 : cutA c s = s.extract 0 k := by unfold cutA; rw [hx, extract_eq]; simp
    have e2 : cutB c s = s.extract (k + 1) s.size := by
      unfold cutB; rw [hx, extract_eq]; rw [List.take_of_length_le (by rw [List.length_drop, szl]; omega)]
    have e3 : cutC c s = true := by unfold cutC; rw [hx]; rfl
    rw [e1, e2, e3, idxI_some hx]
    conv => whnf
    refine VDraw.goR [0, 0, 3, 0, 0, 0, 32, 112, 248, 7, 1023, 2047] [] [] [] rfl (by decide +kernel) ?_
    conv => whnf
    refine ⟨⟨by omega, by omega, by omega⟩, ?_⟩
    conv => whnf
    have hw : IntKind.i64.wrap ((k : Int) + ((⟨#[c]⟩ : ByteArray).size : Int)) = ((k + 1 : Nat) : Int) := by
      rw [one1, wrap_in _ (by omega) (by omega)]; omega
    rw [hw]
    refine ⟨⟨by omega, by omega, by omega⟩, ?_⟩
    conv => whnf
    refine ⟨trivial, ?_⟩
    conv => whnf
    exact ⟨rfl, rfl⟩
set_option maxHeartbeats 16000000 in
set_option maxRecDepth 100000 in
theorem cut1_ok (s : ByteArray) (c : UInt8) (hs : s.size ≤ 281474976710656) : Good Tryd.prog 26 [vstr s, vstr ⟨#[c]⟩] [] (.tup [vstr (cutA c s), vstr (cutB c s), vbool (cutC c s)]) [] := by
  refine good_e noM Tryd.func26 rfl rfl ?_
  conv => whnf
  refine .mk _ _ false Tryd.call37 (scut1_ok s c hs) (Nat.le_of_ble_eq_true rfl) (.inl rfl) ?_
  conv => whnf
  refine ⟨trivial, ?_⟩
  conv => whnf
  exact ⟨rfl, rfl⟩
end Go.Abs.W

set_option linter.unusedSimpArgs false
set_option linter.unusedVariables false
namespace Go.Abs.W
open Go Go.Abs Go.Proofs Go.RowKit
attribute [local irreducible] IntKind.wrap
theorem idx_of {c : UInt8} {m : List UInt8} {k : Nat} (h : k < m.length) (e : m[k] = c) (hn : ∀ j, j < k → ∀ hj : j < m.length, m[j] ≠ c) : idx c m = some k := by
  have hm : m = m.take k ++ c :: m.drop (k + 1) := by
    conv => lhs; rw [← List.take_append_drop k m, List.drop_eq_getElem_cons h, e]
  have := idx_append (c := c) (l := m.take k) (m := m.drop (k + 1)) fun x hx => by
    obtain ⟨j, hj, rfl⟩ := List.mem_iff_getElem.1 hx
    rw [List.length_take] at hj
    rw [List.getElem_take]
    exact hn j (by omega) (by omega)
  rw [← hm, List.length_take] at this
  rw [this]; congr 1; omega
theorem idx_none_of {c : UInt8} {m : List UInt8} (hn : ∀ j, ∀ hj : j < m.length, m[j] ≠ c) : idx c m = none :=
  idx_no fun x hx => by obtain ⟨j, hj, rfl⟩ := List.mem_iff_getElem.1 hx; exact hn j hj
theorem bytes9 : Tryd.prog.bytesOf 9 + 1 ≤ 100 := by decide +kernel
theorem app9 {n : Nat} (h : n ≤ 1099511627777) : n * (Tryd.prog.bytesOf 9 + 1) ≤ 140737488355328 := Nat.le_trans (Nat.mul_le_mul h bytes9) (by decide)
theorem encS_snoc (ps : List (List UInt8)) (p : List UInt8) : encS ps ++ [[.lit (.string (mkS p))]] = encS (ps ++ [p]) := by simp [encS]
theorem cuts_hit {c : UInt8} {l : List UInt8} {ps : List (List UInt8)} {f i : Nat} (hc : cuts c l = ps ++ cuts c (l.drop f)) (hf : f ≤ i) (hi : i < l.length) (e : l[i] = c) (hn : ∀ k, f ≤ k → k < i → ∀ hk : k < l.length, l[k] ≠ c) :
    cuts c l = (ps ++ [(l.drop f).take (i - f)]) ++ cuts c (l.drop (i + 1)) := by
  have hx : idx c (l.drop f) = some (i - f) := idx_of (by rw [List.length_drop]; omega) (by rw [List.getElem_drop]; simp only [show f + (i - f) = i by omega]; exact e) fun j hj hjl => by
    rw [List.length_drop] at hjl
    rw [List.getElem_drop]; exact hn (f + j) (by omega) (by omega) _
  rw [hc, cuts_some hx, List.drop_drop, show f + (i - f + 1) = i + 1 by omega, List.append_assoc]; rfl
theorem cuts_end {c : UInt8} {l : List UInt8} {ps : List (List UInt8)} {f : Nat} (hc : cuts c l = ps ++ cuts c (l.drop f)) (hn : ∀ k, f ≤ k → ∀ hk : k < l.length, l[k] ≠ c) :
    cuts c l = ps ++ [l.drop f] := by
  rw [hc, cuts_none (idx_none_of fun j hj => by rw [List.length_drop] at hj; rw [List.getElem_drop]; exact hn (f + j) (by omega) _)]
theorem cuts_pos (c : UInt8) (l : List UInt8) : 1 ≤ (cuts c l).length := by rw [cuts_length]; omega
theorem encS_at (ps : List (List UInt8)) {j i : Nat} (e : j = i) (h : i < ps.length) : (encS ps).getD j [] = [.lit (.string (mkS (ps.getD i [])))] := by
  rw [e]; exact getD_map _ ps i [] h
theorem piece_size {c : UInt8} (l : List UInt8) (i : Nat) : ((cuts c l).getD i []).length ≤ l.length := by
  suffices h : ∀ l : List UInt8, ∀ p ∈ cuts c l, p.length ≤ l.length by
    rw [List.getD_eq_getElem?_getD]
    cases hi : (cuts c l)[i]? with
    | none => exact Nat.zero_le _
    | some p => exact h l p (List.mem_of_getElem? hi)
  intro l
  induction l with
  | nil => intro p hp; simp [cuts] at hp; rw [hp]; exact Nat.le_refl _
  | cons x r ih =>
    intro p hp
    unfold cuts at hp
    split at hp
    · rcases List.mem_cons.1 hp with rfl | hp
      · exact Nat.zero_le _
      · have := ih p hp; simp; omega
    · split at hp
      · rcases List.mem_singleton.1 hp with rfl; simp
      · rename_i q qs e
        rcases List.mem_cons.1 hp with rfl | hp
        · have := ih q (by rw [e]; exact List.mem_cons_self); simp; omega
        · have := ih p (by rw [e]; exact List.mem_cons_of_mem _ hp); simp; omega
end Go.Abs.W
