import Derived.Test.YtilogdijodgcgaaDoorGAbs26
import Derived.Test.YtilogdijodgcgaaDoorGShelf
set_option linter.unusedSimpArgs false
set_option linter.unusedVariables false
namespace Go.Abs.E
open Go Go.Abs Go.Proofs Go.RowKit
attribute [local irreducible] IntKind.wrap
theorem tab_of {w : World} (h : GlobH w) : Lib.TabIs Tryd.prog w "internal/strconv.uint64pow10" .u64 Lib.pow10Tab := by
  obtain ⟨ty, fr, e⟩ := h.1 4 _ rfl
  unfold Lib.TabIs World.var?
  rw [show Tryd.prog.globalNamed "internal/strconv.uint64pow10" = some 4 by kernel_rfl]
  simp only [Option.bind_some, e]
  unfold Lib.pow10Tab
  rw [List.map_map]; rfl
/-- A number in decimals. -/
def dec (n : Int) : ByteArray := ⟨(Lib.itoa n).toArray⟩
theorem itoa_ok (n : Int) (h0 : -9223372036854775808 ≤ n) (h1 : n ≤ 9223372036854775807) : Good Tryd.prog 36 [vint n] [] (vstr (dec n)) [] :=
  good_lit (vs := [.int .i64 n]) fun w hg => Tryd.strconv_Itoa n h0 h1 w (tab_of hg)
theorem w8 (d : Nat) (h : d < 10) : IntKind.u8.wrap (IntKind.i64.wrap (48 + (d : Int))) = 48 + d := by
  have : d = 0 ∨ d = 1 ∨ d = 2 ∨ d = 3 ∨ d = 4 ∨ d = 5 ∨ d = 6 ∨ d = 7 ∨ d = 8 ∨ d = 9 := by omega
  rcases this with rfl | rfl | rfl | rfl | rfl | rfl | rfl | rfl | rfl | rfl <;> decide +kernel
theorem digit_bytes (d : Nat) (h : d < 10) : elsBytes [[.lit (.int .u8 (48 + (d : Int)))]] = ⟨#[UInt8.ofNat (48 + d)]⟩ := by
  have : d = 0 ∨ d = 1 ∨ d = 2 ∨ d = 3 ∨ d = 4 ∨ d = 5 ∨ d = 6 ∨ d = 7 ∨ d = 8 ∨ d = 9 := by omega
  rcases this with rfl | rfl | rfl | rfl | rfl | rfl | rfl | rfl | rfl | rfl <;> rfl
theorem dec_small {n : Nat} (h : n < 10) : dec n = ⟨#[UInt8.ofNat (48 + n)]⟩ := by
  unfold dec; rw [Lib.itoa_nonneg, Lib.decDigits_one h]
theorem dec_big {n : Nat} (h : ¬ n < 10) : dec n = dec (n / 10 : Nat) ++ ⟨#[UInt8.ofNat (48 + n % 10)]⟩ := by
  unfold dec
  rw [Lib.itoa_nonneg, Lib.itoa_nonneg, Lib.decDigits, dif_neg h]
  apply ByteArray.ext
  rw [ByteArray.data_append]
  simp
theorem dec_size {n k : Nat} (h : n < 10 ^ (k + 1)) : (dec n).size ≤ k + 1 := by
  induction k generalizing n with
  | zero => rw [dec_small (by omega)]; exact Nat.le_refl 1
  | succ k ih =>
    by_cases q : n < 10
    · rw [dec_small q]; show 1 ≤ _; omega
    · rw [dec_big q, ByteArray.size_append]
      have := ih (n := n / 10) (by rw [Nat.pow_succ] at h; omega)
      show (dec (n / 10 : Nat)).size + 1 ≤ _
      omega
def inR (n lo hi : Int) : Bool := decide (lo ≤ n) && decide (n ≤ hi)
theorem inR_iff {n lo hi : Int} : inR n lo hi = true ↔ lo ≤ n ∧ n ≤ hi := by unfold inR; simp
theorem wi (x : Int) (h1 : -100000000 ≤ x) (h2 : x < 2000000000) : IntKind.i64.wrap x = x := wrap_in _ (by omega) (by omega)
set_option maxHeartbeats 4000000 in
set_option maxRecDepth 100000 in
theorem within_ok (n lo hi : Int) : Good Tryd.prog 32 [vint n, vint lo, vint hi] [] (vbool (inR n lo hi)) [] := by
  refine good_e noM Tryd.func32 rfl rfl ?_
  conv => whnf
  split
  all_goals
    rename_i h
    unfold inR
    rw [h]
    conv => whnf
    refine ⟨trivial, ?_⟩
    conv => whnf
    exact ⟨rfl, rfl⟩
set_option maxHeartbeats 4000000 in
set_option maxRecDepth 100000 in
theorem l1In_ok (n lo hi : Int) : Good Tryd.prog 30 [vint n, vint lo, vint hi] [] (vbool (inR n lo hi)) [] := by
  refine good_e noM Tryd.func30 rfl rfl ?_
  conv => whnf
  split
  all_goals
    rename_i h
    unfold inR
    rw [h]
    conv => whnf
    refine ⟨trivial, ?_⟩
    conv => whnf
    exact ⟨rfl, rfl⟩
set_option maxHeartbeats 16000000 in
set_option maxRecDepth 100000 in
theorem l1Dec_ok (n : Nat) (h : n < 100000000) : Good Tryd.prog 45 [vint (n : Int)] [] (vstr (dec n)) [] := by
  induction n using Nat.strongRecOn with
  | _ n ih =>
  refine good_e noM Tryd.func45 rfl rfl ?_
  conv => whnf
  split
  · rename_i q
    have q' : n < 10 := by have := of_decide_eq_true q; omega
    conv => whnf
    refine ⟨trivial, ?_⟩
    conv => whnf
    rw [w8 n q']
    refine ⟨⟨Nat.le_refl 1, fun el hel => by cases List.mem_singleton.1 hel; exact isByte_mk⟩, ?_⟩
    conv => whnf
    refine ⟨trivial, ?_⟩
    conv => whnf
    refine ⟨?_, rfl⟩
    rw [dec_small q']
    exact congrArg vstr (digit_bytes n q')
  · rename_i q
    have q' : ¬ n < 10 := by have := of_decide_eq_false q; omega
    have hd : IntKind.i64.wrap ((n : Int).tdiv 10) = ((n / 10 : Nat) : Int) := by rw [Int.tdiv_eq_ediv_of_nonneg (by omega), wi _ (by omega) (by omega)]; omega
    have hr : ((n : Int).tmod 10) = ((n % 10 : Nat) : Int) := by rw [Int.tmod_eq_emod_of_nonneg (by omega)]; omega
    have ihd := ih (n / 10) (by omega) (by omega)
    have hs : (dec (n / 10 : Nat)).size ≤ 8 := dec_size (k := 7) (by omega)
    conv => whnf
    refine VDraw.go ⟨_, [0, 1, 3, 0, 8, 24, 56, 120, 248, 511, 1023], [2, 6, 7, 8], []⟩ rfl rfl (by decide +kernel) ?_
    conv => whnf
    rw [hd]
    refine .mk _ _ false Tryd.call45 ihd (Nat.le_of_ble_eq_true rfl) (.inl rfl) ?_
    conv => whnf
    refine ⟨trivial, ?_⟩
    conv => whnf
    rw [hr, w8 (n % 10) (by omega)]
    refine ⟨⟨Nat.le_refl 1, fun el hel => by cases List.mem_singleton.1 hel; exact isByte_mk⟩, ?_⟩
    conv => whnf
    rw [abin_cat (a := _) (b := _) rfl rfl (by rw [elsBytes_size]; show (dec (n / 10 : Nat)).size + 1 ≤ _; omega)]
    conv => whnf
    refine ⟨trivial, ?_⟩
    conv => whnf
    refine ⟨?_, rfl⟩
    rw [dec_big q']
    exact congrArg (fun b => vstr (dec (n / 10 : Nat) ++ b)) (digit_bytes (n % 10) (by omega))
end Go.Abs.E
