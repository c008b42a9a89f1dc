import Derived.Test.YtilogdijodgcgaaDoorGNums
set_option linter.unusedSimpArgs false
set_option linter.unusedVariables false
namespace Go.Abs.E
open Go Go.Abs Go.Proofs Go.RowKit
attribute [local irreducible] IntKind.wrap
@[reducible] def blkS (ps : List (List UInt8)) : Blk := .arr 1 (encS ps)
theorem sindex1_ok (s : ByteArray) (c : UInt8) : Good Tryd.prog 61 [vstr s, vstr ⟨#[c]⟩] [] (vint (idxI c s)) [] :=
  good_litB (vs := [.string s, .string ⟨#[c]⟩]) (r := .int .i64 (idxI c s)) fun w hg => by
    have hc : Calls Tryd.prog 61 #[.string s, .string ⟨#[c]⟩] w _ := Tryd.stringslite_Index_one s c w
    refine Calls.mono hc ?_
    rintro e w' ⟨rfl, rfl⟩
    refine ⟨?_, Below.refl _ _⟩
    rw [indexByte_eq]; rfl
theorem one1 (c : UInt8) : (ByteArray.mk #[c]).size = 1 := rfl
set_option maxHeartbeats 16000000 in
set_option maxRecDepth 100000 in
theorem scut1_ok (s : ByteArray) (c : UInt8) (hs : s.size ≤ 281474976710656) : Good Tryd.prog 48 [vstr s, vstr ⟨#[c]⟩] [] (.tup [vstr (cutA c s), vstr (cutB c s), vbool (cutC c s)]) [] := by
  refine good_e noM Tryd.func48 rfl rfl ?_
  conv => whnf
  refine .mk _ _ false Tryd.call61 (sindex1_ok s c) (Nat.le_of_ble_eq_true rfl) (.inl rfl) ?_
  conv => whnf
  cases hx : idx c s.data.toList with
  | none =>
    have e1 : cutA c s = s := by unfold cutA; rw [hx]
    have e2 : cutB c s = ⟨#[]⟩ := by unfold cutB; rw [hx]
    have e3 : cutC c s = false := by unfold cutC; rw [hx]; rfl
    rw [e1, e2, e3, idxI_none hx]
    conv => whnf
    refine ⟨trivial, ?_⟩
    conv => whnf
    exact ⟨rfl, rfl⟩
  | some k =>
    have hk := (idx_some hx).1
    rw [szl] at hk
    have e1 : cutA c s = s.extract 0 k := by unfold cutA; rw [hx, extract_eq]; simp
    have e2 : cutB c s = s.extract (k + 1) s.size := by
      unfold cutB; rw [hx, extract_eq]; rw [List.take_of_length_le (by rw [List.length_drop, szl]; omega)]
    have e3 : cutC c s = true := by unfold cutC; rw [hx]; rfl
    rw [e1, e2, e3, idxI_some hx]
    conv => whnf
    refine VDraw.goR [0, 0, 3, 0, 0, 0, 32, 112, 248, 7, 1023, 2047] [] [] [] rfl (by decide +kernel) ?_
    conv => whnf
    refine ⟨⟨by omega, by omega, by omega⟩, ?_⟩
    conv => whnf
    have hw : IntKind.i64.wrap ((k : Int) + ((⟨#[c]⟩ : ByteArray).size : Int)) = ((k + 1 : Nat) : Int) := by
      rw [one1, wrap_in _ (by omega) (by omega)]; omega
    rw [hw]
    refine ⟨⟨by omega, by omega, by omega⟩, ?_⟩
    conv => whnf
    refine ⟨trivial, ?_⟩
    conv => whnf
    exact ⟨rfl, rfl⟩
set_option maxHeartbeats 16000000 in
set_option maxRecDepth 100000 in
theorem cut1_ok (s : ByteArray) (c : UInt8) (hs : s.size ≤ 281474976710656) : Good Tryd.prog 34 [vstr s, vstr ⟨#[c]⟩] [] (.tup [vstr (cutA c s), vstr (cutB c s), vbool (cutC c s)]) [] := by
  refine good_e noM Tryd.func34 rfl rfl ?_
  conv => whnf
  refine .mk _ _ false Tryd.call48 (scut1_ok s c hs) (Nat.le_of_ble_eq_true rfl) (.inl rfl) ?_
  conv => whnf
  refine ⟨trivial, ?_⟩
  conv => whnf
  exact ⟨rfl, rfl⟩
end Go.Abs.E
