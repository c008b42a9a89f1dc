import Derived.Test.YtilogdijodgcgaaDoorGSha4
set_option linter.unusedSimpArgs false
set_option linter.unusedVariables false
namespace Go.Abs.E
open Go Go.Abs Go.Proofs Go.RowKit
attribute [local irreducible] IntKind.wrap
def hexD : ByteArray := ⟨#[48, 49, 50, 51, 52, 53, 54, 55, 56, 57, 97, 98, 99, 100, 101, 102]⟩
def h2 (c : Int) : List Int := [bt hexD (IntKind.u8.wrap (c.tdiv 16)).toNat, bt hexD (c.tmod 16).toNat]
def hexL (s : ByteArray) (i : Nat) : List Int := ((bsOf s).take i).flatMap h2
def hexS (s : ByteArray) : ByteArray := elsBytes ((hexL s s.size).map e8)
theorem hexL_len (s : ByteArray) : ∀ i, i ≤ s.size → (hexL s i).length = 2 * i := by
  intro i
  induction i with
  | zero => intro _; rfl
  | succ i ih =>
    intro h
    unfold hexL at *
    rw [List.take_succ_eq_append_getElem (by rw [bsOf_len]; omega), List.flatMap_append, List.length_append, ih (by omega)]
    show _ + 2 = _; omega
theorem hexL_snoc (s : ByteArray) {i : Nat} (h : i < s.size) : hexL s i ++ h2 (bt s i) = hexL s (i + 1) := by
  unfold hexL
  rw [List.take_succ_eq_append_getElem (by rw [bsOf_len]; omega), List.flatMap_append]
  congr 1
  have : (bsOf s)[i]'(by rw [bsOf_len]; exact h) = bt s i := by
    unfold bsOf bt
    rw [List.getElem_map, List.getD_eq_getElem?_getD, List.getElem?_eq_getElem (by simpa using h)]; rfl
  rw [this]; simp
theorem len2 (a b : Int) : ∀ el ∈ [e8 a, e8 b], el.length = 1 := by
  intro el hel
  simp only [List.mem_cons, List.not_mem_nil, or_false] at hel
  rcases hel with rfl | rfl <;> rfl
theorem btr (s : ByteArray) (i : Nat) : 0 ≤ bt s i ∧ bt s i ≤ 255 := by
  unfold bt
  have := UInt8.toNat_lt (s.data.toList.getD i 0); constructor <;> omega
set_option maxHeartbeats 16000000 in
set_option maxRecDepth 100000 in
theorem specHex_ok (s : ByteArray) (hs : s.size ≤ 1000000000) : Good Tryd.prog 57 [vstr s] [] (vstr (hexS s)) [] := by
  refine good_e noM Tryd.func57 rfl rfl ?_
  conv => whnf
  refine VLoop.enter [0, 3, 4] ?_
  conv => whnf
  refine VLoop.ind3 (n0 := 1) (α := Int) (β := Nat) (γ := List (List PV)) noM [0, 3, 4] (fun a L E => ⟨27, 0, [(0, vstr s), (3, .one (.hs 0 0 L)), (4, vint a)], [(0, some (.arr 1 E))]⟩)
    (fun a L E => ∃ i : Nat, a = i ∧ i ≤ s.size ∧ 2 * i = L ∧ E = (hexL s i).map e8) (fun a _ _ => (s.size - a).toNat) ?_ 0 0 [] ⟨0, rfl, by omega, rfl, rfl⟩
  rintro _ _ _ ⟨i, rfl, hi, rfl, rfl⟩
  have hln : ((hexL s i).map e8).length = 2 * i := by rw [List.length_map, hexL_len s i hi]
  conv => whnf
  split
  · rename_i q
    have q' : (i : Int) < s.size := of_decide_eq_true q
    have hw : IntKind.i64.wrap ((i : Int) + 1) = ((i + 1 : Nat) : Int) := by rw [wrap_in _ (by omega) (by omega)]; omega
    have en : ((i : Nat) : Int).toNat = i := Int.toNat_natCast i
    have hb := btr s i
    have hq : IntKind.u8.wrap ((bt s i).tdiv 16) = (bt s i).tdiv 16 := by rw [Int.tdiv_eq_ediv_of_nonneg (by omega)]; exact wrap_u8 _ (by omega) (by omega)
    have hq1 : 0 ≤ (bt s i).tdiv 16 ∧ (bt s i).tdiv 16 < 16 := by rw [Int.tdiv_eq_ediv_of_nonneg (by omega)]; omega
    have hr1 : 0 ≤ (bt s i).tmod 16 ∧ (bt s i).tmod 16 < 16 := by rw [Int.tmod_eq_emod_of_nonneg (by omega)]; omega
    conv => whnf
    refine VDraw.goR [0, 0, 0, 6, 14, 30, 0, 0, 192, 448, 960, 2046, 4095, 8191] [11, 12] [] [(12, [0])] rfl (by decide +kernel) ?_
    conv => whnf
    refine ⟨by omega, by omega, ?_⟩
    conv => whnf
    rw [en]
    refine ⟨by rw [hq]; exact hq1.1, by rw [hq]; exact hq1.2, ?_⟩
    conv => whnf
    refine ⟨by omega, by omega, ?_⟩
    conv => whnf
    rw [en]
    refine ⟨hr1.1, hr1.2, ?_⟩
    conv => whnf
    refine ⟨⟨rfl, hln.symm, rfl⟩, Nat.le_refl 2, ?_⟩
    conv => whnf
    refine ⟨(fun q => by cases q), app8 (show ((hexL s i).map e8).length + 2 ≤ _ by omega), len2 _ _, ?_⟩
    conv => whnf
    refine ⟨_, _, _, rfl, rfl, ⟨i + 1, hw, by omega, ?_, ?_⟩, by rw [hw]; omega⟩
    · rw [hln]; rfl
    · show (hexL s i).map e8 ++ (h2 (bt s i)).map e8 = _
      rw [← List.map_append, hexL_snoc s (by omega)]
  · rename_i q
    have q' : ¬ (i : Int) < s.size := of_decide_eq_false q
    obtain rfl : i = s.size := by omega
    conv => whnf
    refine ⟨⟨by rw [hln]; omega, fun el hel => allB _ el (List.mem_of_mem_drop (List.mem_of_mem_take hel))⟩, ?_⟩
    conv => whnf
    refine ⟨trivial, ?_⟩
    conv => whnf
    refine ⟨?_, rfl⟩
    show vstr (elsBytes (List.take (2 * s.size) (List.drop 0 ((hexL s s.size).map e8)))) = _
    rw [List.drop_zero, List.take_of_length_le (by omega)]
    rfl
set_option maxHeartbeats 16000000 in
set_option maxRecDepth 100000 in
theorem implHex_ok (s : ByteArray) (hs : s.size ≤ 1000000000) : Good Tryd.prog 59 [vstr s] [] (vstr (hexS s)) [] := by
  refine good_e noM Tryd.func59 rfl rfl ?_
  conv => whnf
  refine VLoop.enter [0, 3, 4] ?_
  conv => whnf
  refine VLoop.ind3 (n0 := 1) (α := Int) (β := Nat) (γ := List (List PV)) noM [0, 3, 4] (fun a L E => ⟨27, 0, [(0, vstr s), (3, .one (.hs 0 0 L)), (4, vint a)], [(0, some (.arr 1 E))]⟩)
    (fun a L E => ∃ i : Nat, a = i ∧ i ≤ s.size ∧ 2 * i = L ∧ E = (hexL s i).map e8) (fun a _ _ => (s.size - a).toNat) ?_ 0 0 [] ⟨0, rfl, by omega, rfl, rfl⟩
  rintro _ _ _ ⟨i, rfl, hi, rfl, rfl⟩
  have hln : ((hexL s i).map e8).length = 2 * i := by rw [List.length_map, hexL_len s i hi]
  conv => whnf
  split
  · rename_i q
    have q' : (i : Int) < s.size := of_decide_eq_true q
    have hw : IntKind.i64.wrap ((i : Int) + 1) = ((i + 1 : Nat) : Int) := by rw [wrap_in _ (by omega) (by omega)]; omega
    have en : ((i : Nat) : Int).toNat = i := Int.toNat_natCast i
    have hb := btr s i
    have hq : IntKind.u8.wrap ((bt s i).tdiv 16) = (bt s i).tdiv 16 := by rw [Int.tdiv_eq_ediv_of_nonneg (by omega)]; exact wrap_u8 _ (by omega) (by omega)
    have hq1 : 0 ≤ (bt s i).tdiv 16 ∧ (bt s i).tdiv 16 < 16 := by rw [Int.tdiv_eq_ediv_of_nonneg (by omega)]; omega
    have hr1 : 0 ≤ (bt s i).tmod 16 ∧ (bt s i).tmod 16 < 16 := by rw [Int.tmod_eq_emod_of_nonneg (by omega)]; omega
    conv => whnf
    refine VDraw.goR [0, 0, 0, 6, 14, 30, 0, 0, 192, 448, 960, 2046, 4095, 8191] [11, 12] [] [(12, [0])] rfl (by decide +kernel) ?_
    conv => whnf
    refine ⟨by omega, by omega, ?_⟩
    conv => whnf
    rw [en]
    refine ⟨by rw [hq]; exact hq1.1, by rw [hq]; exact hq1.2, ?_⟩
    conv => whnf
    refine ⟨by omega, by omega, ?_⟩
    conv => whnf
    rw [en]
    refine ⟨hr1.1, hr1.2, ?_⟩
    conv => whnf
    refine ⟨⟨rfl, hln.symm, rfl⟩, Nat.le_refl 2, ?_⟩
    conv => whnf
    refine ⟨(fun q => by cases q), app8 (show ((hexL s i).map e8).length + 2 ≤ _ by omega), len2 _ _, ?_⟩
    conv => whnf
    refine ⟨_, _, _, rfl, rfl, ⟨i + 1, hw, by omega, ?_, ?_⟩, by rw [hw]; omega⟩
    · rw [hln]; rfl
    · show (hexL s i).map e8 ++ (h2 (bt s i)).map e8 = _
      rw [← List.map_append, hexL_snoc s (by omega)]
  · rename_i q
    have q' : ¬ (i : Int) < s.size := of_decide_eq_false q
    obtain rfl : i = s.size := by omega
    conv => whnf
    refine ⟨⟨by rw [hln]; omega, fun el hel => allB _ el (List.mem_of_mem_drop (List.mem_of_mem_take hel))⟩, ?_⟩
    conv => whnf
    refine ⟨trivial, ?_⟩
    conv => whnf
    refine ⟨?_, rfl⟩
    show vstr (elsBytes (List.take (2 * s.size) (List.drop 0 ((hexL s s.size).map e8)))) = _
    rw [List.drop_zero, List.take_of_length_le (by omega)]
    rfl
theorem elsB_size (l : List Int) : (elsBytes (l.map e8)).size = l.length := by rw [elsBytes_size, List.length_map]
theorem sumS_size (s : ByteArray) : (sumS s).size = 32 := by unfold sumS; rw [elsB_size]; rfl
def hashS (s : ByteArray) : ByteArray := hexS (sumS s)
theorem hashS_size (s : ByteArray) : (hashS s).size = 64 := by unfold hashS hexS; rw [elsB_size, hexL_len _ _ (Nat.le_refl _), sumS_size]
set_option maxHeartbeats 16000000 in
set_option maxRecDepth 100000 in
theorem specHash_ok (s : ByteArray) (hs : s.size ≤ 1000000000) : Good Tryd.prog 46 [vstr s] [] (vstr (hashS s)) [] := by
  refine good_e noM Tryd.func46 rfl rfl ?_
  conv => whnf
  refine .mk _ _ false Tryd.call58 (specSum_ok s hs) (Nat.le_of_ble_eq_true rfl) (.inl rfl) ?_
  conv => whnf
  refine .mk _ _ false Tryd.call57 (specHex_ok (sumS s) (by rw [sumS_size]; decide)) (Nat.le_of_ble_eq_true rfl) (.inl rfl) ?_
  conv => whnf
  refine ⟨trivial, ?_⟩
  conv => whnf
  exact ⟨rfl, rfl⟩
end Go.Abs.E
