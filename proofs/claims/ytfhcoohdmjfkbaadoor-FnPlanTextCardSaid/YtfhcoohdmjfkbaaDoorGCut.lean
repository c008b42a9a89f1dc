import Derived.Test.YtfhcoohdmjfkbaaDoorGNum2
set_option linter.unusedSimpArgs false
set_option linter.unusedVariables false
namespace Go.Abs.D
open Go Go.Abs Go.Proofs Go.RowKit
attribute [local irreducible] IntKind.wrap
@[reducible] def blkS (ps : List (List UInt8)) : Blk := .arr 1 (encS ps)
theorem sindex1_ok (s : ByteArray) (c : UInt8) : Good Tryd.prog 69 [vstr s, vstr ⟨#[c]⟩] [] (vint (idxI c s)) [] :=
  good_litB (vs := [.string s, .string ⟨#[c]⟩]) (r := .int .i64 (idxI c s)) fun w hg => by
    have hc : Calls Tryd.prog 69 #[.string s, .string ⟨#[c]⟩] w _ := Tryd.stringslite_Index_one s c w
    refine Calls.mono hc ?_
    rintro e w' ⟨rfl, rfl⟩
    refine ⟨?_, Below.refl _ _⟩
    rw [indexByte_eq]; rfl
theorem index1_ok (s : ByteArray) (c : UInt8) : Good Tryd.prog 72 [vstr s, vstr ⟨#[c]⟩] [] (vint (idxI c s)) [] :=
  good_litB (vs := [.string s, .string ⟨#[c]⟩]) (r := .int .i64 (idxI c s)) fun w hg => by
    have hc : Calls Tryd.prog 72 #[.string s, .string ⟨#[c]⟩] w _ := Tryd.strings_Index_one s c w
    refine Calls.mono hc ?_
    rintro e w' ⟨rfl, rfl⟩
    refine ⟨?_, Below.refl _ _⟩
    rw [indexByte_eq]; rfl
theorem count1_ok (s : ByteArray) (c : UInt8) : Good Tryd.prog 71 [vstr s, vstr ⟨#[c]⟩] [] (vint ((s.data.toList.count c : Nat) : Int)) [] :=
  good_litB (vs := [.string s, .string ⟨#[c]⟩]) (r := .int .i64 ((s.data.toList.count c : Nat) : Int)) fun w hg => by
    have hc : Calls Tryd.prog 71 #[.string s, .string ⟨#[c]⟩] w _ := Tryd.strings_Count_one s c w
    refine Calls.mono hc ?_
    rintro e w' ⟨rfl, rfl⟩
    exact ⟨rfl, Below.refl _ _⟩
theorem one1 (c : UInt8) : (ByteArray.mk #[c]).size = 1 := rfl
set_option maxHeartbeats 16000000 in
set_option maxRecDepth 100000 in
theorem scut1_ok (s : ByteArray) (c : UInt8) (hs : s.size ≤ 281474976710656) : Good Tryd.prog 60 [vstr s, vstr ⟨#[c]⟩] [] (.tup [vstr (cutA c s), vstr (cutB c s), vbool (cutC c s)]) [] := by
  refine good_e noM Tryd.func60 rfl rfl ?_
  conv => whnf
  refine .mk _ _ false Tryd.call69 (sindex1_ok s c) (Nat.le_of_ble_eq_true rfl) (.inl rfl) ?_
  conv => whnf
  cases hx : idx c s.data.toList with
  | none =>
    have e1 : cutA c s = s := by unfold cutA; rw [hx]
    have e2 : cutB c s = ⟨#[]⟩ := by unfold cutB; rw [hx]
    have e3 : cutC c s = false := by unfold cutC; rw [hx]; rfl
    rw [e1, e2, e3, idxI_none hx]
    conv => whnf
    refine ⟨trivial, ?_⟩
    conv => whnf
    exact ⟨rfl, rfl⟩
  | some k =>
    have hk := (idx_some hx).1
    rw [szl] at hk
    have e1 : cutA c s = s.extract 0 k := by unfold cutA; rw [hx, extract_eq]; simp
    have e2 : cutB c s = s.extract (k + 1) s.size := by
      unfold cutB; rw [hx, extract_eq]; rw [List.take_of_length_le (by rw [List.length_drop, szl]; omega)]
    have e3 : cutC c s = true := by unfold cutC; rw [hx]; rfl
    rw [e1, e2, e3, idxI_some hx]
    conv => whnf
    refine VDraw.goR [0, 0, 3, 0, 0, 0, 32, 112, 248, 7, 1023, 2047] [] [] [] rfl (by decide +kernel) ?_
    conv => whnf
    refine ⟨⟨by omega, by omega, by omega⟩, ?_⟩
    conv => whnf
    have hw : IntKind.i64.wrap ((k : Int) + ((⟨#[c]⟩ : ByteArray).size : Int)) = ((k + 1 : Nat) : Int) := by
      rw [one1, wrap_in _ (by omega) (by omega)]; omega
    rw [hw]
    refine ⟨⟨by omega, by omega, by omega⟩, ?_⟩
    conv => whnf
    refine ⟨trivial, ?_⟩
    conv => whnf
    exact ⟨rfl, rfl⟩
set_option maxHeartbeats 16000000 in
set_option maxRecDepth 100000 in
theorem cut1_ok (s : ByteArray) (c : UInt8) (hs : s.size ≤ 281474976710656) : Good Tryd.prog 35 [vstr s, vstr ⟨#[c]⟩] [] (.tup [vstr (cutA c s), vstr (cutB c s), vbool (cutC c s)]) [] := by
  refine good_e noM Tryd.func35 rfl rfl ?_
  conv => whnf
  refine .mk _ _ false Tryd.call60 (scut1_ok s c hs) (Nat.le_of_ble_eq_true rfl) (.inl rfl) ?_
  conv => whnf
  refine ⟨trivial, ?_⟩
  conv => whnf
  exact ⟨rfl, rfl⟩
/-- The pieces that come first, and what is left. -/
theorem idx_of {c : UInt8} {m : List UInt8} {k : Nat} (h : k < m.length) (e : m[k] = c) (hn : ∀ j, j < k → ∀ hj : j < m.length, m[j] ≠ c) : idx c m = some k := by
  have hm : m = m.take k ++ c :: m.drop (k + 1) := by
    conv => lhs; rw [← List.take_append_drop k m, List.drop_eq_getElem_cons h, e]
  have := idx_append (c := c) (l := m.take k) (m := m.drop (k + 1)) fun x hx => by
    obtain ⟨j, hj, rfl⟩ := List.mem_iff_getElem.1 hx
    rw [List.length_take] at hj
    rw [List.getElem_take]
    exact hn j (by omega) (by omega)
  rw [← hm, List.length_take] at this
  rw [this]; congr 1; omega
theorem idx_none_of {c : UInt8} {m : List UInt8} (hn : ∀ j, ∀ hj : j < m.length, m[j] ≠ c) : idx c m = none :=
  idx_no fun x hx => by obtain ⟨j, hj, rfl⟩ := List.mem_iff_getElem.1 hx; exact hn j hj
theorem bytes9 : Tryd.prog.bytesOf 9 + 1 ≤ 100 := by decide +kernel
theorem app9 {n : Nat} (h : n ≤ 1099511627777) : n * (Tryd.prog.bytesOf 9 + 1) ≤ 140737488355328 := Nat.le_trans (Nat.mul_le_mul h bytes9) (by decide)
theorem encS_snoc (ps : List (List UInt8)) (p : List UInt8) : encS ps ++ [[.lit (.string (mkS p))]] = encS (ps ++ [p]) := by simp [encS]
theorem cuts_hit {c : UInt8} {l : List UInt8} {ps : List (List UInt8)} {f i : Nat} (hc : cuts c l = ps ++ cuts c (l.drop f)) (hf : f ≤ i) (hi : i < l.length) (e : l[i] = c) (hn : ∀ k, f ≤ k → k < i → ∀ hk : k < l.length, l[k] ≠ c) :
    cuts c l = (ps ++ [(l.drop f).take (i - f)]) ++ cuts c (l.drop (i + 1)) := by
  have hx : idx c (l.drop f) = some (i - f) := idx_of (by rw [List.length_drop]; omega) (by rw [List.getElem_drop]; simp only [show f + (i - f) = i by omega]; exact e) fun j hj hjl => by
    rw [List.length_drop] at hjl
    rw [List.getElem_drop]; exact hn (f + j) (by omega) (by omega) _
  rw [hc, cuts_some hx, List.drop_drop, show f + (i - f + 1) = i + 1 by omega, List.append_assoc]; rfl
theorem cuts_end {c : UInt8} {l : List UInt8} {ps : List (List UInt8)} {f : Nat} (hc : cuts c l = ps ++ cuts c (l.drop f)) (hn : ∀ k, f ≤ k → ∀ hk : k < l.length, l[k] ≠ c) :
    cuts c l = ps ++ [l.drop f] := by
  rw [hc, cuts_none (idx_none_of fun j hj => by rw [List.length_drop] at hj; rw [List.getElem_drop]; exact hn (f + j) (by omega) _)]
set_option maxHeartbeats 16000000 in
set_option maxRecDepth 100000 in
theorem l5Cuts_ok (s : ByteArray) (hs : s.size ≤ 1099511627776) (c : UInt8) :
    Good Tryd.prog 33 [vstr s, lit (.int .u8 c.toNat)] [] (.one (.hs 0 0 (cuts c s.data.toList).length)) [blkS (cuts c s.data.toList)] := by
  refine good_e noM Tryd.func33 rfl rfl ?_
  conv => whnf
  refine VLoop.enter [0, 1, 5, 6, 7] ?_
  conv => whnf
  refine VLoop.ind5 (n0 := 1) (α := Int) (β := Int) (γ := Nat) (δ := List (List PV)) (ε := Unit) noM [0, 1, 5, 6, 7] (fun a f L E _ => ⟨35, 0, [(0, vstr s), (1, lit (.int .u8 c.toNat)), (5, .one (.hs 0 0 L)), (6, vint f), (7, vint a)], [(0, some (.arr 1 E))]⟩)
    (fun a f L E _ => ∃ (i m : Nat) (ps : List (List UInt8)), a = i ∧ f = m ∧ m ≤ i ∧ i ≤ s.size ∧ L = ps.length ∧ ps.length ≤ i ∧ E = encS ps ∧ cuts c s.data.toList = ps ++ cuts c (s.data.toList.drop m) ∧ ∀ k, m ≤ k → k < i → ∀ hk : k < s.data.toList.length, s.data.toList[k] ≠ c)
    (fun a _ _ _ _ => ((s.size : Int) - a).toNat) ?_ 0 0 0 [] () ⟨0, 0, [], rfl, rfl, Nat.le_refl _, by omega, rfl, by simp, rfl, by simp, fun k h1 h2 => by omega⟩
  rintro _ _ _ _ _ ⟨i, m, ps, rfl, rfl, hmi, hi, rfl, hpi, rfl, hc, hn⟩
  have hl := szl s
  conv => whnf
  split
  · rename_i q
    have q' : (i : Int) < s.size := of_decide_eq_true q
    have hw : IntKind.i64.wrap ((i : Int) + 1) = ((i + 1 : Nat) : Int) := by rw [wrap_in _ (by omega) (by omega)]; omega
    have en : (i : Int).toNat = i := Int.toNat_natCast i
    have em : (m : Int).toNat = m := Int.toNat_natCast m
    have hb := bt_eq (s := s) (i := i) (by omega) c
    conv => whnf
    refine ⟨by omega, by omega, ?_⟩
    conv => whnf
    split
    · rename_i k
      have k' : bt s i = c.toNat := by rw [en] at k; exact beq_iff_eq.1 k
      have hh := cuts_hit hc hmi (by omega) (hb.1 k') hn
      conv => whnf
      refine ⟨⟨by omega, by omega, by omega⟩, ?_⟩
      conv => whnf
      refine ⟨⟨rfl, (encS_len ps).symm, rfl⟩, Nat.le_refl 1, ?_⟩
      conv => whnf
      refine ⟨(fun q => by cases q), app9 (show (encS ps).length + 1 ≤ _ by rw [encS_len]; omega), fun el hel => by cases List.mem_singleton.1 hel; rfl, ?_⟩
      conv => whnf
      refine ⟨_, _, _, _, (), rfl, rfl, ⟨i + 1, i + 1, ps ++ [(s.data.toList.drop m).take (i - m)], hw, hw, Nat.le_refl _, by omega, by rw [encS_len, List.length_append]; rfl, by rw [List.length_append]; simp; omega, ?_, hh, fun k h1 h2 => by omega⟩, by rw [hw]; omega⟩
      rw [em, en, extract_eq]
      exact encS_snoc _ _
    · rename_i k
      have k' : ¬ bt s i = c.toNat := by rw [en] at k; simpa using k
      conv => whnf
      refine ⟨_, _, _, _, (), rfl, rfl, ⟨i + 1, m, ps, hw, rfl, by omega, by omega, rfl, by omega, rfl, hc, fun k h1 h2 hk => ?_⟩, by rw [hw]; omega⟩
      by_cases e : k = i
      · subst e; exact fun q => k' (hb.2 q)
      · exact hn k h1 (by omega) hk
  · rename_i q
    have q' : ¬ (i : Int) < s.size := of_decide_eq_false q
    have em : (m : Int).toNat = m := Int.toNat_natCast m
    have es : (s.size : Int).toNat = s.size := Int.toNat_natCast _
    have hh := cuts_end hc fun k h1 hk => hn k h1 (by omega) hk
    conv => whnf
    refine ⟨⟨by omega, by omega, by omega⟩, ?_⟩
    conv => whnf
    refine ⟨⟨rfl, (encS_len ps).symm, rfl⟩, Nat.le_refl 1, ?_⟩
    conv => whnf
    refine ⟨(fun q => by cases q), app9 (show (encS ps).length + 1 ≤ _ by rw [encS_len]; omega), fun el hel => by cases List.mem_singleton.1 hel; rfl, ?_⟩
    conv => whnf
    refine ⟨trivial, ?_⟩
    conv => whnf
    rw [hh]
    refine ⟨?_, ?_⟩
    · rw [encS_len, List.length_append]; rfl
    · have et : (s.data.toList.drop m).take (s.size - m) = s.data.toList.drop m := List.take_of_length_le (by rw [List.length_drop]; omega)
      rw [em, es, extract_eq, et]
      exact congrArg (fun z => [Blk.arr 1 z]) (encS_snoc ps (s.data.toList.drop m))
theorem cuts_pos (c : UInt8) (l : List UInt8) : 1 ≤ (cuts c l).length := by rw [cuts_length]; omega
set_option maxHeartbeats 16000000 in
set_option maxRecDepth 100000 in
theorem gen1_ok (s : ByteArray) (hs : s.size ≤ 1099511627776) (c : UInt8) :
    Good Tryd.prog 61 [vstr s, vstr ⟨#[c]⟩, vint 0, vint (-1)] [] (.one (.hs 0 0 (cuts c s.data.toList).length)) [blkS (cuts c s.data.toList)] := by
  refine good_e noM Tryd.func61 rfl rfl ?_
  conv => whnf
  split
  · rename_i q; have := congrArg ByteArray.size (str_eq.1 q); cases this
  conv => whnf
  refine .mk _ _ false Tryd.call71 (count1_ok s c) (Nat.le_of_ble_eq_true rfl) (.inl rfl) ?_
  conv => whnf
  have hN := cuts_length (c := c) s.data.toList
  have hcl : s.data.toList.count c ≤ s.data.toList.length := List.count_le_length
  have hl := szl s
  have hw : IntKind.i64.wrap (((s.data.toList.count c : Nat) : Int) + 1) = ((cuts c s.data.toList).length : Int) := by rw [wrap_in _ (by omega) (by omega), hN]; omega
  have hm : ¬ IntKind.i64.wrap ((s.size : Int) + 1) < ((cuts c s.data.toList).length : Int) := by rw [wrap_in _ (by omega) (by omega)]; omega
  rw [hw, if_neg hm]
  have hNp := cuts_pos c s.data.toList
  generalize hNN : (cuts c s.data.toList).length = N at *
  refine ⟨by omega, by omega, ?_, ?_⟩
  · have := app9 (n := N) (by omega)
    have e : ((N * (Tryd.prog.bytesOf 9 + 1) : Nat) : Int) = (N : Int) * ((Tryd.prog.bytesOf 9 : Int) + 1) := by rw [Int.natCast_mul]; rfl
    rw [← e]; omega
  conv => whnf
  have hw1 : IntKind.i64.wrap ((N : Int) - 1) = ((N - 1 : Nat) : Int) := by rw [wrap_in _ (by omega) (by omega)]; omega
  rw [hw1]
  refine VLoop.enter [0, 1, 2, 3, 9, 10] ?_
  conv => whnf
  refine VLoop.ind3 (n0 := 1) (α := ByteArray) (β := Int) (γ := List (List PV)) noM [0, 1, 2, 3, 9, 10] (fun r a E => ⟨66, 0, [(0, vstr r), (1, vstr ⟨#[c]⟩), (2, vint 0), (3, vint ((N - 1 : Nat) : Int)), (9, .one (.hs 0 0 N)), (10, vint a)], [(0, some (.arr 1 E))]⟩)
    (fun r a E => ∃ (ps : List (List UInt8)) (rest : List UInt8), r = mkS rest ∧ rest.length ≤ s.size ∧ a = (ps.length : Int) ∧ ps.length + 1 ≤ N ∧ E = encS ps ++ List.replicate (N - ps.length) [.lit (.string ⟨#[]⟩)] ∧ cuts c s.data.toList = ps ++ cuts c rest)
    (fun _ a _ => ((N : Int) - a).toNat) ?_ s 0 (List.replicate N [.lit (.string ⟨#[]⟩)]) ⟨[], s.data.toList, (mkS_of s).symm, by omega, rfl, by simpa using hNp, rfl, rfl⟩
  rintro _ _ _ ⟨ps, rest, rfl, hrl, rfl, hpN, rfl, hc⟩
  have hcl := congrArg List.length hc
  rw [List.length_append, hNN] at hcl
  have hEl : (encS ps ++ List.replicate (N - ps.length) [PV.lit (.string ⟨#[]⟩)]).length = N := by rw [List.length_append, encS_len, List.length_replicate]; omega
  have en : ((ps.length : Nat) : Int).toNat = ps.length := Int.toNat_natCast _
  have hw : IntKind.i64.wrap (((ps.length : Nat) : Int) + 1) = ((ps.length + 1 : Nat) : Int) := by rw [wrap_in _ (by omega) (by omega)]; omega
  have ez : 0 + ps.length = ps.length := Nat.zero_add _
  conv => whnf
  split
  · rename_i q
    have q' : (ps.length : Int) < ((N - 1 : Nat) : Int) := of_decide_eq_true q
    cases hx : idx c rest with
    | none => rw [cuts_none hx] at hcl; simp at hcl; omega
    | some k =>
      have hk := (idx_some hx).1
      have hx' : idx c (mkS rest).data.toList = some k := hx
      conv => whnf
      refine .mk _ _ false Tryd.call72 (index1_ok (mkS rest) c) (Nat.le_of_ble_eq_true rfl) (.inl rfl) ?_
      conv => whnf
      rw [idxI_some hx']
      conv => whnf
      have hsz := mkS_size rest
      have hk0 : IntKind.i64.wrap ((k : Int) + 0) = k := by rw [Int.add_zero, wrap_in _ (by omega) (by omega)]
      have hk1 : IntKind.i64.wrap ((k : Int) + ((⟨#[c]⟩ : ByteArray).size : Int)) = ((k + 1 : Nat) : Int) := by rw [one1, wrap_in _ (by omega) (by omega)]; omega
      have ek1 : ((k + 1 : Nat) : Int).toNat = k + 1 := Int.toNat_natCast _
      have ek : (k : Int).toNat = k := Int.toNat_natCast _
      have es : ((mkS rest).size : Int).toNat = (mkS rest).size := Int.toNat_natCast _
      rw [hk0]
      refine ⟨⟨by omega, by omega, by omega⟩, ?_⟩
      conv => whnf
      refine ⟨by omega, by omega, by rw [hEl]; omega, ?_⟩
      conv => whnf
      refine ⟨_, (show (encS ps ++ List.replicate (N - ps.length) [PV.lit (.string ⟨#[]⟩)]).getD (0 + ps.length) [] = [PV.lit (.string ⟨#[]⟩)] from ?_), by rw [hEl]; omega, ?_⟩
      · rw [ez, List.getD_eq_getElem?_getD, List.getElem?_append_right (by rw [encS_len]; omega), encS_len, Nat.sub_self, List.getElem?_replicate, if_pos (by omega)]; rfl
      conv => whnf
      rw [hk1]
      refine ⟨⟨by omega, by omega, by omega⟩, ?_⟩
      conv => whnf
      refine ⟨_, _, _, rfl, rfl, ⟨ps ++ [rest.take k], rest.drop (k + 1), ?_, by rw [List.length_drop]; omega, by rw [hw, List.length_append]; rfl, by rw [List.length_append]; simp; omega, ?_, ?_⟩, by rw [hw]; omega⟩
      · rw [ek1, es, extract_eq, mkS_list, List.take_of_length_le (by rw [List.length_drop]; omega)]
      · rw [en, ez, ek]
        have e1 : N - ps.length = (N - (ps ++ [rest.take k]).length) + 1 := by rw [List.length_append]; simp; omega
        rw [e1]
        have := set_fill (encS ps) (N - (ps ++ [rest.take k]).length) [PV.lit (.string ⟨#[]⟩)] [PV.lit (.string (mkS (rest.take k)))]
        rw [encS_len, encS_snoc] at this
        rw [← this]
        congr 1
        show [PV.lit (.string ((mkS rest).extract 0 k))] = _
        rw [extract_eq, mkS_list, List.drop_zero, Nat.sub_zero]
      · rw [hc, cuts_some hx, List.append_assoc]; rfl
  · rename_i q
    have q' : ¬ (ps.length : Int) < ((N - 1 : Nat) : Int) := of_decide_eq_false q
    have hlast : cuts c rest = [rest] := by
      cases hx : idx c rest with
      | none => exact cuts_none hx
      | some k =>
        have := cuts_some hx
        have h2 := cuts_pos c (rest.drop (k + 1))
        have h3 := congrArg List.length this
        rw [List.length_cons] at h3
        omega
    conv => whnf
    refine ⟨by omega, by omega, by rw [hEl]; omega, ?_⟩
    conv => whnf
    refine ⟨_, (show (encS ps ++ List.replicate (N - ps.length) [PV.lit (.string ⟨#[]⟩)]).getD (0 + ps.length) [] = [PV.lit (.string ⟨#[]⟩)] from ?_), by rw [hEl]; omega, ?_⟩
    · rw [ez, List.getD_eq_getElem?_getD, List.getElem?_append_right (by rw [encS_len]; omega), encS_len, Nat.sub_self, List.getElem?_replicate, if_pos (by omega)]; rfl
    have hN1 : N = ps.length + 1 := by omega
    conv => whnf
    rw [hw]
    refine ⟨⟨by omega, by omega, by omega, by rw [List.length_set, hEl]; omega, by decide +kernel, by decide +kernel⟩, ?_⟩
    conv => whnf
    refine ⟨trivial, ?_⟩
    conv => whnf
    refine ⟨?_, ?_⟩
    · show AV.one (.hs 0 0 (((ps.length + 1 : Nat) : Int).toNat - 0)) = _
      rw [Int.toNat_natCast, hN1]; rfl
    · show [Blk.arr 1 (List.set _ _ _)] = _
      rw [en, ez]
      have e1 : N - ps.length = 0 + 1 := by omega
      rw [e1]
      have := set_fill (encS ps) 0 [PV.lit (.string ⟨#[]⟩)] [PV.lit (.string (mkS rest))]
      rw [encS_len, encS_snoc] at this
      rw [show splice [PV.lit (.string ⟨#[]⟩)] 0 [PV.lit (.string (mkS rest))] = [PV.lit (.string (mkS rest))] from rfl, this, hc, hlast, List.replicate_zero, List.append_nil]
set_option maxHeartbeats 16000000 in
set_option maxRecDepth 100000 in
theorem split1_ok (s : ByteArray) (hs : s.size ≤ 1099511627776) (c : UInt8) :
    Good Tryd.prog 36 [vstr s, vstr ⟨#[c]⟩] [] (.one (.hs 0 0 (cuts c s.data.toList).length)) [blkS (cuts c s.data.toList)] := by
  refine good_e noM Tryd.func36 rfl rfl ?_
  conv => whnf
  refine .mk _ _ false Tryd.call61 (gen1_ok s hs c) (Nat.le_of_ble_eq_true rfl) (.inl rfl) ?_
  conv => whnf
  refine ⟨trivial, ?_⟩
  conv => whnf
  exact ⟨rfl, rfl⟩
end Go.Abs.D
