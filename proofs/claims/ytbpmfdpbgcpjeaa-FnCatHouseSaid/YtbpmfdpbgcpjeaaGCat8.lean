import Derived.Test.YtbpmfdpbgcpjeaaGCat7
set_option linter.unusedSimpArgs false
set_option linter.unusedVariables false
namespace Go.Abs.C
open Go Go.Abs Go.Proofs
attribute [local irreducible] IntKind.wrap

set_option maxHeartbeats 16000000 in
set_option maxRecDepth 100000 in
theorem pdq_ok (l : Is) (last v : Int) (t : RItem) (p : CatP l last) (hf : ∀ k, k < l.length → same (ia l k) t.a t.b = false) :
    Good Try.prog 81 [.one (.hs 0 0 (l.length + 1)), vint 0, vint ((l.length + 1 : Nat) : Int), vint v, .clo 44 []] [.arr 4 ((l ++ [t]).map encItem)] (.tup []) [.arr 4 ((putAt l (kOf l t.a t.b) t).map encItem)] := by
  have hl8 := p.len
  refine good_e sM Try.func81 rfl rfl ?_
  conv => whnf
  refine VLoop.step sM ?_
  conv => whnf
  have hw : IntKind.i64.wrap (((l.length + 1 : Nat) : Int) - 0) = ((l.length + 1 : Nat) : Int) := by rw [wi _ (by omega) (by omega)]; omega
  split
  case h_2 => rename_i q; have q' := of_decide_eq_false q; rw [hw] at q'; omega
  conv => whnf
  refine .mk _ _ false Try.call83 (insertion_ok l last t p hf) (Nat.le_of_ble_eq_true rfl) (.inl rfl) ?_
  conv => whnf
  refine ⟨trivial, ?_⟩
  conv => whnf
  exact ⟨rfl, rfl⟩
set_option maxHeartbeats 16000000 in
set_option maxRecDepth 100000 in
theorem sort_ok (l : Is) (last : Int) (t : RItem) (p : CatP l last) (hf : ∀ k, k < l.length → same (ia l k) t.a t.b = false) :
    Good Try.prog 77 [.one (.hs 0 0 (l.length + 1)), .clo 44 []] [.arr 4 ((l ++ [t]).map encItem)] (.tup []) [.arr 4 ((putAt l (kOf l t.a t.b) t).map encItem)] := by
  have hl8 := p.len
  refine good_e sM Try.func77 rfl rfl ?_
  conv => whnf
  refine ⟨trivial, ?_⟩
  conv => whnf
  have hw : IntKind.u64.wrap ((l.length + 1 : Nat) : Int) = ((l.length + 1 : Nat) : Int) := w64 _ (by omega)
  rw [hw]
  obtain ⟨_, _, ⟨v, rfl, rfl⟩, hg⟩ := bits_ok (l.length + 1) (by omega)
  refine .mk _ _ false Try.call82 hg (Nat.le_of_ble_eq_true rfl) (.inl rfl) ?_
  conv => whnf
  refine .mk _ _ false Try.call81 (pdq_ok l last v t p hf) (Nat.le_of_ble_eq_true rfl) (.inl rfl) ?_
  conv => whnf
  refine ⟨trivial, ?_⟩
  conv => whnf
  exact ⟨rfl, rfl⟩

@[reducible] def putR (T : Is × Int × Int) : AV := .tup [.agg [.p (.lit (.int .i64 T.2.1)), .hs 0 0 T.1.length], vint T.2.2]
@[reducible] def putB (T : Is × Int × Int) : List Blk := [.arr 4 (T.1.map encItem)]
@[reducible] def subCat (l : Is) (n : Nat) (last : Int) : AV := .agg [.p (.lit (.int .i64 last)), .p (.sl (List.take n (List.drop 0 (l.map encItem))))]
theorem sub_all {l : Is} {n : Nat} (hn : n = l.length) : List.take n (List.drop 0 (l.map encItem)) = l.map encItem := by
  rw [List.drop_zero, List.take_of_length_le (by simp; omega)]
theorem sub_cat {l : Is} {n : Nat} (hn : n = l.length) (last : Int) : subCat l n last = cat l last := by unfold subCat cat; rw [sub_all hn]
theorem arr_noSl (l : Is) : ∀ k ∈ [Blk.arr 4 (l.map encItem)], k.noSl := by
  intro k hk
  cases List.mem_singleton.1 hk
  intro el hel x hx
  obtain ⟨y, _, rfl⟩ := List.mem_map.1 hel
  unfold encItem at hx
  simp only [List.mem_cons, List.not_mem_nil, or_false] at hx
  rcases hx with rfl | rfl | rfl | rfl <;> trivial
theorem clone' {l : Is} {n : Nat} (hn : n = l.length) (last : Int) (hl : l.length < 1100000) : Good Try.prog 74 [subCat l n last] [] (own l last) [.arr 4 (l.map encItem)] := by
  rw [sub_cat hn]; exact clone_ok l last hl
set_option maxHeartbeats 16000000 in
set_option maxRecDepth 100000 in
theorem put_ok (l : Is) (last h : Int) (n t : ByteArray) (p : CatP l last) (hn : n.size ≤ 9223372036854775807) : Good Try.prog 60 [cat l last, vint h, vstr n, vstr t] [] (putR (putC l last h n t)) (putB (putC l last h n t)) := by
  have hl8 := p.len
  have hlast := inR_iff.1 p.lst
  have hm : (l.map encItem).length = l.length := by rw [List.length_map]
  refine good_e sM Try.func60 rfl rfl ?_
  conv => whnf
  refine .mk _ _ false Try.call74 (clone_ok l last (by omega)) (Nat.le_of_ble_eq_true rfl) (.inl rfl) ?_
  conv => whnf
  refine .mk _ _ false Try.call42 (publ_ok ⟨h, n, 0, t⟩ hn) (Nat.le_of_ble_eq_true rfl) (.inl rfl) ?_
  conv => whnf
  generalize hT : putC l last h n t = T
  unfold putC at hT
  cases h1 : itemOk ⟨h, n, 0, t⟩ with
  | false =>
    rw [h1] at hT
    try simp only at hT
    subst hT
    conv => whnf
    refine ⟨⟨⟨by decide +kernel, Nat.le_of_ble_eq_true rfl⟩, trivial⟩, ?_⟩
    conv => whnf
    exact ⟨rfl, rfl⟩
  | true =>
    rw [h1] at hT
    try simp only at hT
    have ht300 : t.size ≤ 300 := by
      unfold itemOk at h1
      simp only [Bool.and_eq_true] at h1
      have := (inR_iff.1 h1.2.2).2
      omega
    conv => whnf
    refine .mk _ _ false Try.call49 (find_ok l last h n (by omega)) (Nat.le_of_ble_eq_true rfl) (.inl rfl) ?_
    conv => whnf
    split
    · rename_i h2
      rw [h2] at hT
      try simp only at hT
      subst hT
      conv => whnf
      refine ⟨⟨⟨by decide +kernel, Nat.le_of_ble_eq_true rfl⟩, trivial⟩, ?_⟩
      conv => whnf
      exact ⟨rfl, rfl⟩
    · rename_i h2
      rw [h2] at hT
      try simp only at hT
      have hno := findI_neg (p := fun x => same x h n) (l := l) (by have := of_decide_eq_false h2; omega)
      have hbo : bytesOf l h ≤ 8 * 300 := Nat.le_trans (bytesOf_le h 300 l p.small) (Nat.mul_le_mul_right _ hl8)
      conv => whnf
      split
      · rename_i h3
        simp only [beq_iff_eq] at h3
        rw [decide_eq_true (p := l.length ≥ 8) (by omega)] at hT
        simp only [Bool.true_or] at hT
        subst hT
        conv => whnf
        refine ⟨⟨⟨by decide +kernel, Nat.le_of_ble_eq_true rfl⟩, trivial⟩, ?_⟩
        conv => whnf
        exact ⟨rfl, rfl⟩
      · rename_i h3
        simp only [beq_eq_false_iff_ne] at h3
        rw [decide_eq_false (p := l.length ≥ 8) (by omega)] at hT
        simp only [Bool.false_or] at hT
        conv => whnf
        split
        · rename_i h4
          simp only [beq_iff_eq] at h4
          rw [decide_eq_true (p := last ≥ 99999) (by omega)] at hT
          simp only [Bool.true_or] at hT
          subst hT
          conv => whnf
          refine ⟨⟨⟨by decide +kernel, Nat.le_of_ble_eq_true rfl⟩, trivial⟩, ?_⟩
          conv => whnf
          exact ⟨rfl, rfl⟩
        · rename_i h4
          simp only [beq_eq_false_iff_ne] at h4
          rw [decide_eq_false (p := last ≥ 99999) (by omega)] at hT
          simp only [Bool.false_or] at hT
          conv => whnf
          refine .mk _ _ false Try.call45 (bytes_ok l last h (by omega) (fun x hx => Nat.le_trans (p.small x hx) (by decide))) (Nat.le_of_ble_eq_true rfl) (.inl rfl) ?_
          conv => whnf
          have hwb : IntKind.i64.wrap ((bytesOf l h : Int) + (t.size : Int)) = bytesOf l h + t.size := wi _ (by omega) (by omega)
          split
          · rename_i h5
            have h5' := of_decide_eq_true h5
            rw [hwb] at h5'
            rw [decide_eq_true (p := bytesOf l h + t.size > 500) (by omega)] at hT
            try simp only at hT
            subst hT
            conv => whnf
            refine ⟨⟨⟨by decide +kernel, Nat.le_of_ble_eq_true rfl⟩, trivial⟩, ?_⟩
            conv => whnf
            exact ⟨rfl, rfl⟩
          · rename_i h5
            have h5' := of_decide_eq_false h5
            rw [hwb] at h5'
            rw [decide_eq_false (p := bytesOf l h + t.size > 500) (by omega)] at hT
            try simp only at hT
            subst hT
            conv => whnf
            refine ⟨⟨rfl, hm.symm, rfl⟩, Nat.le_refl 1, ?_⟩
            conv => whnf
            have hwl : IntKind.i64.wrap (last + 1) = last + 1 := wi _ (by omega) (by omega)
            refine ⟨(fun q => by cases q), Nat.le_trans (Nat.mul_le_mul (show (l.map encItem).length + 1 ≤ 1100000 by omega) bytes36) (by decide), fun el hel => by cases List.mem_singleton.1 hel; rfl, ?_⟩
            conv => whnf
            rw [hwl]
            have hso := sort_ok l last ⟨h, n, last + 1, t⟩ p hno
            rw [List.map_append] at hso
            rw [hm]
            refine .mk _ _ false Try.call77 hso (Nat.le_of_ble_eq_true rfl) (.inl rfl) ?_
            conv => whnf
            have hpl : (putAt l (kOf l h n) ⟨h, n, last + 1, t⟩).length = l.length + 1 := putAt_len (kOf_le l h n)
            have hpm : ((putAt l (kOf l h n) ⟨h, n, last + 1, t⟩).map encItem).length = l.length + 1 := by rw [List.length_map]; exact hpl
            refine ⟨(show 0 + (l.length + 1) ≤ ((putAt l (kOf l h n) ⟨h, n, last + 1, t⟩).map encItem).length by omega), ?_⟩
            conv => whnf
            refine .mk _ _ false Try.call74 (clone' (l := putAt l (kOf l h n) ⟨h, n, last + 1, t⟩) (n := l.length + 1) hpl.symm (last + 1) (by omega)) (Nat.le_of_ble_eq_true rfl) (.inr ⟨AV.nsB_iff rfl, arr_noSl _⟩) ?_
            conv => whnf
            refine ⟨⟨⟨by decide +kernel, Nat.le_of_ble_eq_true rfl⟩, trivial⟩, ?_⟩
            conv => whnf
            exact ⟨rfl, rfl⟩
theorem hs_len2 {L : Is} {a b : Int} {n : Nat} (hn : n = L.length) (e : a = b) : AV.agg [.p (.lit (.int .i64 a)), .hs 0 0 n] = own L b := by rw [hn, e]
theorem appB {n : Nat} (h : n ≤ 1100000) : n * (Try.prog.bytesOf 36 + 1) ≤ 140737488355328 := Nat.le_trans (Nat.mul_le_mul h bytes36) (by decide)
set_option maxHeartbeats 16000000 in
set_option maxRecDepth 100000 in
theorem l9Put_ok (l : Is) (last : Int) (x : RItem) (p : CatP l last) : Good Try.prog 61 [cat l last, .agg ((encItem x).map .p)] [] (own (putAt l (kOf l x.a x.b) { x with c := last + 1 }) (last + 1)) [.arr 4 ((putAt l (kOf l x.a x.b) { x with c := last + 1 }).map encItem)] := by
  have hl8 := p.len
  have hlast := inR_iff.1 p.lst
  have hm : (l.map encItem).length = l.length := by rw [List.length_map]
  refine good_e noM Try.func61 rfl rfl ?_
  conv => whnf
  refine VLoop.enter [2, 3, 4, 5] ?_
  conv => whnf
  refine VLoop.ind1 (n0 := 3) (α := Int) noM [2, 3, 4, 5] (fun a => ⟨49, 0, [(2, .one (.hp 0 0 0)), (3, .one (.hp 1 0 0)), (4, .one (.hp 2 0 0)), (5, vint a)], [(0, some (.box [.p (.lit (.int .i64 last)), .p (.sl (l.map encItem))])), (1, some (.box ((encItem x).map .p))), (2, some (.box [.p (.lit (.int .i64 0)), .p (.lit (.slice none 0 0))]))]⟩)
    (fun a => ∃ k : Nat, a = k ∧ k ≤ l.length ∧ ∀ j, j < k → less (ia l j) x.a x.b = true) (fun a => ((l.length : Int) - a).toNat) ?_ 0 ⟨0, rfl, by omega, fun k hk => by omega⟩
  rintro _ ⟨k, rfl, hk, hp⟩
  have hw : IntKind.i64.wrap ((k : Int) + 1) = k + 1 := wi _ (by omega) (by omega)
  have en : (k : Int).toNat = k := Int.toNat_natCast k
  conv => whnf
  refine VDraw.go ⟨_, [0, 0, 2, 6, 15, 31, 63, 127, 63, 511, 1023, 63, 2111, 63, 8255, 32767, 65535], [15], []⟩ rfl rfl (by decide +kernel) ?_
  conv => whnf
  have tail : (k < l.length → less (ia l k) x.a x.b = false) → k = kOf l x.a x.b := fun h => kOf_eq x.a x.b hk hp h
  split
  · rename_i q
    have q' := of_decide_eq_true q
    have hkl : k < l.length := by omega
    conv => whnf
    refine ⟨by omega, by omega, _, ia_at l en hkl, ?_⟩
    conv => whnf
    refine .mk _ _ false Try.call38 (l9Less_ok _ _ _) (Nat.le_of_ble_eq_true rfl) (.inl rfl) ?_
    conv => whnf
    cases hq : less (ia l k) x.a x.b with
    | true =>
      conv => whnf
      refine ⟨_, rfl, rfl, ⟨k + 1, by rw [hw]; simp, by omega, fun j hj => ?_⟩, by rw [hw]; omega⟩
      by_cases e : j = k
      · subst e; exact hq
      · exact hp j (by omega)
    | false =>
      have hkk := tail (fun _ => hq)
      rw [← hkk]
      conv => whnf
      refine VDraw.go ⟨219, [0, 0, 2, 0, 14, 31, 0, 64, 255, 0, 512, 0, 3584, 8191, 16383, 32767], [0, 5, 7, 8, 13, 15], [(5, [219]), (8, [259]), (13, [283]), (15, [171])]⟩ rfl rfl (by decide +kernel) ?_
      conv => whnf
      have ek : List.take ((k : Int).toNat - Int.toNat 0) (List.drop (Int.toNat 0) (l.map encItem)) = (l.take k).map encItem := by
        rw [en]; show List.take (k - 0) (List.drop 0 _) = _; rw [List.drop_zero, Nat.sub_zero, List.map_take]
      have ed : List.take (((l.map encItem).length : Int).toNat - (k : Int).toNat) (List.drop (k : Int).toNat (l.map encItem)) = (l.drop k).map encItem := by
        rw [en, Int.toNat_natCast, List.take_of_length_le (by rw [List.length_drop]; omega), List.map_drop]
      have lt8 : ((l.take k).map encItem).length ≤ 8 := by rw [List.length_map, List.length_take]; omega
      have ld8 : ((l.drop k).map encItem).length ≤ 8 := by rw [List.length_map, List.length_drop]; omega
      refine ⟨⟨by omega, by omega, by omega, by decide +kernel, fun x hx => (enc_len l x hx).trans (by decide +kernel)⟩, ?_⟩
      rw [ek]
      conv => whnf
      refine ⟨⟨rfl, rfl, rfl⟩, trivial, ?_⟩
      conv => whnf
      refine ⟨(fun q => by cases q), Nat.le_trans (Nat.mul_le_mul (show 0 + ((l.take k).map encItem).length ≤ 1100000 by omega) bytes36) (by decide), enc_len _, ?_⟩
      conv => whnf
      refine ⟨⟨rfl, (by rw [List.length_append]), rfl⟩, Nat.le_refl 1, ?_⟩
      conv => whnf
      refine ⟨(fun q => by cases q), appB (by rw [List.length_append]; show (0 + ((l.take k).map encItem).length) + 1 ≤ 1100000; omega), fun el hel => by cases List.mem_singleton.1 hel; rfl, ?_⟩
      conv => whnf
      refine ⟨⟨by omega, by omega, by omega, by decide +kernel, fun x hx => (enc_len l x hx).trans (by decide +kernel)⟩, ?_⟩
      rw [ed]
      conv => whnf
      refine ⟨⟨rfl, (by simp only [List.length_append]), rfl⟩, trivial, ?_⟩
      conv => whnf
      refine ⟨(fun q => by cases q), appB (by rw [List.length_append, List.length_append]; show ((0 + ((l.take k).map encItem).length) + 1) + _ ≤ 1100000; omega), enc_len _, ?_⟩
      conv => whnf
      refine ⟨⟨⟨by decide +kernel, Nat.le_of_ble_eq_true rfl⟩, trivial⟩, ?_⟩
      conv => whnf
      refine ⟨hs_len2 ?_ (wi _ (by omega) (by omega)), congrArg (fun E => [Blk.arr 4 E]) (show ([] ++ (l.take k).map encItem ++ [encItem { x with c := IntKind.i64.wrap (last + 1) }]) ++ (l.drop k).map encItem = _ from ?_)⟩
      · try simp only [List.length_append]
        rw [putAt_len hk]
        show 0 + ((l.take k).map encItem).length + 1 + ((l.drop k).map encItem).length = _
        rw [List.length_map, List.length_map, List.length_take, List.length_drop]; omega
      · rw [wi (last + 1) (by omega) (by omega)]
        unfold putAt
        rw [List.map_append, List.map_cons, List.nil_append, List.append_assoc]; rfl
  · rename_i q
    have q' := of_decide_eq_false q
    have hkk := tail (fun h => by omega)
    rw [← hkk]
    conv => whnf
    refine VDraw.go ⟨219, [0, 0, 2, 0, 14, 31, 0, 64, 255, 0, 512, 0, 3584, 8191, 16383, 32767], [0, 5, 7, 8, 13, 15], [(5, [219]), (8, [259]), (13, [283]), (15, [171])]⟩ rfl rfl (by decide +kernel) ?_
    conv => whnf
    have ek : List.take ((k : Int).toNat - Int.toNat 0) (List.drop (Int.toNat 0) (l.map encItem)) = (l.take k).map encItem := by
      rw [en]; show List.take (k - 0) (List.drop 0 _) = _; rw [List.drop_zero, Nat.sub_zero, List.map_take]
    have ed : List.take (((l.map encItem).length : Int).toNat - (k : Int).toNat) (List.drop (k : Int).toNat (l.map encItem)) = (l.drop k).map encItem := by
      rw [en, Int.toNat_natCast, List.take_of_length_le (by rw [List.length_drop]; omega), List.map_drop]
    have lt8 : ((l.take k).map encItem).length ≤ 8 := by rw [List.length_map, List.length_take]; omega
    have ld8 : ((l.drop k).map encItem).length ≤ 8 := by rw [List.length_map, List.length_drop]; omega
    refine ⟨⟨by omega, by omega, by omega, by decide +kernel, fun x hx => (enc_len l x hx).trans (by decide +kernel)⟩, ?_⟩
    rw [ek]
    conv => whnf
    refine ⟨⟨rfl, rfl, rfl⟩, trivial, ?_⟩
    conv => whnf
    refine ⟨(fun q => by cases q), Nat.le_trans (Nat.mul_le_mul (show 0 + ((l.take k).map encItem).length ≤ 1100000 by omega) bytes36) (by decide), enc_len _, ?_⟩
    conv => whnf
    refine ⟨⟨rfl, (by rw [List.length_append]), rfl⟩, Nat.le_refl 1, ?_⟩
    conv => whnf
    refine ⟨(fun q => by cases q), appB (by rw [List.length_append]; show (0 + ((l.take k).map encItem).length) + 1 ≤ 1100000; omega), fun el hel => by cases List.mem_singleton.1 hel; rfl, ?_⟩
    conv => whnf
    refine ⟨⟨by omega, by omega, by omega, by decide +kernel, fun x hx => (enc_len l x hx).trans (by decide +kernel)⟩, ?_⟩
    rw [ed]
    conv => whnf
    refine ⟨⟨rfl, (by simp only [List.length_append]), rfl⟩, trivial, ?_⟩
    conv => whnf
    refine ⟨(fun q => by cases q), appB (by rw [List.length_append, List.length_append]; show ((0 + ((l.take k).map encItem).length) + 1) + _ ≤ 1100000; omega), enc_len _, ?_⟩
    conv => whnf
    refine ⟨⟨⟨by decide +kernel, Nat.le_of_ble_eq_true rfl⟩, trivial⟩, ?_⟩
    conv => whnf
    refine ⟨hs_len2 ?_ (wi _ (by omega) (by omega)), congrArg (fun E => [Blk.arr 4 E]) (show ([] ++ (l.take k).map encItem ++ [encItem { x with c := IntKind.i64.wrap (last + 1) }]) ++ (l.drop k).map encItem = _ from ?_)⟩
    · try simp only [List.length_append]
      rw [putAt_len hk]
      show 0 + ((l.take k).map encItem).length + 1 + ((l.drop k).map encItem).length = _
      rw [List.length_map, List.length_map, List.length_take, List.length_drop]; omega
    · rw [wi (last + 1) (by omega) (by omega)]
      unfold putAt
      rw [List.map_append, List.map_cons, List.nil_append, List.append_assoc]; rfl
end Go.Abs.C
