import Derived.Test.YtfhcoohdmjfkbaaDoorGWR1
set_option linter.unusedSimpArgs false
set_option linter.unusedVariables false
namespace Go.Abs.D
open Go Go.Abs Go.Proofs Go.RowKit
attribute [local irreducible] IntKind.wrap
theorem find7_ok (s : ByteArray) (hs : s.size ≤ 281474976710656) : Good Tryd.prog 32 [vstr s, vint 7, lit (.int .u8 58)] [] (vint (findB 58 s.data.toList 7)) [] := l7Find_ok s hs 7 (by decide) 58
theorem cuts32_ok (s : ByteArray) (hs : s.size ≤ 1099511627776) : Good Tryd.prog 33 [vstr s, lit (.int .u8 32)] [] (.one (.hs 0 0 (cuts 32 s.data.toList).length)) [blkS (cuts 32 s.data.toList)] := l5Cuts_ok s hs 32
theorem cut58_ok (s : ByteArray) (hs : s.size ≤ 281474976710656) : Good Tryd.prog 35 [vstr s, vstr ⟨#[58]⟩] [] (.tup [vstr (cutA 58 s), vstr (cutB 58 s), vbool (cutC 58 s)]) [] := cut1_ok s 58 hs
theorem split32_ok (s : ByteArray) (hs : s.size ≤ 1099511627776) : Good Tryd.prog 36 [vstr s, vstr ⟨#[32]⟩] [] (.one (.hs 0 0 (cuts 32 s.data.toList).length)) [blkS (cuts 32 s.data.toList)] := split1_ok s hs 32
theorem encS_at (ps : List (List UInt8)) {j i : Nat} (e : j = i) (h : i < ps.length) : (encS ps).getD j [] = [.lit (.string (mkS (ps.getD i [])))] := by
  rw [e]; exact getD_map _ ps i [] h
theorem piece_size {c : UInt8} (l : List UInt8) (i : Nat) : ((cuts c l).getD i []).length ≤ l.length := by
  suffices h : ∀ l : List UInt8, ∀ p ∈ cuts c l, p.length ≤ l.length by
    rw [List.getD_eq_getElem?_getD]
    cases hi : (cuts c l)[i]? with
    | none => exact Nat.zero_le _
    | some p => exact h l p (List.mem_of_getElem? hi)
  intro l
  induction l with
  | nil => intro p hp; simp [cuts] at hp; rw [hp]; exact Nat.le_refl _
  | cons x r ih =>
    intro p hp
    unfold cuts at hp
    split at hp
    · rcases List.mem_cons.1 hp with rfl | hp
      · exact Nat.zero_le _
      · have := ih p hp; simp; omega
    · split at hp
      · rcases List.mem_singleton.1 hp with rfl; simp
      · rename_i q qs e
        rcases List.mem_cons.1 hp with rfl | hp
        · have := ih q (by rw [e]; exact List.mem_cons_self); simp; omega
        · have := ih p (by rw [e]; exact List.mem_cons_of_mem _ hp); simp; omega
theorem Reads.findB {s : ByteArray} {w : RWord} (h : Reads s w) : findB 58 s.data.toList 7 = ((7 + (wl w).length : Nat) : Int) := by
  unfold Abs.findB
  have := h.idx
  unfold tl7 at this
  rw [this]
set_option maxHeartbeats 16000000 in
set_option maxRecDepth 100000 in
theorem specRead_ok (s : ByteArray) (hs : s.size ≤ 1099511627776) (o : Option RWord) (ho : ∀ w, o = some w ↔ Reads s w) : Good Tryd.prog 12 [vstr s] [] (readR o) [] := by
  have hl := szl s
  refine good_e noM Tryd.func12 rfl rfl ?_
  conv => whnf
  refine .mk _ _ false Tryd.call32 (find7_ok s (by omega)) (Nat.le_of_ble_eq_true rfl) (.inl rfl) ?_
  conv => whnf
  cases hx : idx 58 (tl7 s) with
  | none =>
    have e : findB 58 s.data.toList 7 = -1 := by unfold findB; unfold tl7 at hx; rw [hx]
    have hno : o = none := none_of ho fun w hw => by have := hw.idx; rw [hx] at this; cases this
    subst hno
    rw [e]
    conv => whnf
    refine ⟨⟨⟨by decide +kernel, Nat.le_of_ble_eq_true rfl⟩, trivial⟩, ?_⟩
    conv => whnf
    exact ⟨rfl, rfl⟩
  | some k =>
    have e : findB 58 s.data.toList 7 = ((7 + k : Nat) : Int) := by unfold findB; unfold tl7 at hx; rw [hx]
    have hk : 7 + k < s.size := by
      have := (idx_some hx).1
      unfold tl7 at this; rw [List.length_drop] at this; omega
    rw [e]
    conv => whnf
    split
    · rename_i q
      have q' := of_decide_eq_true q
      have hno : o = none := none_of ho fun w hw => by have := hw.size; omega
      subst hno
      conv => whnf
      refine ⟨⟨⟨by decide +kernel, Nat.le_of_ble_eq_true rfl⟩, trivial⟩, ?_⟩
      conv => whnf
      exact ⟨rfl, rfl⟩
    rename_i q
    have q' := of_decide_eq_false q
    conv => whnf
    refine ⟨⟨by omega, by omega, by omega⟩, ?_⟩
    conv => whnf
    have hex : s.extract (Int.toNat 7) (((7 + k : Nat) : Int)).toNat = mkS ((tl7 s).take k) := by
      rw [extract_eq, Int.toNat_natCast]
      show mkS ((s.data.toList.drop 7).take (7 + k - 7)) = _
      rw [show 7 + k - 7 = k by omega]; rfl
    have hlt : ((tl7 s).take k).length ≤ s.size := by rw [List.length_take]; unfold tl7; rw [List.length_drop]; omega
    have hg := cuts32_ok (mkS ((tl7 s).take k)) (by rw [mkS_size]; omega)
    rw [mkS_list] at hg
    have hps : ∀ i, ((cuts 32 ((tl7 s).take k)).getD i []).length ≤ s.size := fun i => Nat.le_trans (piece_size _ i) hlt
    have hr : ∀ w, Reads s w → cuts 32 ((tl7 s).take k) = [dl w.a, dl w.b, dl w.c, dl w.d, dl w.e, w.f.data.toList] ∧ mkW numS (cuts 32 ((tl7 s).take k)) ((tl7 s).drop (k + 1)) = w := fun w hw => by
      have e1 := hw.idx
      rw [hx] at e1
      rw [Option.some.inj e1]
      exact ⟨hw.cut, hw.mkw numS fun n a b => numS_dec a b⟩
    rw [hex]
    generalize cuts 32 ((tl7 s).take k) = ps at hg hps hr
    refine .mk _ _ false Tryd.call33 hg (Nat.le_of_ble_eq_true rfl) (.inl rfl) ?_
    conv => whnf
    split
    · rename_i q
      have hno : o = none := none_of ho fun w hw => by
        have := (hr w hw).1
        rw [this] at q
        cases q
      subst hno
      conv => whnf
      refine ⟨⟨⟨by decide +kernel, Nat.le_of_ble_eq_true rfl⟩, trivial⟩, ?_⟩
      conv => whnf
      exact ⟨rfl, rfl⟩
    rename_i q
    have h6 : ps.length = 6 := by
      have : ((ps.length : Int) == 6) = true := by simpa using q
      have := beq_iff_eq.1 this
      omega
    conv => whnf
    refine VDraw.goR [0, 1, 3, 7, 0, 16, 48, 127, 0, 256, 768, 2047, 0, 4096, 12288, 32767, 0, 65536, 196608, 524287, 0, 1048576, 3145728, 0, 0, 16777216, 58720256, 134217727, 0, 536870911] [3, 7, 11, 15, 19, 28, 29] [(29, [28])] [] rfl (by decide +kernel) ?_
    conv => whnf
    refine ⟨by omega, by omega, by rw [encS_len]; omega, ?_⟩
    conv => whnf
    refine ⟨_, encS_at ps (i := 0) rfl (by omega), ?_⟩
    conv => whnf
    refine .mk _ _ false Tryd.call34 (l5Num_ok (mkS (ps.getD 0 [])) (by rw [mkS_size]; have := hps 0; omega)) (Nat.le_of_ble_eq_true rfl) (.inl rfl) ?_
    conv => whnf
    refine ⟨by omega, by omega, by rw [encS_len]; omega, ?_⟩
    conv => whnf
    refine ⟨_, encS_at ps (i := 1) rfl (by omega), ?_⟩
    conv => whnf
    refine .mk _ _ false Tryd.call34 (l5Num_ok (mkS (ps.getD 1 [])) (by rw [mkS_size]; have := hps 1; omega)) (Nat.le_of_ble_eq_true rfl) (.inl rfl) ?_
    conv => whnf
    refine ⟨by omega, by omega, by rw [encS_len]; omega, ?_⟩
    conv => whnf
    refine ⟨_, encS_at ps (i := 2) rfl (by omega), ?_⟩
    conv => whnf
    refine .mk _ _ false Tryd.call34 (l5Num_ok (mkS (ps.getD 2 [])) (by rw [mkS_size]; have := hps 2; omega)) (Nat.le_of_ble_eq_true rfl) (.inl rfl) ?_
    conv => whnf
    refine ⟨by omega, by omega, by rw [encS_len]; omega, ?_⟩
    conv => whnf
    refine ⟨_, encS_at ps (i := 3) rfl (by omega), ?_⟩
    conv => whnf
    refine .mk _ _ false Tryd.call34 (l5Num_ok (mkS (ps.getD 3 [])) (by rw [mkS_size]; have := hps 3; omega)) (Nat.le_of_ble_eq_true rfl) (.inl rfl) ?_
    conv => whnf
    refine ⟨by omega, by omega, by rw [encS_len]; omega, ?_⟩
    conv => whnf
    refine ⟨_, encS_at ps (i := 4) rfl (by omega), ?_⟩
    conv => whnf
    refine .mk _ _ false Tryd.call34 (l5Num_ok (mkS (ps.getD 4 [])) (by rw [mkS_size]; have := hps 4; omega)) (Nat.le_of_ble_eq_true rfl) (.inl rfl) ?_
    conv => whnf
    refine ⟨by omega, by omega, by rw [encS_len]; omega, ?_⟩
    conv => whnf
    refine ⟨_, encS_at ps (i := 5) rfl (by omega), ?_⟩
    conv => whnf
    have hw1 : IntKind.i64.wrap (((7 + k : Nat) : Int) + 1) = ((7 + k + 1 : Nat) : Int) := by rw [wrap_in _ (by omega) (by omega)]; omega
    rw [hw1]
    refine ⟨⟨by omega, by omega, by omega⟩, ?_⟩
    conv => whnf
    have hex2 : s.extract (((7 + k + 1 : Nat) : Int)).toNat ((s.size : Int)).toNat = mkS ((tl7 s).drop (k + 1)) := by
      rw [extract_eq, Int.toNat_natCast, Int.toNat_natCast, List.take_of_length_le (by rw [List.length_drop]; omega)]
      unfold tl7
      rw [List.drop_drop, show 7 + (k + 1) = 7 + k + 1 by omega]
    rw [hex2]
    have hf : (mkW numS ps ((tl7 s).drop (k + 1))).f.size ≤ 9223372036854775807 := by show (mkS (ps.getD 5 [])).size ≤ _; rw [mkS_size]; have := hps 5; omega
    refine .mk _ _ false Tryd.call17 (specOk_ok (mkW numS ps ((tl7 s).drop (k + 1))) hf) (Nat.le_of_ble_eq_true rfl) (.inl rfl) ?_
    conv => whnf
    cases hk1 : okS (mkW numS ps ((tl7 s).drop (k + 1))) with
    | false =>
      have hno : o = none := none_of ho fun w hw => by rw [(hr w hw).2, hw.ok] at hk1; cases hk1
      subst hno
      conv => whnf
      refine ⟨⟨⟨by decide +kernel, Nat.le_of_ble_eq_true rfl⟩, trivial⟩, ?_⟩
      conv => whnf
      exact ⟨rfl, rfl⟩
    | true =>
      conv => whnf
      refine .mk _ _ false Tryd.call9 (specWrite_ok (mkW numS ps ((tl7 s).drop (k + 1))) hf) (Nat.le_of_ble_eq_true rfl) (.inl rfl) ?_
      conv => whnf
      by_cases e : wtext (mkW numS ps ((tl7 s).drop (k + 1))) = s
      · rw [str_t e]
        have hyes : o = some (mkW numS ps ((tl7 s).drop (k + 1))) := (ho _).2 ⟨hk1, e⟩
        subst hyes
        conv => whnf
        refine ⟨⟨⟨by decide +kernel, Nat.le_of_ble_eq_true rfl⟩, trivial⟩, ?_⟩
        conv => whnf
        exact ⟨rfl, rfl⟩
      · rw [str_f e]
        have hno : o = none := none_of ho fun w hw => e (by rw [(hr w hw).2]; exact hw.wr)
        subst hno
        conv => whnf
        refine ⟨⟨⟨by decide +kernel, Nat.le_of_ble_eq_true rfl⟩, trivial⟩, ?_⟩
        conv => whnf
        exact ⟨rfl, rfl⟩
set_option maxHeartbeats 16000000 in
set_option maxRecDepth 100000 in
theorem implRead_ok (s : ByteArray) (hs : s.size ≤ 1099511627776) (o : Option RWord) (ho : ∀ w, o = some w ↔ Reads s w) : Good Tryd.prog 13 [vstr s] [] (readR o) [] := by
  have hl := szl s
  refine good_e noM Tryd.func13 rfl rfl ?_
  conv => whnf
  split
  · rename_i q
    have q' := of_decide_eq_true q
    have hno : o = none := none_of ho fun w hw => by have := hw.size; omega
    subst hno
    conv => whnf
    refine ⟨⟨⟨by decide +kernel, Nat.le_of_ble_eq_true rfl⟩, trivial⟩, ?_⟩
    conv => whnf
    exact ⟨rfl, rfl⟩
  rename_i q
  have h7 := of_decide_eq_false q
  conv => whnf
  split
  · rename_i q
    have q' := of_decide_eq_true q
    have hno : o = none := none_of ho fun w hw => by have := hw.size; omega
    subst hno
    conv => whnf
    refine ⟨⟨⟨by decide +kernel, Nat.le_of_ble_eq_true rfl⟩, trivial⟩, ?_⟩
    conv => whnf
    exact ⟨rfl, rfl⟩
  rename_i q1
  have q1' := of_decide_eq_false q1
  conv => whnf
  refine ⟨⟨by omega, by omega, by omega⟩, ?_⟩
  conv => whnf
  have hex : s.extract (Int.toNat 7) ((s.size : Int)).toNat = mkS (tl7 s) := by
    rw [extract_eq, Int.toNat_natCast]
    show mkS ((s.data.toList.drop 7).take (s.size - 7)) = _
    rw [List.take_of_length_le (by rw [List.length_drop]; omega)]; rfl
  have ht : (tl7 s).length ≤ s.size := by unfold tl7; rw [List.length_drop]; omega
  rw [hex]
  refine .mk _ _ false Tryd.call35 (cut58_ok (mkS (tl7 s)) (by rw [mkS_size]; omega)) (Nat.le_of_ble_eq_true rfl) (.inl rfl) ?_
  conv => whnf
  have hA : (cutA 58 (mkS (tl7 s))).data.toList.length ≤ s.size := by
    unfold cutA; rw [mkS_list]
    split
    · rw [mkS_list, List.length_take]; omega
    · exact ht
  have hB : (cutB 58 (mkS (tl7 s))).size ≤ s.size := by
    unfold cutB; rw [mkS_list]
    split
    · rw [mkS_size, List.length_drop]; omega
    · exact Nat.zero_le _
  have hr : ∀ w, Reads s w → cuts 32 (cutA 58 (mkS (tl7 s))).data.toList = [dl w.a, dl w.b, dl w.c, dl w.d, dl w.e, w.f.data.toList] ∧ mkW numI (cuts 32 (cutA 58 (mkS (tl7 s))).data.toList) (cutB 58 (mkS (tl7 s))).data.toList = w := fun w hw => by
    have e1 := hw.idx
    have eA : cutA 58 (mkS (tl7 s)) = mkS ((tl7 s).take (wl w).length) := by unfold cutA; rw [mkS_list, e1]
    have eB : cutB 58 (mkS (tl7 s)) = mkS ((tl7 s).drop ((wl w).length + 1)) := by unfold cutB; rw [mkS_list, e1]
    rw [eA, eB, mkS_list, mkS_list]
    exact ⟨hw.cut, hw.mkw numI fun n a b => numI_dec a b⟩
  have hps : ∀ i, ((cuts 32 (cutA 58 (mkS (tl7 s))).data.toList).getD i []).length ≤ s.size := fun i => Nat.le_trans (piece_size _ i) hA
  generalize cutA 58 (mkS (tl7 s)) = A at hA hr hps ⊢
  generalize cutB 58 (mkS (tl7 s)) = B at hB hr ⊢
  have hg := split32_ok A (by rw [szl] at hA; omega)
  generalize cuts 32 A.data.toList = ps at hr hps hg
  refine .mk _ _ false Tryd.call36 hg (Nat.le_of_ble_eq_true rfl) (.inl rfl) ?_
  conv => whnf
  split
  · rename_i q
    have hno : o = none := none_of ho fun w hw => by
      have := (hr w hw).1
      rw [this] at q
      cases q
    subst hno
    conv => whnf
    refine ⟨⟨⟨by decide +kernel, Nat.le_of_ble_eq_true rfl⟩, trivial⟩, ?_⟩
    conv => whnf
    exact ⟨rfl, rfl⟩
  rename_i q
  have h6 : ps.length = 6 := by
    have : ((ps.length : Int) == 6) = true := by simpa using q
    have := beq_iff_eq.1 this
    omega
  conv => whnf
  refine ⟨rfl, ?_⟩
  conv => whnf
  refine VLoop.enter [0, 2, 3, 5, 7, 8, 34] ?_
  conv => whnf
  refine VLoop.ind2 (n0 := 3) (α := Int) (β := List (List PV)) noM [0, 2, 3, 5, 7, 8, 34] (fun a E => ⟨69, 0, [(0, vstr s), (2, .one (.hp 0 0 0)), (3, vbool false), (5, vstr B), (7, .one (.hs 1 0 ps.length)), (8, .one (.hp 2 0 0)), (34, vint a)], [(0, some (.box [.p (.lit (.int .i64 0)), .p (.lit (.int .i64 0)), .p (.lit (.int .i64 0)), .p (.lit (.int .i64 0)), .p (.lit (.int .i64 0)), .p (.lit (.string ⟨#[]⟩)), .p (.lit (.string ⟨#[]⟩))])), (1, some (blkS ps)), (2, some (.arr 1 E))]⟩)
    (fun a E => ∃ i : Nat, a = i ∧ i ≤ 5 ∧ E = mid 5 i (fun j => [.lit (.int .i64 (numI (mkS (ps.getD j []))))]) (fun _ => [.lit (.int .i64 0)]))
    (fun a _ => (5 - a).toNat) ?_ 0 _ ⟨0, rfl, by omega, rfl⟩
  rintro _ _ ⟨i, rfl, hi, rfl⟩
  conv => whnf
  split
  · rename_i q
    have q' : (i : Int) < 5 := of_decide_eq_true q
    have hw : IntKind.i64.wrap ((i : Int) + 1) = ((i + 1 : Nat) : Int) := by rw [wrap_in _ (by omega) (by omega)]; omega
    have en : 0 + ((i : Nat) : Int).toNat = i := by omega
    conv => whnf
    refine ⟨by omega, by omega, by rw [encS_len]; omega, ?_⟩
    conv => whnf
    refine ⟨_, encS_at ps (i := i) en (by omega), ?_⟩
    conv => whnf
    refine .mk _ _ false Tryd.call37 (number_ok (mkS (ps.getD i [])) (by rw [mkS_size]; have := hps i; omega)) (Nat.le_of_ble_eq_true rfl) (.inl rfl) ?_
    conv => whnf
    refine ⟨by omega, by omega, ?_⟩
    conv => whnf
    refine ⟨_, mid_getD [] en (by omega), by rw [mid_length]; omega, ?_⟩
    conv => whnf
    refine ⟨_, _, rfl, rfl, ⟨i + 1, hw, by omega, mid_set en rfl (by omega)⟩, by rw [hw]; omega⟩
  · rename_i q
    have q' : ¬ (i : Int) < 5 := of_decide_eq_false q
    obtain rfl : i = 5 := by omega
    rw [mid_all]
    conv => whnf
    refine VDraw.goR [0, 1, 0, 4, 0, 16, 0, 64, 0, 256, 0, 1024, 3072, 0, 16383, 0, 65535] [15, 16] [(16, [15])] [] rfl (by decide +kernel) ?_
    conv => whnf
    refine ⟨by decide, by decide, ?_⟩
    conv => whnf
    refine ⟨[.lit (.int .i64 (numI (mkS (ps.getD 0 []))))], rfl, ?_⟩
    conv => whnf
    refine ⟨by decide, by decide, ?_⟩
    conv => whnf
    refine ⟨[.lit (.int .i64 (numI (mkS (ps.getD 1 []))))], rfl, ?_⟩
    conv => whnf
    refine ⟨by decide, by decide, ?_⟩
    conv => whnf
    refine ⟨[.lit (.int .i64 (numI (mkS (ps.getD 2 []))))], rfl, ?_⟩
    conv => whnf
    refine ⟨by decide, by decide, ?_⟩
    conv => whnf
    refine ⟨[.lit (.int .i64 (numI (mkS (ps.getD 3 []))))], rfl, ?_⟩
    conv => whnf
    refine ⟨by decide, by decide, ?_⟩
    conv => whnf
    refine ⟨[.lit (.int .i64 (numI (mkS (ps.getD 4 []))))], rfl, ?_⟩
    conv => whnf
    refine ⟨by omega, by omega, by rw [encS_len]; omega, ?_⟩
    conv => whnf
    refine ⟨_, encS_at ps (i := 5) rfl (by omega), ?_⟩
    conv => whnf
    have hf : (mkW numI ps B.data.toList).f.size ≤ 9223372036854775807 := by show (mkS (ps.getD 5 [])).size ≤ _; rw [mkS_size]; have := hps 5; omega
    have hg : (mkW numI ps B.data.toList).g = B := mkS_of B
    have hw : word (mkW numI ps B.data.toList) = .agg [.p (.lit (.int .i64 (numI (mkS (ps.getD 0 []))))), .p (.lit (.int .i64 (numI (mkS (ps.getD 1 []))))), .p (.lit (.int .i64 (numI (mkS (ps.getD 2 []))))), .p (.lit (.int .i64 (numI (mkS (ps.getD 3 []))))), .p (.lit (.int .i64 (numI (mkS (ps.getD 4 []))))), .p (.lit (.string (mkS (ps.getD 5 [])))), .p (.lit (.string B))] := by
      show AV.agg [_, _, _, _, _, _, .p (.lit (.string (mkW numI ps B.data.toList).g))] = _
      rw [hg]; rfl
    have hWr := implWrite_ok (mkW numI ps B.data.toList) hf
    rw [hw] at hWr
    refine .mk _ _ false Tryd.call11 hWr (Nat.le_of_ble_eq_true rfl) (.inl rfl) ?_
    conv => whnf
    by_cases e : wtext (mkW numI ps B.data.toList) = s
    · rw [str_t e]
      have hk1 : okS (mkW numI ps B.data.toList) = true := by
        cases hq : okS (mkW numI ps B.data.toList) with
        | true => rfl
        | false =>
          rw [wtext_bad hq] at e
          rw [← e] at h7
          have : (ByteArray.mk #[]).size = 0 := rfl
          omega
      have hyes : o = some (mkW numI ps B.data.toList) := (ho _).2 ⟨hk1, e⟩
      subst hyes
      conv => whnf
      refine ⟨⟨⟨by decide +kernel, Nat.le_of_ble_eq_true rfl⟩, trivial⟩, ?_⟩
      conv => whnf
      refine ⟨?_, rfl⟩
      show AV.tup [_, vbool true] = AV.tup [word (mkW numI ps B.data.toList), vbool true]
      rw [hw]
      rfl
    · rw [str_f e]
      have hno : o = none := none_of ho fun w hw => e (by rw [(hr w hw).2]; exact hw.wr)
      subst hno
      conv => whnf
      refine ⟨⟨⟨by decide +kernel, Nat.le_of_ble_eq_true rfl⟩, trivial⟩, ?_⟩
      conv => whnf
      exact ⟨rfl, rfl⟩
end Go.Abs.D
