import Derived.Test.YtilogdijodgcgaaDoorMLog2
set_option linter.unusedSimpArgs false
set_option linter.unusedVariables false
namespace Go.Abs.E
open Go Go.Abs Go.Proofs Go.RowKit
attribute [local irreducible] IntKind.wrap
attribute [local irreducible] lineS hashS
set_option maxHeartbeats 16000000 in
set_option maxRecDepth 100000 in
theorem eqStringS_same (rs : List ByteArray) (hr : rs.length ≤ 1000000000) : Good Tryd.prog 19 [.one (.p (.sl (rs.map eR))), .one (.p (.sl (rs.map eR)))] [] (vbool true) [] := by
  have hlen : (rs.map eR).length = rs.length := List.length_map ..
  refine good_e noM Tryd.func19 rfl rfl ?_
  conv => whnf
  rw [show ((((rs.map eR).length : Nat) : Int) != (((rs.map eR).length : Nat) : Int)) = false by simp]
  conv => whnf
  refine VLoop.enter [0, 1, 5] ?_
  conv => whnf
  refine VLoop.ind1 (n0 := 0) (α := Int) noM [0, 1, 5] (fun i => ⟨26, 0, [(0, .one (.p (.sl (rs.map eR)))), (1, .one (.p (.sl (rs.map eR)))), (5, vint i)], []⟩)
    (fun i => 0 ≤ i ∧ i ≤ rs.length) (fun i => (rs.length - i).toNat) ?_ 0 ⟨by omega, by omega⟩
  rintro i ⟨h0, h1⟩
  conv => whnf
  rw [hlen]
  split
  · rename_i k
    have k' := of_decide_eq_true k
    conv => whnf
    refine VDraw.goR [0, 0, 3, 7, 0, 0, 48, 112, 255] [] [] [] rfl (by decide +kernel) ?_
    conv => whnf
    refine ⟨h0, by rw [hlen]; omega, _, eR_at rs rfl (by omega), ?_⟩
    conv => whnf
    refine ⟨h0, by rw [hlen]; omega, _, eR_at rs rfl (by omega), ?_⟩
    conv => whnf
    rw [str_t rfl]
    conv => whnf
    have hw : IntKind.i64.wrap (i + 1) = i + 1 := wrap_in _ (by omega) (by omega)
    refine ⟨_, rfl, rfl, ⟨by rw [hw]; omega, by rw [hw]; omega⟩, by rw [hw]; omega⟩
  · conv => whnf
    refine ⟨trivial, ?_⟩
    conv => whnf
    exact ⟨rfl, rfl⟩
set_option maxHeartbeats 16000000 in
set_option maxRecDepth 100000 in
theorem markText_ex (n : Int) (h1 : 1 ≤ n) (h2 : n ≤ 1000000000) : ∃ r out, (∃ s : ByteArray, r = vstr s ∧ out = []) ∧ Good Tryd.prog 38 [vint n] [] r out := by
  refine good_v noM Tryd.func38 rfl rfl ?_
  conv => whnf
  rw [decide_eq_false (by omega : ¬ n ≤ 0)]
  conv => whnf
  refine VLoop.enter [0, 3] ?_
  conv => whnf
  refine VLoop.ind2 (n0 := 0) (α := Int) (β := ByteArray) noM [0, 3] (fun i s => ⟨20, 0, [(0, vint i), (3, vstr s)], []⟩)
    (fun i s => 0 ≤ i ∧ (s.size : Int) + i ≤ 1000000000) (fun i _ => i.toNat) ?_ n ⟨#[]⟩ ⟨by omega, by show ((0 : Nat) : Int) + n ≤ _; omega⟩
  rintro i s ⟨h0, h3⟩
  conv => whnf
  split
  · rename_i k
    have k' := of_decide_eq_true k
    conv => whnf
    refine ⟨trivial, ?_⟩
    conv => whnf
    refine ⟨⟨Nat.le_refl 1, fun el hel => by cases List.mem_singleton.1 hel; exact ⟨_, rfl⟩⟩, ?_⟩
    conv => whnf
    rw [abin_cat (a := _) (b := _) rfl rfl (by rw [elsBytes_size]; show 1 + s.size ≤ _; omega)]
    conv => whnf
    have hw : IntKind.i64.wrap (i.tdiv 10) = i / 10 := by rw [Int.tdiv_eq_ediv_of_nonneg h0, wrap_in _ (by omega) (by omega)]
    refine ⟨_, _, rfl, rfl, ⟨by rw [hw]; omega, ?_⟩, by rw [hw]; omega⟩
    rw [hw, ByteArray.size_append, elsBytes_size]
    show ((1 + s.size : Nat) : Int) + _ ≤ _
    omega
  · conv => whnf
    rw [abin_cat (a := _) (b := _) rfl rfl (by show 1 + s.size ≤ _; omega)]
    conv => whnf
    refine ⟨trivial, ?_⟩
    conv => whnf
    exact ⟨_, rfl, rfl⟩
theorem mark_fn : ∃ M : Int → ByteArray, ∀ n, 1 ≤ n → n ≤ 1000000000 → Good Tryd.prog 38 [vint n] [] (vstr (M n)) [] := by
  have h : ∀ n : Int, ∃ s : ByteArray, 1 ≤ n → n ≤ 1000000000 → Good Tryd.prog 38 [vint n] [] (vstr s) [] := fun n => by
    by_cases h1 : 1 ≤ n
    · by_cases h2 : n ≤ 1000000000
      · obtain ⟨_, _, ⟨s, rfl, rfl⟩, hg⟩ := markText_ex n h1 h2
        exact ⟨s, fun _ _ => hg⟩
      · exact ⟨⟨#[]⟩, fun _ q => (h2 q).elim⟩
    · exact ⟨⟨#[]⟩, fun q => (h1 q).elim⟩
  exact ⟨fun n => (h n).choose, fun n => (h n).choose_spec⟩
/-- A list's first texts written over with marks. -/
def mkd (M : Int → ByteArray) (m : Int) (rs : List ByteArray) : Nat → List ByteArray
  | 0 => rs
  | i + 1 => (mkd M m rs i).set i (M (m + i))
theorem mkd_len (M : Int → ByteArray) (m : Int) (rs : List ByteArray) (i : Nat) : (mkd M m rs i).length = rs.length := by
  induction i with
  | zero => rfl
  | succ i ih => show ((mkd M m rs i).set i _).length = _; rw [List.length_set, ih]
theorem mkd_at (M : Int → ByteArray) (m : Int) (rs : List ByteArray) (i : Nat) : ∀ k, k < i → k < rs.length → (mkd M m rs i).getD k ⟨#[]⟩ = M (m + k) := by
  induction i with
  | zero => intro k hk; omega
  | succ i ih =>
    intro k hk hl
    show ((mkd M m rs i).set i _).getD k _ = _
    rw [List.getD_eq_getElem?_getD]
    by_cases q : k = i
    · subst q
      rw [List.getElem?_set_self (by rw [mkd_len]; exact hl)]
      rfl
    · rw [List.getElem?_set_ne (fun e => q e.symm), ← List.getD_eq_getElem?_getD]
      exact ih k (by omega) hl
set_option maxHeartbeats 16000000 in
set_option maxRecDepth 100000 in
theorem markStringS_ok (M : Int → ByteArray) (hM : ∀ n, 1 ≤ n → n ≤ 1000000000 → Good Tryd.prog 38 [vint n] [] (vstr (M n)) []) (m : Int) (h1 : 1 ≤ m) (h2 : m ≤ 100) (rs : List ByteArray) (hr : rs.length ≤ 10000000) :
    Good Tryd.prog 20 [.one (.hs 0 0 rs.length), vint m] [.arr 1 (rs.map eR)] (vint (m + rs.length)) [.arr 1 ((mkd M m rs rs.length).map eR)] := by
  refine good_e noM Tryd.func20 rfl rfl ?_
  conv => whnf
  refine VLoop.enter [0, 1, 5] ?_
  conv => whnf
  refine VLoop.ind3 (n0 := 1) (α := Int) (β := Int) (γ := List (List PV)) noM [0, 1, 5] (fun a i E => ⟨20, 1, [(0, .one (.hs 0 0 rs.length)), (1, vint a), (5, vint i)], [(0, some (.arr 1 E))]⟩)
    (fun a i E => ∃ n : Nat, i = n ∧ a = m + n ∧ n ≤ rs.length ∧ E = (mkd M m rs n).map eR) (fun _ i _ => (rs.length - i).toNat) ?_ m 0 _ ⟨0, rfl, by omega, Nat.zero_le _, rfl⟩
  rintro _ _ _ ⟨n, rfl, rfl, hn, rfl⟩
  have hlen : ((mkd M m rs n).map eR).length = rs.length := by rw [List.length_map, mkd_len]
  conv => whnf
  split
  · rename_i k
    have k' := of_decide_eq_true k
    conv => whnf
    refine .mk _ _ false Tryd.call38 (hM (m + n) (by omega) (by omega)) (Nat.le_of_ble_eq_true rfl) (.inl rfl) ?_
    conv => whnf
    refine ⟨by omega, by omega, by rw [hlen]; omega, ?_⟩
    conv => whnf
    refine ⟨_, eR_at (mkd M m rs n) (i := n) (by omega) (by rw [mkd_len]; omega), by rw [hlen]; omega, ?_⟩
    conv => whnf
    have hw1 : IntKind.i64.wrap ((n : Int) + 1) = ((n + 1 : Nat) : Int) := by rw [wrap_in _ (by omega) (by omega)]; omega
    have hw2 : IntKind.i64.wrap (m + (n : Int) + 1) = m + ((n + 1 : Nat) : Int) := by rw [wrap_in _ (by omega) (by omega)]; omega
    refine ⟨_, _, _, rfl, rfl, ⟨n + 1, hw1, hw2, by omega, ?_⟩, by rw [hw1]; omega⟩
    show ((mkd M m rs n).map eR).set (0 + ((n : Nat) : Int).toNat) (eR (M (m + n))) = ((mkd M m rs n).set n (M (m + n))).map eR
    rw [List.map_set, show 0 + ((n : Nat) : Int).toNat = n by omega]
  · rename_i k
    have k' := of_decide_eq_false k
    obtain rfl : n = rs.length := by omega
    conv => whnf
    refine ⟨trivial, ?_⟩
    conv => whnf
    exact ⟨rfl, rfl⟩
set_option maxHeartbeats 16000000 in
set_option maxRecDepth 100000 in
theorem heldStringS_ok (M : Int → ByteArray) (hM : ∀ n, 1 ≤ n → n ≤ 1000000000 → Good Tryd.prog 38 [vint n] [] (vstr (M n)) []) (m : Int) (h1 : 1 ≤ m) (h2 : m ≤ 100) (L : List ByteArray) (hr : L.length ≤ 10000000) (hL : ∀ k, k < L.length → L.getD k ⟨#[]⟩ = M (m + k)) :
    Good Tryd.prog 21 [.one (.p (.sl (L.map eR))), vint m] [] (vint (m + L.length)) [] := by
  have hlen : (L.map eR).length = L.length := List.length_map ..
  refine good_e noM Tryd.func21 rfl rfl ?_
  conv => whnf
  refine VLoop.enter [0, 1, 5] ?_
  conv => whnf
  refine VLoop.ind2 (n0 := 0) (α := Int) (β := Int) noM [0, 1, 5] (fun a i => ⟨22, 0, [(0, .one (.p (.sl (L.map eR)))), (1, vint a), (5, vint i)], []⟩)
    (fun a i => ∃ n : Nat, i = n ∧ a = m + n ∧ n ≤ L.length) (fun _ i => (L.length - i).toNat) ?_ m 0 ⟨0, rfl, by omega, Nat.zero_le _⟩
  rintro _ _ ⟨n, rfl, rfl, hn⟩
  conv => whnf
  rw [hlen]
  split
  · rename_i k
    have k' := of_decide_eq_true k
    conv => whnf
    refine VDraw.goR [0, 0, 3, 7, 0, 16, 63] [5] [] [] rfl (by decide +kernel) ?_
    conv => whnf
    refine ⟨by omega, by rw [hlen]; omega, _, eR_at L (i := n) (by omega) (by omega), ?_⟩
    conv => whnf
    refine .mk _ _ false Tryd.call38 (hM (m + n) (by omega) (by omega)) (Nat.le_of_ble_eq_true rfl) (.inl rfl) ?_
    conv => whnf
    rw [hL n (by omega), str_t rfl]
    conv => whnf
    have hw1 : IntKind.i64.wrap ((n : Int) + 1) = ((n + 1 : Nat) : Int) := by rw [wrap_in _ (by omega) (by omega)]; omega
    have hw2 : IntKind.i64.wrap (m + (n : Int) + 1) = m + ((n + 1 : Nat) : Int) := by rw [wrap_in _ (by omega) (by omega)]; omega
    refine ⟨_, _, rfl, rfl, ⟨n + 1, hw1, hw2, by omega⟩, by rw [hw1]; omega⟩
  · rename_i k
    have k' := of_decide_eq_false k
    obtain rfl : n = L.length := by omega
    conv => whnf
    refine ⟨trivial, ?_⟩
    conv => whnf
    exact ⟨rfl, rfl⟩
end Go.Abs.E

set_option linter.unusedSimpArgs false
set_option linter.unusedVariables false
namespace Go.Abs.E
open Go Go.Abs Go.Proofs Go.RowKit
attribute [local irreducible] IntKind.wrap
attribute [local irreducible] lineS hashS
def mM : FuncId → Bool := fun f => [20].contains f
set_option maxHeartbeats 16000000 in
set_option maxRecDepth 100000 in
theorem exactRead_law (s : ByteArray) (hs : s.size ≤ 9223372036854775807) : ∃ r out, r = vbool true ∧ Good Tryd.prog 6 [vstr s] [] r out := by
  refine good_v mM Tryd.func6 rfl rfl ?_
  conv => whnf
  split
  · conv => whnf
    refine ⟨trivial, ?_⟩
    conv => whnf
    rfl
  rename_i q
  have q' := of_decide_eq_false q
  obtain ⟨M, hM⟩ := mark_fn
  obtain ⟨rs, at_, f⟩ := fin_ex s
  have hle := f.ch.le
  have hlen : rs.length ≤ 10000000 := by omega
  have hml : (mkd M 1 rs rs.length).length = rs.length := mkd_len ..
  conv => whnf
  refine .mk _ _ false Tryd.call17 (specRead_ok s (by omega) rs at_ f) (Nat.le_of_ble_eq_true rfl) (.inl rfl) ?_
  conv => whnf
  refine .mk _ _ false Tryd.call18 (implRead_ok s (by omega) rs at_ f) (Nat.le_of_ble_eq_true rfl) (.inl rfl) ?_
  conv => whnf
  refine ⟨len_all rfl, len_all rfl, ?_⟩
  rw [take_all rfl]
  refine .mk _ _ false Tryd.call19 (eqStringS_same rs (by omega)) (Nat.le_of_ble_eq_true rfl) (.inr ⟨AV.nsB_iff rfl, fun k hk => by cases hk⟩) ?_
  conv => whnf
  rw [show (((at_ : Nat) : Int) != ((at_ : Nat) : Int)) = false by simp]
  conv => whnf
  refine .mk _ _ false Tryd.call20 (markStringS_ok M hM 1 (by omega) (by omega) rs hlen) (Nat.le_of_ble_eq_true rfl) (.inl rfl) ?_
  conv => whnf
  refine ⟨by rw [List.length_map, hml]; omega, ?_⟩
  rw [show List.take rs.length (List.drop 0 ((mkd M 1 rs rs.length).map eR)) = (mkd M 1 rs rs.length).map eR from take_all hml.symm]
  have hh := heldStringS_ok M hM 1 (by omega) (by omega) (mkd M 1 rs rs.length) (by omega) (fun k hk => mkd_at M 1 rs rs.length k (by omega) (by omega))
  rw [hml] at hh
  refine .mk _ _ false Tryd.call21 hh (Nat.le_of_ble_eq_true rfl) (.inr ⟨AV.nsB_iff rfl, fun k hk => by cases hk⟩) ?_
  conv => whnf
  rw [show (1 + (rs.length : Int) != 1 + (rs.length : Int)) = false by simp]
  conv => whnf
  refine .mk _ _ false Tryd.call18 (implRead_ok s (by omega) rs at_ f) (Nat.le_of_ble_eq_true rfl) (.inl rfl) ?_
  conv => whnf
  refine ⟨len_all rfl, len_all rfl, ?_⟩
  rw [take_all rfl]
  refine .mk _ _ false Tryd.call19 (eqStringS_same rs (by omega)) (Nat.le_of_ble_eq_true rfl) (.inr ⟨AV.nsB_iff rfl, fun k hk => by cases hk⟩) ?_
  conv => whnf
  rw [show (((at_ : Nat) : Int) != ((at_ : Nat) : Int)) = false by simp]
  conv => whnf
  refine ⟨by rw [List.length_map, hml]; omega, ?_⟩
  rw [show List.take rs.length (List.drop 0 ((mkd M 1 rs rs.length).map eR)) = (mkd M 1 rs rs.length).map eR from take_all hml.symm]
  refine .mk _ _ false Tryd.call21 hh (Nat.le_of_ble_eq_true rfl) (.inr ⟨AV.nsB_iff rfl, fun k hk => by cases hk⟩) ?_
  conv => whnf
  rw [show (1 + (rs.length : Int) != 1 + (rs.length : Int)) = false by simp]
  conv => whnf
  refine ⟨trivial, ?_⟩
  conv => whnf
  rfl
end Go.Abs.E
