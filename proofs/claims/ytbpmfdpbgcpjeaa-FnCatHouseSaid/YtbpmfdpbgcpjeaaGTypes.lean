import Derived.Test.YtbpmfdpbgcpjeaaGAbs24
import Derived.Test.YtbpmfdpbgcpjeaaProg
set_option linter.unusedSimpArgs false
set_option linter.unusedVariables false
namespace Go.Abs.C
open Go Go.Abs Go.Proofs
attribute [local irreducible] IntKind.wrap
set_option maxHeartbeats 8000000 in
set_option maxRecDepth 100000 in
theorem markText_ex (n : Int) (h0 : 0 ≤ n) (h1 : n < 20000000) : ∃ r out, (∃ s, r = vstr s ∧ out = []) ∧ Good Try.prog 76 [vint n] [] r out := by
  refine good_v noM Try.func76 rfl rfl ?_
  conv => whnf
  split
  · conv => whnf
    refine ⟨trivial, ?_⟩
    conv => whnf
    exact ⟨_, rfl, rfl⟩
  · conv => whnf
    refine VLoop.enter [0, 3] ?_
    conv => whnf
    refine VLoop.ind2 (n0 := 0) (α := Int) (β := ByteArray) noM [0, 3] (fun a s => ⟨20, 0, [(0, vint a), (3, vstr s)], []⟩) (fun a s => 0 ≤ a ∧ a < 20000000 ∧ s.size + a.toNat ≤ 20000000) (fun a _ => a.toNat) ?_ n _ ⟨h0, h1, by show 0 + n.toNat ≤ _; omega⟩
    rintro a s ⟨ha0, ha1, ha2⟩
    conv => whnf
    split
    · rename_i q
      have q' := of_decide_eq_true q
      conv => whnf
      refine ⟨trivial, ?_⟩
      conv => whnf
      refine ⟨⟨Nat.le_refl 1, fun el hel => by cases List.mem_singleton.1 hel; exact isByte_mk⟩, ?_⟩
      conv => whnf
      rw [abin_cat (a := _) (b := _) rfl rfl (by rw [elsBytes_size]; show 1 + s.size ≤ _; omega)]
      conv => whnf
      have hw : IntKind.i64.wrap (a.tdiv 10) = a / 10 := by rw [Int.tdiv_eq_ediv_of_nonneg ha0]; exact wrap_in _ (by omega) (by omega)
      refine ⟨_, _, rfl, rfl, ⟨by rw [hw]; omega, by rw [hw]; omega, ?_⟩, by rw [hw]; omega⟩
      rw [hw, ByteArray.size_append, elsBytes_size]
      show 1 + s.size + (a / 10).toNat ≤ _
      omega
    · conv => whnf
      rw [abin_cat (a := _) (b := _) rfl rfl (by show 1 + s.size ≤ _; omega)]
      conv => whnf
      refine ⟨trivial, ?_⟩
      conv => whnf
      exact ⟨_, rfl, rfl⟩
open Classical in
/-- The text that markText gives for a number. -/
noncomputable def mtext (n : Int) : ByteArray := if h : ∃ s, Good Try.prog 76 [vint n] [] (vstr s) [] then h.choose else ByteArray.empty
theorem markText_ok (n : Int) (h0 : 0 ≤ n) (h1 : n < 20000000) : Good Try.prog 76 [vint n] [] (vstr (mtext n)) [] := by
  obtain ⟨_, _, ⟨s, rfl, rfl⟩, hg⟩ := markText_ex n h0 h1
  have h : ∃ s, Good Try.prog 76 [vint n] [] (vstr s) [] := ⟨s, hg⟩
  unfold mtext; rw [dif_pos h]; exact h.choose_spec
structure RItem where
  a : Int
  b : ByteArray
  c : Int
  d : ByteArray
def encItem (x : RItem) : List PV := [.lit (.int .i64 x.a), .lit (.string x.b), .lit (.int .i64 x.c), .lit (.string x.d)]
def zItem : RItem := ⟨0, ByteArray.empty, 0, ByteArray.empty⟩
noncomputable def mrowItem (n : Int) : RItem := ⟨n, mtext (n + 1), (n + 2), mtext (n + 3)⟩
set_option maxHeartbeats 8000000 in
set_option maxRecDepth 100000 in
theorem eqItem_ok (x : RItem) : Good Try.prog 22 [.agg ((encItem x).map .p), .agg ((encItem x).map .p)] [] (vbool true) [] := by
  refine good_e noM Try.func22 rfl rfl ?_
  conv => whnf
  split
  · rename_i h; simp at h
  conv => whnf
  split
  · rename_i h; simp at h
  conv => whnf
  split
  · rename_i h; simp at h
  conv => whnf
  split
  · rename_i h; simp at h
  conv => whnf
  refine ⟨trivial, ?_⟩
  conv => whnf
  exact ⟨rfl, rfl⟩
set_option maxHeartbeats 8000000 in
set_option maxRecDepth 100000 in
theorem eqItemS_ok (l : List RItem) (hl : l.length ≤ 9223372036854775807) : Good Try.prog 46 [.one (.p (.sl (l.map encItem))), .one (.p (.sl (l.map encItem)))] [] (vbool true) [] := by
  refine good_e noM Try.func46 rfl rfl ?_
  conv => whnf
  split
  · rename_i h; simp at h
  conv => whnf
  refine VLoop.enter [0, 1, 5] ?_
  conv => whnf
  refine VLoop.ind1 (n0 := 0) (α := Int) noM [0, 1, 5] (fun a => ⟨27, 0, [(0, .one (.p (.sl (l.map encItem)))), (1, .one (.p (.sl (l.map encItem)))), (5, vint a)], []⟩)
    (fun a => ∃ i : Nat, a = i ∧ i ≤ l.length) (fun a => (l.length - a).toNat) ?_ 0 ⟨0, rfl, by omega⟩
  rintro _ ⟨i, rfl, hi⟩
  conv => whnf
  split
  · rename_i h
    conv => whnf
    simp only [List.length_map, decide_eq_true_eq] at h
    refine VDraw.go ⟨_, [0, 0, 3, 7, 0, 0, 48, 112, 255, 511], [8], []⟩ rfl rfl (by decide +kernel) ?_
    conv => whnf
    refine ⟨by omega, by simp; omega, _, getD_map encItem l _ zItem (by omega), ?_⟩
    conv => whnf
    refine ⟨by omega, by simp; omega, _, getD_map encItem l _ zItem (by omega), ?_⟩
    conv => whnf
    refine .mk _ _ false Try.call22 (eqItem_ok _) (Nat.le_of_ble_eq_true rfl) (.inl rfl) ?_
    conv => whnf
    refine ⟨_, rfl, rfl, ⟨i + 1, ?_, by omega⟩, ?_⟩
    · rw [wrap_in _ (by omega) (by omega)]; simp
    · show (_ - IntKind.i64.wrap _).toNat < _
      rw [wrap_in _ (by omega) (by omega)]; omega
  · conv => whnf
    refine ⟨trivial, ?_⟩
    conv => whnf
    exact ⟨rfl, rfl⟩
set_option maxHeartbeats 8000000 in
set_option maxRecDepth 100000 in
theorem markItemS_ok (l : List RItem) (n : Int) (hl : l.length < 1100000) (h0 : 0 ≤ n) (h1 : n < 10000000) : Good Try.prog 56 [.one (.hs 0 0 l.length), vint n] [.arr 4 (l.map encItem)] (vint (n + 4 * l.length)) [.arr 4 (tab l.length fun k => encItem (mrowItem (n + 4 * k)))] := by
  refine good_e (fun f => [56].contains f) Try.func56 rfl rfl ?_
  conv => whnf
  refine VLoop.enter [0, 1, 5] ?_
  conv => whnf
  refine VLoop.ind3 (n0 := 1) (α := Int) (β := Int) (γ := List (List PV)) (fun f => [56].contains f) [0, 1, 5] (fun a b L => ⟨43, 1, [(0, .one (.hs 0 0 l.length)), (1, vint b), (5, vint a)], [(0, some (.arr 4 L))]⟩)
    (fun a b L => ∃ i : Nat, a = i ∧ i ≤ l.length ∧ b = n + 4 * i ∧ L = mid l.length i (fun k => encItem (mrowItem (n + 4 * k))) (fun k => encItem (l.getD k zItem))) (fun a _ _ => (l.length - a).toNat) ?_ 0 n _ ⟨0, rfl, by omega, by simp, by rw [mid_zero]; exact tab_of l encItem zItem⟩
  rintro _ _ _ ⟨i, rfl, hi, rfl, rfl⟩
  conv => whnf
  split
  · rename_i h
    conv => whnf
    simp only [decide_eq_true_eq] at h
    have e0 : 0 + (i : Int).toNat = i := by simp
    have w : ∀ x : Int, 0 ≤ x → x < 20000000 → IntKind.i64.wrap x = x := fun x h1 h2 => wrap_in _ (by omega) (by omega)
    refine ⟨by omega, by omega, by simp [mid_length], ?_⟩
    conv => whnf
    refine ⟨_, mid_getD [] e0 (by omega), by simp [mid_length]; omega, ?_⟩
    conv => whnf
    refine .mk _ _ false Try.call76 (markText_ok _ (by simp (disch := omega) only [w]; omega) (by simp (disch := omega) only [w]; omega)) (Nat.le_of_ble_eq_true rfl) (.inl rfl) ?_
    conv => whnf
    refine ⟨by omega, by omega, by simp [mid_length], ?_⟩
    conv => whnf
    refine ⟨_, getD_set_self _ _ _ _ (by simp [mid_length]; omega), by simp [mid_length]; omega, ?_⟩
    conv => whnf
    refine ⟨by omega, by omega, by simp [mid_length], ?_⟩
    conv => whnf
    refine ⟨_, getD_set_self _ _ _ _ (by simp [mid_length]; omega), by simp [mid_length]; omega, ?_⟩
    conv => whnf
    refine .mk _ _ false Try.call76 (markText_ok _ (by simp (disch := omega) only [w]; omega) (by simp (disch := omega) only [w]; omega)) (Nat.le_of_ble_eq_true rfl) (.inl rfl) ?_
    conv => whnf
    refine ⟨by omega, by omega, by simp [mid_length], ?_⟩
    conv => whnf
    refine ⟨_, getD_set_self _ _ _ _ (by simp [mid_length]; omega), by simp [mid_length]; omega, ?_⟩
    conv => whnf
    refine ⟨_, _, _, rfl, rfl, ⟨i + 1, ?_, by omega, ?_, ?_⟩, ?_⟩
    · rw [w _ (by omega) (by omega)]; simp
    · simp (disch := omega) only [w]; omega
    · simp only [List.set_set]
      refine mid_set e0 ?_ (by omega)
      show ([.lit (.int .i64 (n + 4 * i)), .lit (.string (mtext _)), .lit (.int .i64 _), .lit (.string (mtext _))] : List PV) = _
      simp (disch := omega) only [w]
      simp only [encItem, mrowItem, Int.add_assoc]
      rfl
    · show (_ - IntKind.i64.wrap _).toNat < _
      rw [w _ (by omega) (by omega)]; omega
  · conv => whnf
    rename_i h
    simp at h
    obtain rfl : i = l.length := by omega
    refine ⟨trivial, ?_⟩
    conv => whnf
    exact ⟨rfl, by rw [mid_all]; rfl⟩
set_option maxHeartbeats 8000000 in
set_option maxRecDepth 100000 in
theorem heldItemS_ok (len : Nat) (n : Int) (hl : len < 1100000) (h0 : 0 ≤ n) (h1 : n < 10000000) : Good Try.prog 57 [.one (.p (.sl (tab len fun k => encItem (mrowItem (n + 4 * k))))), vint n] [] (vint (n + 4 * len)) [] := by
  refine good_e noM Try.func57 rfl rfl ?_
  conv => whnf
  refine VLoop.enter [0, 1, 5] ?_
  conv => whnf
  refine VLoop.ind2 (n0 := 0) (α := Int) (β := Int) noM [0, 1, 5] (fun a b => ⟨51, 0, [(0, .one (.p (.sl (tab len fun k => encItem (mrowItem (n + 4 * k)))))), (1, vint b), (5, vint a)], []⟩)
    (fun a b => ∃ i : Nat, a = i ∧ i ≤ len ∧ b = n + 4 * i) (fun a _ => (len - a).toNat) ?_ 0 n ⟨0, rfl, by omega, by simp⟩
  rintro _ _ ⟨i, rfl, hi, rfl⟩
  conv => whnf
  split
  · rename_i h
    simp [tab_length] at h
    have w : ∀ x : Int, 0 ≤ x → x < 20000000 → IntKind.i64.wrap x = x := fun x h1 h2 => wrap_in _ (by omega) (by omega)
    conv => whnf
    refine ⟨by omega, by simp [tab_length]; omega, _, tab_getD [] (by simp; omega), ?_⟩
    conv => whnf
    split
    · rename_i h; exfalso; simp (disch := omega) [w, mrowItem, Int.add_assoc] at h <;> omega
    conv => whnf
    refine VDraw.go ⟨_, [0, 0, 3, 7, 15, 0, 32, 127], [6], []⟩ rfl rfl (by decide +kernel) ?_
    conv => whnf
    refine ⟨by omega, by simp [tab_length]; omega, _, tab_getD [] (by simp; omega), ?_⟩
    conv => whnf
    refine .mk _ _ false Try.call76 (markText_ok _ (by simp (disch := omega) only [w]; omega) (by simp (disch := omega) only [w]; omega)) (Nat.le_of_ble_eq_true rfl) (.inl rfl) ?_
    conv => whnf
    split
    · rename_i h; exfalso; simp (disch := omega) [w, mrowItem, Int.add_assoc] at h <;> omega
    conv => whnf
    refine ⟨by omega, by simp [tab_length]; omega, _, tab_getD [] (by simp; omega), ?_⟩
    conv => whnf
    split
    · rename_i h; exfalso; simp (disch := omega) [w, mrowItem, Int.add_assoc] at h <;> omega
    conv => whnf
    refine VDraw.go ⟨_, [0, 0, 3, 7, 15, 0, 32, 127], [6], []⟩ rfl rfl (by decide +kernel) ?_
    conv => whnf
    refine ⟨by omega, by simp [tab_length]; omega, _, tab_getD [] (by simp; omega), ?_⟩
    conv => whnf
    refine .mk _ _ false Try.call76 (markText_ok _ (by simp (disch := omega) only [w]; omega) (by simp (disch := omega) only [w]; omega)) (Nat.le_of_ble_eq_true rfl) (.inl rfl) ?_
    conv => whnf
    split
    · rename_i h; exfalso; simp (disch := omega) [w, mrowItem, Int.add_assoc] at h <;> omega
    conv => whnf
    refine ⟨_, _, rfl, rfl, ⟨i + 1, ?_, by omega, ?_⟩, ?_⟩
    · rw [w _ (by omega) (by omega)]; simp
    · simp (disch := omega) only [w]; omega
    · show (_ - IntKind.i64.wrap _).toNat < _
      rw [w _ (by omega) (by omega)]; omega
  · rename_i h
    simp [tab_length] at h
    conv => whnf
    obtain rfl : i = len := by omega
    refine ⟨trivial, ?_⟩
    conv => whnf
    exact ⟨rfl, rfl⟩
end Go.Abs.C
