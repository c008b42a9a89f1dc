import Derived.Test.YtlfnjkcgefcidaaGRowTypes
set_option linter.unusedSimpArgs false
set_option linter.unusedVariables false
namespace Go.Abs.B
open Go Go.Abs Go.Proofs
attribute [local irreducible] IntKind.wrap
/-! ### what the functions of a pool reckon -/
abbrev Fs := List RFrame
@[reducible] def pool (l : Fs) (h : Int) : AV := .agg [.p (.sl (l.map encFrame)), .p (.lit (.int .i64 h))]
def inR (n lo hi : Int) : Bool := decide (lo ≤ n) && decide (n ≤ hi)
def cnt (house : Int) (l : Fs) : Nat := (l.filter fun x => decide (x.b > 0) && decide (x.a = house)).length
def hit (e b : Int) (x : RFrame) : Bool := x.b == e && x.c == b
def find (e b : Int) (l : Fs) : Int := match l.findIdx? (hit e b) with
  | some i => i
  | none => -1
theorem find_at {e b : Int} {l : Fs} {i : Nat} (hi : i < l.length) (h0 : ∀ k, k < i → hit e b (l.getD k zFrame) = false) (h1 : hit e b (l.getD i zFrame) = true) : find e b l = i := by
  have : l.findIdx? (hit e b) = some i := by
    rw [List.findIdx?_eq_some_iff_getElem]
    have g : ∀ k (hk : k < l.length), l.getD k zFrame = l[k] := fun k hk => by rw [List.getD_eq_getElem?_getD, List.getElem?_eq_getElem hk]; rfl
    refine ⟨hi, by rw [← g]; exact h1, fun j hj => ?_⟩
    have := h0 j hj
    rw [g j (by omega)] at this
    simpa using this
  simp [find, this]
theorem find_no {e b : Int} {l : Fs} (h0 : ∀ k, k < l.length → hit e b (l.getD k zFrame) = false) : find e b l = -1 := by
  have : l.findIdx? (hit e b) = none := by
    rw [List.findIdx?_eq_none_iff]
    intro x hx
    obtain ⟨k, hk, rfl⟩ := List.mem_iff_getElem.1 hx
    have := h0 k hk
    rwa [List.getD_eq_getElem?_getD, List.getElem?_eq_getElem hk] at this
  simp [find, this]
theorem cnt_snoc (house : Int) (l : Fs) (i : Nat) (h : i < l.length) : (cnt house (l.take (i + 1)) : Int) = cnt house (l.take i) + if (l.getD i zFrame).b > 0 ∧ (l.getD i zFrame).a = house then 1 else 0 := by
  have : l.take (i + 1) = l.take i ++ [l.getD i zFrame] := by
    rw [List.take_succ_eq_append_getElem h, List.getD_eq_getElem?_getD, List.getElem?_eq_getElem h]; rfl
  unfold cnt
  rw [this, List.filter_append, List.length_append]
  by_cases h1 : (l.getD i zFrame).b > 0 ∧ (l.getD i zFrame).a = house
  · rw [if_pos h1, List.filter_cons, if_pos (by simpa using h1)]; simp
  · rw [if_neg h1, List.filter_cons, if_neg (by simpa using h1)]; simp
theorem cnt_le (house : Int) (l : Fs) (i : Nat) : (cnt house (l.take i) : Int) ≤ i := by
  unfold cnt
  have h1 := List.length_filter_le (fun x => decide (x.b > 0) && decide (x.a = house)) (l.take i)
  have h2 := List.length_take_le i l
  omega
set_option maxHeartbeats 4000000 in
set_option maxRecDepth 100000 in
theorem within_ok (n lo hi : Int) : Good Try.prog 45 [vint n, vint lo, vint hi] [] (vbool (inR n lo hi)) [] := by
  refine good_e noM Try.func45 rfl rfl ?_
  conv => whnf
  split
  all_goals
    rename_i h
    conv => whnf
    refine ⟨trivial, ?_⟩
    conv => whnf
    exact ⟨vbool_c (by unfold inR; simp at h; first | (simp [h]; done) | (simp [h]; omega)), rfl⟩
set_option maxHeartbeats 4000000 in
set_option maxRecDepth 100000 in
theorem l1In_ok (n lo hi : Int) : Good Try.prog 41 [vint n, vint lo, vint hi] [] (vbool (inR n lo hi)) [] := by
  refine good_e noM Try.func41 rfl rfl ?_
  conv => whnf
  split
  all_goals
    rename_i h
    conv => whnf
    refine ⟨trivial, ?_⟩
    conv => whnf
    exact ⟨vbool_c (by unfold inR; simp at h; first | (simp [h]; done) | (simp [h]; omega)), rfl⟩
set_option maxHeartbeats 4000000 in
set_option maxRecDepth 100000 in
theorem house_ok (n : Int) : Good Try.prog 46 [vint n] [] (vbool (inR n 0 1)) [] := by
  refine good_e noM Try.func46 rfl rfl ?_
  conv => whnf
  refine .mk _ _ false Try.call45 (within_ok _ _ _) (Nat.le_of_ble_eq_true rfl) (.inl rfl) ?_
  conv => whnf
  refine ⟨trivial, ?_⟩
  conv => whnf
  exact ⟨rfl, rfl⟩
set_option maxHeartbeats 4000000 in
set_option maxRecDepth 100000 in
theorem l10Of_ok (l : Fs) (hand house : Int) (hl : l.length < 1000) : Good Try.prog 43 [pool l hand, vint house] [] (vint (cnt house l)) [] := by
  refine good_e noM Try.func43 rfl rfl ?_
  conv => whnf
  refine VLoop.enter [1, 2, 5, 6] ?_
  conv => whnf
  refine VLoop.ind2 (n0 := 1) (α := Int) (β := Int) noM [1, 2, 5, 6] (fun a b => ⟨34, 0, [(1, vint house), (2, .one (.hp 0 0 0)), (5, vint a), (6, vint b)], [(0, some (.box [.p (.sl (l.map encFrame)), .p (.lit (.int .i64 hand))]))]⟩)
    (fun a b => ∃ i : Nat, b = i ∧ i ≤ l.length ∧ a = cnt house (l.take i)) (fun a b => (l.length - b).toNat) ?_ 0 0 ⟨0, rfl, by omega, by simp [cnt]⟩
  rintro _ _ ⟨i, rfl, hi, rfl⟩
  conv => whnf
  split
  · rename_i h
    conv => whnf
    simp only [List.length_map, decide_eq_true_eq] at h
    have hc := cnt_snoc house l i (by omega)
    have hb := cnt_le house l i
    have w : ∀ x : Int, 0 ≤ x → x < 200000 → IntKind.i64.wrap x = x := fun x h1 h2 => wrap_in _ (by omega) (by omega)
    have fin : ∀ v : Int, v = cnt house (l.take i) + (if (l.getD i zFrame).b > 0 ∧ (l.getD i zFrame).a = house then 1 else 0) → ∃ k : Nat, IntKind.i64.wrap ((i : Int) + 1) = k ∧ k ≤ l.length ∧ v = cnt house (l.take k) := by
      intro v hv
      exact ⟨i + 1, by rw [w _ (by omega) (by omega)]; simp, by omega, by rw [hv, ← hc]⟩
    have hm : ((l.length : Int) - IntKind.i64.wrap ((i : Int) + 1)).toNat < ((l.length : Int) - (i : Int)).toNat := by rw [w _ (by omega) (by omega)]; omega
    refine ⟨by omega, by simp; omega, _, getD_map encFrame l _ zFrame (by omega), ?_⟩
    conv => whnf
    split
    · rename_i h1
      conv => whnf
      refine ⟨by omega, by simp; omega, _, getD_map encFrame l _ zFrame (by omega), ?_⟩
      conv => whnf
      split
      · rename_i h2
        conv => whnf
        refine ⟨_, _, rfl, rfl, fin _ ?_, hm⟩
        rw [w _ (by omega) (by omega), if_pos ⟨of_decide_eq_true h1, eq_of_beq h2⟩]
      · rename_i h2
        conv => whnf
        refine ⟨_, _, rfl, rfl, fin _ ?_, hm⟩
        rw [if_neg (fun q => ne_of_beq_false h2 q.2)]; omega
    · rename_i h1
      conv => whnf
      refine ⟨_, _, rfl, rfl, fin _ ?_, hm⟩
      rw [if_neg (fun q => of_decide_eq_false h1 q.1)]; omega
  · rename_i h
    conv => whnf
    simp at h
    refine ⟨trivial, ?_⟩
    conv => whnf
    refine ⟨vint_c ?_, rfl⟩
    rw [List.take_of_length_le (by omega)]
set_option maxHeartbeats 4000000 in
set_option maxRecDepth 100000 in
theorem of_ok (l : Fs) (hand house : Int) (hl : l.length < 1000) : Good Try.prog 48 [pool l hand, vint house] [] (vint (cnt house l)) [] := by
  refine good_e noM Try.func48 rfl rfl ?_
  conv => whnf
  refine VLoop.enter [1, 5, 9, 10, 11] ?_
  conv => whnf
  refine VLoop.ind2 (n0 := 0) (α := Int) (β := Int) noM [1, 5, 9, 10, 11] (fun a b => ⟨28, 0, [(1, vint house), (5, vint a), (9, .one (.p (.sl (l.map encFrame)))), (10, vint ((l.map encFrame).length : Nat)), (11, vint b)], []⟩)
    (fun a b => ∃ i : Nat, b = i ∧ i ≤ l.length ∧ a = cnt house (l.take i)) (fun a b => (l.length - b).toNat) ?_ 0 0 ⟨0, rfl, by omega, by simp [cnt]⟩
  rintro _ _ ⟨i, rfl, hi, rfl⟩
  conv => whnf
  split
  · rename_i h
    conv => whnf
    simp only [List.length_map, decide_eq_true_eq] at h
    have hc := cnt_snoc house l i (by omega)
    have hb := cnt_le house l i
    have w : ∀ x : Int, 0 ≤ x → x < 200000 → IntKind.i64.wrap x = x := fun x h1 h2 => wrap_in _ (by omega) (by omega)
    have fin : ∀ v : Int, v = cnt house (l.take i) + (if (l.getD i zFrame).b > 0 ∧ (l.getD i zFrame).a = house then 1 else 0) → ∃ k : Nat, IntKind.i64.wrap ((i : Int) + 1) = k ∧ k ≤ l.length ∧ v = cnt house (l.take k) := by
      intro v hv
      exact ⟨i + 1, by rw [w _ (by omega) (by omega)]; simp, by omega, by rw [hv, ← hc]⟩
    have hm : ((l.length : Int) - IntKind.i64.wrap ((i : Int) + 1)).toNat < ((l.length : Int) - (i : Int)).toNat := by rw [w _ (by omega) (by omega)]; omega
    refine ⟨by omega, by simp; omega, _, getD_map encFrame l _ zFrame (by omega), ?_⟩
    conv => whnf
    split
    · rename_i h1
      conv => whnf
      split
      · rename_i h2
        conv => whnf
        refine ⟨_, _, rfl, rfl, fin _ ?_, hm⟩
        rw [w _ (by omega) (by omega), if_pos ⟨of_decide_eq_true h1, eq_of_beq h2⟩]
      · rename_i h2
        conv => whnf
        refine ⟨_, _, rfl, rfl, fin _ ?_, hm⟩
        rw [if_neg (fun q => ne_of_beq_false h2 q.2)]; omega
    · rename_i h1
      conv => whnf
      refine ⟨_, _, rfl, rfl, fin _ ?_, hm⟩
      rw [if_neg (fun q => of_decide_eq_false h1 q.1)]; omega
  · rename_i h
    conv => whnf
    simp at h
    refine ⟨trivial, ?_⟩
    conv => whnf
    refine ⟨vint_c ?_, rfl⟩
    rw [List.take_of_length_le (by omega)]
set_option maxHeartbeats 4000000 in
set_option maxRecDepth 100000 in
theorem l10Find_ok (l : Fs) (hand e b : Int) (hl : l.length < 1000) : Good Try.prog 76 [pool l hand, vint e, vint b] [] (vint (find e b l)) [] := by
  refine good_e noM Try.func76 rfl rfl ?_
  conv => whnf
  refine VLoop.enter [1, 2, 3, 7] ?_
  conv => whnf
  refine VLoop.ind1 (n0 := 1) (α := Int) noM [1, 2, 3, 7] (fun a => ⟨34, 0, [(1, vint e), (2, vint b), (3, .one (.hp 0 0 0)), (7, vint a)], [(0, some (.box [.p (.sl (l.map encFrame)), .p (.lit (.int .i64 hand))]))]⟩)
    (fun a => ∃ i : Nat, a = i ∧ i ≤ l.length ∧ ∀ k, k < i → hit e b (l.getD k zFrame) = false) (fun a => (l.length - a).toNat) ?_ 0 ⟨0, rfl, by omega, fun k hk => absurd hk (by omega)⟩
  rintro _ ⟨i, rfl, hi, hno⟩
  conv => whnf
  split
  · rename_i h
    conv => whnf
    simp only [List.length_map, decide_eq_true_eq] at h
    have w : ∀ x : Int, 0 ≤ x → x < 200000 → IntKind.i64.wrap x = x := fun x h1 h2 => wrap_in _ (by omega) (by omega)
    have fin : hit e b (l.getD i zFrame) = false → ∃ k : Nat, IntKind.i64.wrap ((i : Int) + 1) = k ∧ k ≤ l.length ∧ ∀ j, j < k → hit e b (l.getD j zFrame) = false := by
      intro hv
      refine ⟨i + 1, by rw [w _ (by omega) (by omega)]; simp, by omega, fun j hj => ?_⟩
      by_cases q : j = i
      · rw [q]; exact hv
      · exact hno j (by omega)
    have hm : ((l.length : Int) - IntKind.i64.wrap ((i : Int) + 1)).toNat < ((l.length : Int) - (i : Int)).toNat := by rw [w _ (by omega) (by omega)]; omega
    refine ⟨by omega, by simp; omega, _, getD_map encFrame l _ zFrame (by omega), ?_⟩
    conv => whnf
    split
    · rename_i h1
      conv => whnf
      refine ⟨by omega, by simp; omega, _, getD_map encFrame l _ zFrame (by omega), ?_⟩
      conv => whnf
      split
      · rename_i h2
        conv => whnf
        refine ⟨trivial, ?_⟩
        conv => whnf
        exact ⟨vint_c (find_at (by omega) hno (by unfold hit; rw [Bool.and_eq_true]; exact ⟨h1, h2⟩)).symm, rfl⟩
      · rename_i h2
        conv => whnf
        exact ⟨_, rfl, rfl, fin (by unfold hit; rw [Bool.and_eq_false_iff]; exact .inr h2), hm⟩
    · rename_i h1
      conv => whnf
      exact ⟨_, rfl, rfl, fin (by unfold hit; rw [Bool.and_eq_false_iff]; exact .inl h1), hm⟩
  · rename_i h
    conv => whnf
    simp at h
    refine ⟨trivial, ?_⟩
    conv => whnf
    exact ⟨vint_c (find_no fun k hk => hno k (by omega)).symm, rfl⟩
set_option maxHeartbeats 4000000 in
set_option maxRecDepth 100000 in
theorem find_ok (l : Fs) (hand e b : Int) (hl : l.length < 1000) : Good Try.prog 47 [pool l hand, vint e, vint b] [] (vint (find e b l)) [] := by
  refine good_e noM Try.func47 rfl rfl ?_
  conv => whnf
  refine VLoop.enter [1, 2, 10, 11, 12] ?_
  conv => whnf
  refine VLoop.ind1 (n0 := 0) (α := Int) noM [1, 2, 10, 11, 12] (fun a => ⟨29, 0, [(1, vint e), (2, vint b), (10, .one (.p (.sl (l.map encFrame)))), (11, vint ((l.map encFrame).length : Nat)), (12, vint a)], []⟩)
    (fun a => ∃ i : Nat, a = i ∧ i ≤ l.length ∧ ∀ k, k < i → hit e b (l.getD k zFrame) = false) (fun a => (l.length - a).toNat) ?_ 0 ⟨0, rfl, by omega, fun k hk => absurd hk (by omega)⟩
  rintro _ ⟨i, rfl, hi, hno⟩
  conv => whnf
  split
  · rename_i h
    conv => whnf
    simp only [List.length_map, decide_eq_true_eq] at h
    have w : ∀ x : Int, 0 ≤ x → x < 200000 → IntKind.i64.wrap x = x := fun x h1 h2 => wrap_in _ (by omega) (by omega)
    have fin : hit e b (l.getD i zFrame) = false → ∃ k : Nat, IntKind.i64.wrap ((i : Int) + 1) = k ∧ k ≤ l.length ∧ ∀ j, j < k → hit e b (l.getD j zFrame) = false := by
      intro hv
      refine ⟨i + 1, by rw [w _ (by omega) (by omega)]; simp, by omega, fun j hj => ?_⟩
      by_cases q : j = i
      · rw [q]; exact hv
      · exact hno j (by omega)
    have hm : ((l.length : Int) - IntKind.i64.wrap ((i : Int) + 1)).toNat < ((l.length : Int) - (i : Int)).toNat := by rw [w _ (by omega) (by omega)]; omega
    refine ⟨by omega, by simp; omega, _, getD_map encFrame l _ zFrame (by omega), ?_⟩
    conv => whnf
    split
    · rename_i h1
      conv => whnf
      split
      · rename_i h2
        conv => whnf
        refine ⟨trivial, ?_⟩
        conv => whnf
        exact ⟨vint_c (find_at (by omega) hno (by unfold hit; rw [Bool.and_eq_true]; exact ⟨h1, h2⟩)).symm, rfl⟩
      · rename_i h2
        conv => whnf
        exact ⟨_, rfl, rfl, fin (by unfold hit; rw [Bool.and_eq_false_iff]; exact .inr h2), hm⟩
    · rename_i h1
      conv => whnf
      exact ⟨_, rfl, rfl, fin (by unfold hit; rw [Bool.and_eq_false_iff]; exact .inl h1), hm⟩
  · rename_i h
    conv => whnf
    simp at h
    refine ⟨trivial, ?_⟩
    conv => whnf
    exact ⟨vint_c (find_no fun k hk => hno k (by omega)).symm, rfl⟩
end Go.Abs.B
