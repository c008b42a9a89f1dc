import Derived.Test.YtbpmfdpbgcpjeaaGCat1
set_option linter.unusedSimpArgs false
set_option linter.unusedVariables false
namespace Go.Abs.C
open Go Go.Abs Go.Proofs
attribute [local irreducible] IntKind.wrap
set_option maxHeartbeats 4000000 in
set_option maxRecDepth 100000 in
theorem l9Bytes_ok (l : Is) (h : Int) (hl : l.length < 1000) (hs : ∀ x ∈ l, x.d.size ≤ 1000) : Good Try.prog 39 [.one (.p (.sl (l.map encItem))), vint h] [] (vint (bytesOf l h)) [] := by
  have hle : ∀ i, bytesOf (l.take i) h ≤ 1000000 := fun i => by
    have := bytesOf_le h 1000 (l.take i) fun x hx => hs x (List.mem_of_mem_take hx)
    have h2 := List.length_take_le i l
    have : (l.take i).length * 1000 ≤ 1000 * 1000 := Nat.mul_le_mul_right _ (by rw [List.length_take]; omega)
    omega
  refine good_e noM Try.func39 rfl rfl ?_
  conv => whnf
  refine VLoop.enter [0, 1, 5, 6] ?_
  conv => whnf
  refine VLoop.ind2 (n0 := 0) (α := Int) (β := Int) noM [0, 1, 5, 6] (fun a b => ⟨29, 0, [(0, .one (.p (.sl (l.map encItem)))), (1, vint h), (5, vint b), (6, vint a)], []⟩)
    (fun a b => ∃ i : Nat, a = i ∧ i ≤ l.length ∧ b = bytesOf (l.take i) h) (fun a _ => ((l.length : Int) - a).toNat) ?_ 0 0 ⟨0, rfl, by omega, by simp [bytesOf]⟩
  rintro _ _ ⟨i, rfl, hi, rfl⟩
  have hm : (l.map encItem).length = l.length := by rw [List.length_map]
  conv => whnf
  split
  · rename_i q
    have q' := of_decide_eq_true q
    have hil : i < l.length := by omega
    have en : (i : Int).toNat = i := Int.toNat_natCast i
    have hw : IntKind.i64.wrap ((i : Int) + 1) = i + 1 := wi _ (by omega) (by omega)
    have hsn := bytesOf_snoc h l i hil
    have h1 := hle i
    have h2 := hle (i + 1)
    conv => whnf
    refine ⟨by omega, by omega, _, ia_at l en hil, ?_⟩
    conv => whnf
    split
    · rename_i q2
      simp only [beq_iff_eq] at q2
      rw [if_pos q2] at hsn
      conv => whnf
      refine ⟨by omega, by omega, _, ia_at l en hil, ?_⟩
      conv => whnf
      refine ⟨_, _, rfl, rfl, ⟨i + 1, by rw [hw]; simp, by omega, ?_⟩, by rw [hw]; omega⟩
      rw [wi _ (by omega) (by omega), hsn]; simp
    · rename_i q2
      simp only [beq_eq_false_iff_ne] at q2
      rw [if_neg q2] at hsn
      conv => whnf
      exact ⟨_, _, rfl, rfl, ⟨i + 1, by rw [hw]; simp, by omega, by rw [hsn]; simp⟩, by rw [hw]; omega⟩
  · rename_i q
    have q' := of_decide_eq_false q
    conv => whnf
    refine ⟨trivial, ?_⟩
    conv => whnf
    rw [List.take_of_length_le (by omega)]
    exact ⟨rfl, rfl⟩
set_option maxHeartbeats 4000000 in
set_option maxRecDepth 100000 in
theorem bytes_ok (l : Is) (last h : Int) (hl : l.length < 1000) (hs : ∀ x ∈ l, x.d.size ≤ 1000) : Good Try.prog 45 [cat l last, vint h] [] (vint (bytesOf l h)) [] := by
  have hle : ∀ i, bytesOf (l.take i) h ≤ 1000000 := fun i => by
    have := bytesOf_le h 1000 (l.take i) fun x hx => hs x (List.mem_of_mem_take hx)
    have h2 := List.length_take_le i l
    have : (l.take i).length * 1000 ≤ 1000 * 1000 := Nat.mul_le_mul_right _ (by rw [List.length_take]; omega)
    omega
  refine good_e noM Try.func45 rfl rfl ?_
  conv => whnf
  refine VLoop.enter [1, 5, 9, 10, 11] ?_
  conv => whnf
  refine VLoop.ind2 (n0 := 0) (α := Int) (β := Int) noM [1, 5, 9, 10, 11] (fun a b => ⟨26, 0, [(1, vint h), (5, vint b), (9, .one (.p (.sl (l.map encItem)))), (10, vint (l.map encItem).length), (11, vint a)], []⟩)
    (fun a b => ∃ i : Nat, a = i ∧ i ≤ l.length ∧ b = bytesOf (l.take i) h) (fun a _ => ((l.length : Int) - a).toNat) ?_ 0 0 ⟨0, rfl, by omega, by simp [bytesOf]⟩
  rintro _ _ ⟨i, rfl, hi, rfl⟩
  have hm : (l.map encItem).length = l.length := by rw [List.length_map]
  conv => whnf
  split
  · rename_i q
    have q' := of_decide_eq_true q
    have hil : i < l.length := by omega
    have en : (i : Int).toNat = i := Int.toNat_natCast i
    have hw : IntKind.i64.wrap ((i : Int) + 1) = i + 1 := wi _ (by omega) (by omega)
    have hsn := bytesOf_snoc h l i hil
    have h1 := hle i
    have h2 := hle (i + 1)
    conv => whnf
    refine ⟨by omega, by omega, _, ia_at l en hil, ?_⟩
    conv => whnf
    split
    · rename_i q2
      simp only [beq_iff_eq] at q2
      rw [if_pos q2] at hsn
      conv => whnf
      refine ⟨_, _, rfl, rfl, ⟨i + 1, by rw [hw]; simp, by omega, ?_⟩, by rw [hw]; omega⟩
      rw [wi _ (by omega) (by omega), hsn]; simp
    · rename_i q2
      simp only [beq_eq_false_iff_ne] at q2
      rw [if_neg q2] at hsn
      conv => whnf
      exact ⟨_, _, rfl, rfl, ⟨i + 1, by rw [hw]; simp, by omega, by rw [hsn]; simp⟩, by rw [hw]; omega⟩
  · rename_i q
    have q' := of_decide_eq_false q
    conv => whnf
    refine ⟨trivial, ?_⟩
    conv => whnf
    rw [List.take_of_length_le (by omega)]
    exact ⟨rfl, rfl⟩
set_option maxHeartbeats 4000000 in
set_option maxRecDepth 100000 in
theorem edClo_ok (x : RItem) (e : Int) : Good Try.prog 68 [.agg ((encItem x).map .p), .one (.hp 0 0 0)] [.box [.p (.lit (.int .i64 e))]] (vbool (x.c == e)) [.box [.p (.lit (.int .i64 e))]] := by
  refine good_e noM Try.func68 rfl rfl ?_
  conv => whnf
  refine ⟨trivial, ?_⟩
  conv => whnf
  exact ⟨rfl, rfl⟩
set_option maxHeartbeats 4000000 in
set_option maxRecDepth 100000 in
theorem fiClo_ok (x : RItem) (h : Int) (n : ByteArray) : Good Try.prog 72 [.agg ((encItem x).map .p), .one (.hp 0 0 0), .one (.hp 1 0 0)] [.box [.p (.lit (.int .i64 h))], .box [.p (.lit (.string n))]] (vbool (same x h n)) [.box [.p (.lit (.int .i64 h))], .box [.p (.lit (.string n))]] := by
  refine good_e noM Try.func72 rfl rfl ?_
  unfold same
  conv => whnf
  split
  · rename_i q
    rw [q]
    conv => whnf
    refine ⟨trivial, ?_⟩
    conv => whnf
    exact ⟨rfl, rfl⟩
  · rename_i q
    rw [q]
    conv => whnf
    refine ⟨trivial, ?_⟩
    conv => whnf
    exact ⟨rfl, rfl⟩
set_option maxHeartbeats 4000000 in
set_option maxRecDepth 100000 in
theorem idxEd_ok (l : Is) (e : Int) (hl : l.length < 1100000) : Good Try.prog 67 [.one (.p (.sl (l.map encItem))), .clo 68 [.hp 0 0 0]] [.box [.p (.lit (.int .i64 e))]] (vint (findI (fun x => x.c == e) l)) [.box [.p (.lit (.int .i64 e))]] := by
  refine good_e noM Try.func67 rfl rfl ?_
  conv => whnf
  refine VLoop.enter [0, 1, 7, 8] ?_
  conv => whnf
  refine VLoop.ind1 (n0 := 1) (α := Int) noM [0, 1, 7, 8] (fun a => ⟨19, 1, [(0, .one (.p (.sl (l.map encItem)))), (1, .clo 68 [.hp 0 0 0]), (7, vint (l.map encItem).length), (8, vint a)], [(0, some (.box [.p (.lit (.int .i64 e))]))]⟩)
    (fun a => ∃ i : Nat, a = i ∧ i ≤ l.length ∧ ∀ k, k < i → ((ia l k).c == e) = false) (fun a => ((l.length : Int) - a).toNat) ?_ 0 ⟨0, rfl, by omega, fun k hk => by omega⟩
  rintro _ ⟨i, rfl, hi, hp⟩
  have hm : (l.map encItem).length = l.length := by rw [List.length_map]
  conv => whnf
  split
  · rename_i q
    have q' := of_decide_eq_true q
    have hil : i < l.length := by omega
    have en : (i : Int).toNat = i := Int.toNat_natCast i
    have hw : IntKind.i64.wrap ((i : Int) + 1) = i + 1 := wi _ (by omega) (by omega)
    conv => whnf
    refine ⟨by omega, by omega, _, ia_at l en hil, ?_⟩
    conv => whnf
    refine .mk _ _ false Try.call68 (edClo_ok _ e) (Nat.le_of_ble_eq_true rfl) (.inl rfl) ?_
    conv => whnf
    split
    · rename_i q2
      conv => whnf
      refine ⟨trivial, ?_⟩
      conv => whnf
      rw [findI_at hil hp q2]
      exact ⟨rfl, rfl⟩
    · rename_i q2
      conv => whnf
      refine ⟨_, rfl, rfl, ⟨i + 1, by rw [hw]; simp, by omega, fun k hk => ?_⟩, by rw [hw]; omega⟩
      by_cases e : k = i
      · subst e; exact q2
      · exact hp k (by omega)
  · rename_i q
    have q' := of_decide_eq_false q
    conv => whnf
    refine ⟨trivial, ?_⟩
    conv => whnf
    rw [findI_no (fun k hk => hp k (by omega))]
    exact ⟨rfl, rfl⟩
set_option maxHeartbeats 4000000 in
set_option maxRecDepth 100000 in
theorem idxFi_ok (l : Is) (h : Int) (n : ByteArray) (hl : l.length < 1100000) : Good Try.prog 67 [.one (.p (.sl (l.map encItem))), .clo 72 [.hp 0 0 0, .hp 1 0 0]] [.box [.p (.lit (.int .i64 h))], .box [.p (.lit (.string n))]] (vint (findI (fun x => same x h n) l)) [.box [.p (.lit (.int .i64 h))], .box [.p (.lit (.string n))]] := by
  refine good_e noM Try.func67 rfl rfl ?_
  conv => whnf
  refine VLoop.enter [0, 1, 7, 8] ?_
  conv => whnf
  refine VLoop.ind1 (n0 := 2) (α := Int) noM [0, 1, 7, 8] (fun a => ⟨19, 2, [(0, .one (.p (.sl (l.map encItem)))), (1, .clo 72 [.hp 0 0 0, .hp 1 0 0]), (7, vint (l.map encItem).length), (8, vint a)], [(0, some (.box [.p (.lit (.int .i64 h))])), (1, some (.box [.p (.lit (.string n))]))]⟩)
    (fun a => ∃ i : Nat, a = i ∧ i ≤ l.length ∧ ∀ k, k < i → same (ia l k) h n = false) (fun a => ((l.length : Int) - a).toNat) ?_ 0 ⟨0, rfl, by omega, fun k hk => by omega⟩
  rintro _ ⟨i, rfl, hi, hp⟩
  have hm : (l.map encItem).length = l.length := by rw [List.length_map]
  conv => whnf
  split
  · rename_i q
    have q' := of_decide_eq_true q
    have hil : i < l.length := by omega
    have en : (i : Int).toNat = i := Int.toNat_natCast i
    have hw : IntKind.i64.wrap ((i : Int) + 1) = i + 1 := wi _ (by omega) (by omega)
    conv => whnf
    refine ⟨by omega, by omega, _, ia_at l en hil, ?_⟩
    conv => whnf
    refine .mk _ _ false Try.call72 (fiClo_ok _ h n) (Nat.le_of_ble_eq_true rfl) (.inl rfl) ?_
    conv => whnf
    split
    · rename_i q2
      conv => whnf
      refine ⟨trivial, ?_⟩
      conv => whnf
      rw [findI_at (p := fun x => same x h n) hil hp q2]
      exact ⟨rfl, rfl⟩
    · rename_i q2
      conv => whnf
      refine ⟨_, rfl, rfl, ⟨i + 1, by rw [hw]; simp, by omega, fun k hk => ?_⟩, by rw [hw]; omega⟩
      by_cases e : k = i
      · subst e; exact q2
      · exact hp k (by omega)
  · rename_i q
    have q' := of_decide_eq_false q
    conv => whnf
    refine ⟨trivial, ?_⟩
    conv => whnf
    rw [findI_no (p := fun x => same x h n) (fun k hk => hp k (by omega))]
    exact ⟨rfl, rfl⟩
set_option maxHeartbeats 4000000 in
set_option maxRecDepth 100000 in
theorem edition_ok (l : Is) (last e : Int) (hl : l.length < 1100000) : Good Try.prog 43 [cat l last, vint e] [] (vint (findI (fun x => x.c == e) l)) [] := by
  refine good_e noM Try.func43 rfl rfl ?_
  conv => whnf
  refine .mk _ _ false Try.call67 (idxEd_ok l e hl) (Nat.le_of_ble_eq_true rfl) (.inl rfl) ?_
  conv => whnf
  refine ⟨trivial, ?_⟩
  conv => whnf
  exact ⟨rfl, rfl⟩
set_option maxHeartbeats 4000000 in
set_option maxRecDepth 100000 in
theorem find_ok (l : Is) (last h : Int) (n : ByteArray) (hl : l.length < 1100000) : Good Try.prog 49 [cat l last, vint h, vstr n] [] (vint (findI (fun x => same x h n) l)) [] := by
  refine good_e noM Try.func49 rfl rfl ?_
  conv => whnf
  refine .mk _ _ false Try.call67 (idxFi_ok l h n hl) (Nat.le_of_ble_eq_true rfl) (.inl rfl) ?_
  conv => whnf
  refine ⟨trivial, ?_⟩
  conv => whnf
  exact ⟨rfl, rfl⟩
set_option maxHeartbeats 4000000 in
set_option maxRecDepth 100000 in
theorem l9At_ok (l : Is) (last h : Int) (n : ByteArray) (hl : l.length < 1100000) : Good Try.prog 48 [cat l last, vint h, vstr n] [] (vint (findI (fun x => same x h n) l)) [] := by
  refine good_e noM Try.func48 rfl rfl ?_
  conv => whnf
  refine VLoop.enter [1, 2, 3, 7] ?_
  conv => whnf
  refine VLoop.ind1 (n0 := 1) (α := Int) noM [1, 2, 3, 7] (fun a => ⟨34, 0, [(1, vint h), (2, vstr n), (3, .one (.hp 0 0 0)), (7, vint a)], [(0, some (.box [.p (.lit (.int .i64 last)), .p (.sl (l.map encItem))]))]⟩)
    (fun a => ∃ i : Nat, a = i ∧ i ≤ l.length ∧ ∀ k, k < i → same (ia l k) h n = false) (fun a => ((l.length : Int) - a).toNat) ?_ 0 ⟨0, rfl, by omega, fun k hk => by omega⟩
  rintro _ ⟨i, rfl, hi, hp⟩
  have hm : (l.map encItem).length = l.length := by rw [List.length_map]
  conv => whnf
  split
  · rename_i q
    have q' := of_decide_eq_true q
    have hil : i < l.length := by omega
    have en : (i : Int).toNat = i := Int.toNat_natCast i
    have hw : IntKind.i64.wrap ((i : Int) + 1) = i + 1 := wi _ (by omega) (by omega)
    have fin : same (ia l i) h n = false → ∃ i2 : Nat, IntKind.i64.wrap ((i : Int) + 1) = i2 ∧ i2 ≤ l.length ∧ ∀ k, k < i2 → same (ia l k) h n = false := fun hne => ⟨i + 1, by rw [hw]; simp, by omega, fun k hk => by
      by_cases e : k = i
      · subst e; exact hne
      · exact hp k (by omega)⟩
    conv => whnf
    refine ⟨by omega, by omega, _, ia_at l en hil, ?_⟩
    conv => whnf
    split
    · rename_i q1
      conv => whnf
      refine ⟨by omega, by omega, _, ia_at l en hil, ?_⟩
      conv => whnf
      split
      · rename_i q2
        conv => whnf
        refine ⟨trivial, ?_⟩
        conv => whnf
        rw [findI_at (p := fun x => same x h n) hil hp (by unfold same; rw [q1]; exact q2)]
        exact ⟨rfl, rfl⟩
      · rename_i q2
        conv => whnf
        exact ⟨_, rfl, rfl, fin (by unfold same; rw [q1]; exact q2), by rw [hw]; omega⟩
    · rename_i q1
      conv => whnf
      exact ⟨_, rfl, rfl, fin (by unfold same; rw [q1]; rfl), by rw [hw]; omega⟩
  · rename_i q
    have q' := of_decide_eq_false q
    conv => whnf
    refine ⟨trivial, ?_⟩
    conv => whnf
    rw [findI_no (p := fun x => same x h n) (fun k hk => hp k (by omega))]
    exact ⟨rfl, rfl⟩
end Go.Abs.C
