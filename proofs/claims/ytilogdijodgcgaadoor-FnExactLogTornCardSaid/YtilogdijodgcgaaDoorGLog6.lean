import Derived.Test.YtilogdijodgcgaaDoorGLaw1
set_option linter.unusedSimpArgs false
set_option linter.unusedVariables false
namespace Go.Abs.E
open Go Go.Abs Go.Proofs Go.RowKit
attribute [local irreducible] IntKind.wrap
attribute [local irreducible] lineS hashS
def tornS (log : ByteArray) (o : Option ByteArray) (m : Int) : ByteArray := match o with
  | none => log
  | some l => l.extract 0 ((log.size : Int) + min (max m 0) ((l.size : Int) - log.size)).toNat
theorem addO_some {log : ByteArray} {n at_ : Nat} {r l : ByteArray} (h : addO log n at_ r = some l) : l = log ++ lineS n r ∧ l.size ≤ 9000 ∧ log.size ≤ l.size := by
  unfold addO at h
  split at h
  · rename_i q
    cases h
    refine ⟨rfl, ?_, ?_⟩
    · rw [ByteArray.size_append]; exact q.2.2
    · rw [ByteArray.size_append]; omega
  · cases h
theorem ext_self {l : ByteArray} {n : Nat} (h : l.size ≤ n) : l.extract 0 n = l := by
  apply ByteArray.ext
  rw [ByteArray.data_extract]
  exact Array.extract_eq_self_of_le h
theorem ext_app {a b : ByteArray} : (a ++ b).extract 0 a.size = a := by
  apply ByteArray.ext
  rw [ByteArray.data_extract, ByteArray.data_append]
  apply Array.ext'
  rw [Array.toList_extract, Array.toList_append, List.extract_eq_take_drop]
  rw [List.drop_zero, Nat.sub_zero, show a.size = a.data.toList.length from rfl, List.take_left]
set_option maxHeartbeats 16000000 in
set_option maxRecDepth 100000 in
theorem specTorn_ok (log : ByteArray) (hs : log.size ≤ 2000000) (rs : List ByteArray) (at_ : Nat) (f : Fin log rs at_) (r : ByteArray) (m : Int) (hm : -9223372036854775808 ≤ m ∧ m ≤ 9223372036854775807) : Good Tryd.prog 22 [vstr log, vstr r, vint m] [] (vstr (tornS log (addO log rs.length at_ r) m)) [] := by
  refine good_e noM Tryd.func22 rfl rfl ?_
  conv => whnf
  refine .mk _ _ false Tryd.call15 (specAdd_ok log hs rs at_ f r) (Nat.le_of_ble_eq_true rfl) (.inl rfl) ?_
  conv => whnf
  cases ho : addO log rs.length at_ r with
  | none =>
    conv => whnf
    refine ⟨trivial, ?_⟩
    conv => whnf
    exact ⟨rfl, rfl⟩
  | some l =>
    have hl := addO_some ho
    conv => whnf
    split
    · rename_i q
      have q' := of_decide_eq_true q
      conv => whnf
      rw [show tornS log (some l) m = log from by
        unfold tornS
        show l.extract 0 _ = log
        rw [show ((log.size : Int) + min (max m 0) ((l.size : Int) - log.size)).toNat = log.size by omega, hl.1, ext_app]]
      refine ⟨trivial, ?_⟩
      conv => whnf
      exact ⟨rfl, rfl⟩
    rename_i q
    have q' := of_decide_eq_false q
    conv => whnf
    split
    · rename_i q1
      have q1' := of_decide_eq_true q1
      have hw : IntKind.i64.wrap ((l.size : Int) - log.size) = (l.size : Int) - log.size := wrap_in _ (by omega) (by omega)
      rw [show ((some l).getD ⟨#[]⟩) = l from rfl, hw] at q1'
      conv => whnf
      rw [show tornS log (some l) m = l from by
        unfold tornS
        show l.extract 0 _ = l
        exact ext_self (by omega)]
      refine ⟨trivial, ?_⟩
      conv => whnf
      exact ⟨rfl, rfl⟩
    · rename_i q1
      have q1' := of_decide_eq_false q1
      have hw : IntKind.i64.wrap ((l.size : Int) - log.size) = (l.size : Int) - log.size := wrap_in _ (by omega) (by omega)
      rw [show ((some l).getD ⟨#[]⟩) = l from rfl, hw] at q1'
      have hw2 : IntKind.i64.wrap ((log.size : Int) + m) = (log.size : Int) + m := wrap_in _ (by omega) (by omega)
      conv => whnf
      rw [hw2]
      refine ⟨⟨by omega, by omega, by show _ ≤ (l.size : Int); omega⟩, ?_⟩
      conv => whnf
      rw [show tornS log (some l) m = l.extract 0 ((log.size : Int) + m).toNat from by
        unfold tornS
        show l.extract 0 _ = l.extract 0 _
        rw [show min (max m 0) ((l.size : Int) - log.size) = m by omega]]
      refine ⟨trivial, ?_⟩
      conv => whnf
      exact ⟨rfl, rfl⟩
set_option maxHeartbeats 16000000 in
set_option maxRecDepth 100000 in
theorem implTorn_ok (log : ByteArray) (hs : log.size ≤ 2000000) (rs : List ByteArray) (at_ : Nat) (f : Fin log rs at_) (r : ByteArray) (m : Int) (hm : -9223372036854775808 ≤ m ∧ m ≤ 9223372036854775807) : Good Tryd.prog 23 [vstr log, vstr r, vint m] [] (vstr (tornS log (addO log rs.length at_ r) m)) [] := by
  refine good_e noM Tryd.func23 rfl rfl ?_
  conv => whnf
  refine .mk _ _ false Tryd.call16 (implAdd_ok log hs rs at_ f r) (Nat.le_of_ble_eq_true rfl) (.inl rfl) ?_
  conv => whnf
  cases ho : addO log rs.length at_ r with
  | none =>
    conv => whnf
    refine ⟨trivial, ?_⟩
    conv => whnf
    exact ⟨rfl, rfl⟩
  | some l =>
    have hl := addO_some ho
    conv => whnf
    have hw : IntKind.i64.wrap ((l.size : Int) - log.size) = (l.size : Int) - log.size := wrap_in _ (by omega) (by omega)
    have hk : (if (l.size : Int) - log.size < (if 0 > m then 0 else m) then (l.size : Int) - log.size else (if 0 > m then 0 else m)) = min (max m 0) ((l.size : Int) - log.size) := by
      split <;> split <;> omega
    have hw2 : IntKind.i64.wrap ((log.size : Int) + min (max m 0) ((l.size : Int) - log.size)) = (log.size : Int) + min (max m 0) ((l.size : Int) - log.size) := wrap_in _ (by omega) (by omega)
    rw [show ((some l).getD ⟨#[]⟩) = l from rfl, hw, hk, hw2]
    refine ⟨⟨by omega, by omega, by omega⟩, ?_⟩
    conv => whnf
    refine ⟨trivial, ?_⟩
    conv => whnf
    exact ⟨rfl, rfl⟩
set_option maxHeartbeats 16000000 in
set_option maxRecDepth 100000 in
theorem torn_law (s r : ByteArray) (m : Int) (hs : s.size ≤ 9223372036854775807) (hr : r.size ≤ 9223372036854775807) (hm : -9223372036854775808 ≤ m ∧ m ≤ 9223372036854775807) : ∃ v out, v = vbool true ∧ Good Tryd.prog 7 [vstr s, vstr r, vint m] [] v out := by
  refine good_v noM Tryd.func7 rfl rfl ?_
  conv => whnf
  split
  · conv => whnf
    refine ⟨trivial, ?_⟩
    conv => whnf
    rfl
  rename_i q
  have q' := of_decide_eq_false q
  obtain ⟨rs, at_, f⟩ := fin_ex s
  conv => whnf
  split
  · conv => whnf
    refine ⟨trivial, ?_⟩
    conv => whnf
    rfl
  conv => whnf
  refine .mk _ _ false Tryd.call22 (specTorn_ok s (by omega) rs at_ f r m hm) (Nat.le_of_ble_eq_true rfl) (.inl rfl) ?_
  conv => whnf
  refine .mk _ _ false Tryd.call23 (implTorn_ok s (by omega) rs at_ f r m hm) (Nat.le_of_ble_eq_true rfl) (.inl rfl) ?_
  conv => whnf
  rw [str_t rfl]
  conv => whnf
  refine ⟨trivial, ?_⟩
  conv => whnf
  rfl
theorem rng64 {n : Int} (h : (Lit.int .i64 n).wf = true) : -9223372036854775808 ≤ n ∧ n ≤ 9223372036854775807 := by
  unfold Lit.wf at h
  simp only [Bool.and_eq_true, decide_eq_true_eq] at h
  exact h
theorem torn_good (s r : ByteArray) (m : Int) (hs : s.size ≤ 9223372036854775807) (hr : r.size ≤ 9223372036854775807) (hm : (Lit.int .i64 m).wf = true) : ∃ v out, v = vbool true ∧ Good Tryd.prog 7 [vstr s, vstr r, vint m] [] v out := torn_law s r m hs hr (rng64 hm)
end Go.Abs.E
