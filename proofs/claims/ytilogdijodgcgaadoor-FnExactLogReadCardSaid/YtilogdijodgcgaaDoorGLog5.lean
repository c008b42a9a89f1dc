import Derived.Test.YtilogdijodgcgaaDoorGLog4
set_option linter.unusedSimpArgs false
set_option linter.unusedVariables false
namespace Go.Abs.E
open Go Go.Abs Go.Proofs Go.RowKit
attribute [local irreducible] IntKind.wrap
attribute [local irreducible] lineS hashS
theorem noSlR (l : List ByteArray) : (Blk.arr 1 (l.map eR)).noSl := by
  intro el hel x hx
  obtain ⟨n, _, rfl⟩ := List.mem_map.1 hel
  cases List.mem_singleton.1 hx
  trivial
theorem rec_ex (log : ByteArray) (at_ n : Nat) : ∃ o : Option ByteArray, ∀ r, o = some r ↔ IsRec log at_ n r := by
  by_cases h : ∃ r, IsRec log at_ n r
  · obtain ⟨r, hr⟩ := h
    exact ⟨some r, fun r' => Iff.intro (fun e => by rw [← Option.some.inj e]; exact hr) (fun q => by rw [hr.uniq q])⟩
  · exact ⟨none, fun r => Iff.intro (fun e => nomatch e) (fun q => (h ⟨r, q⟩).elim)⟩
set_option maxHeartbeats 16000000 in
set_option maxRecDepth 100000 in
theorem l8Read_ok (log : ByteArray) (hs : log.size ≤ 2000000) (rs : List ByteArray) (at_ : Nat) (f : Fin log rs at_) :
    Good Tryd.prog 29 [vstr log] [] (.tup [.one (.hs 0 0 rs.length), vint (at_ : Int)]) [.arr 1 (rs.map eR)] := by
  refine good_e noM Tryd.func29 rfl rfl ?_
  conv => whnf
  refine VLoop.enter [0, 4, 5] ?_
  conv => whnf
  refine VLoop.ind3 (n0 := 1) (α := Nat) (β := Int) (γ := List (List PV)) noM [0, 4, 5] (fun L a E => ⟨28, 0, [(0, vstr log), (4, .one (.hs 0 0 L)), (5, vint a)], [(0, some (.arr 1 E))]⟩)
    (fun L a E => ∃ (rs0 : List ByteArray) (at0 : Nat), rs0.length = L ∧ a = at0 ∧ Chain log rs0 at0 ∧ rs0.length ≤ rs.length ∧ E = rs0.map eR) (fun _ a _ => (log.size - a).toNat) ?_ 0 0 [] ⟨[], 0, rfl, rfl, .nil, Nat.zero_le _, rfl⟩
  rintro _ _ _ ⟨rs0, at0, rfl, rfl, hc, hlen, rfl⟩
  have hle := hc.le
  have hem : (rs0.map eR).length = rs0.length := List.length_map ..
  obtain ⟨o, ho⟩ := rec_ex log at0 rs0.length
  conv => whnf
  refine .mk _ _ false Tryd.call44 (next_ok log hs at0 rs0.length hle.1 (by omega) o ho) (Nat.le_of_ble_eq_true rfl) (.inl rfl) ?_
  conv => whnf
  cases o with
  | none =>
    have hno : ∀ r, ¬ IsRec log at0 rs0.length r := fun r hr => by have := (ho r).2 hr; cases this
    obtain ⟨rfl, rfl⟩ := f.done hc hlen hno
    rw [show ((lenO rs0.length none : Nat) : Int) = 0 from rfl]
    conv => whnf
    refine ⟨trivial, ?_⟩
    conv => whnf
    exact ⟨rfl, rfl⟩
  | some r =>
    have hrr := (ho r).1 rfl
    have hft := hrr.fits
    have hls := lineS_size rs0.length r
    have e0 : (((lenO rs0.length (some r) : Nat) : Int) == 0) = false := by
      rw [beq_eq_false_iff_ne]
      show ((lineS rs0.length r).size : Int) ≠ 0
      omega
    rw [e0]
    have hw5 : IntKind.i64.wrap ((at0 : Int) + ((lenO rs0.length (some r) : Nat) : Int)) = ((at0 + (lineS rs0.length r).size : Nat) : Int) := by
      show IntKind.i64.wrap ((at0 : Int) + ((lineS rs0.length r).size : Int)) = _
      rw [wrap_in _ (by omega) (by omega)]; omega
    conv => whnf
    refine ⟨⟨rfl, hem.symm, rfl⟩, Nat.le_refl 1, ?_⟩
    conv => whnf
    refine ⟨(fun q => by cases q), app9 (show (rs0.map eR).length + 1 ≤ _ by omega), fun el hel => by cases List.mem_singleton.1 hel; rfl, ?_⟩
    conv => whnf
    refine ⟨_, _, _, rfl, rfl, ⟨rs0 ++ [r], _, ?_, hw5, hc.snoc hrr, ?_, eR_snoc rs0 r⟩, by rw [hw5]; omega⟩
    · rw [hem, List.length_append]; rfl
    · rw [List.length_append]; exact f.more hc hlen hrr
set_option maxHeartbeats 16000000 in
set_option maxRecDepth 100000 in
theorem specRead_ok (log : ByteArray) (hs : log.size ≤ 2000000) (rs : List ByteArray) (at_ : Nat) (f : Fin log rs at_) :
    Good Tryd.prog 17 [vstr log] [] (.tup [.one (.hs 0 0 rs.length), vint (at_ : Int)]) [.arr 1 (rs.map eR)] := by
  refine good_e noM Tryd.func17 rfl rfl ?_
  conv => whnf
  refine .mk _ _ false Tryd.call29 (l8Read_ok log hs rs at_ f) (Nat.le_of_ble_eq_true rfl) (.inl rfl) ?_
  conv => whnf
  refine ⟨trivial, ?_⟩
  conv => whnf
  exact ⟨rfl, rfl⟩
def okB (log : ByteArray) (at_ : Nat) : Bool := match ((at_ : Int) == (log.size : Int)) with
  | true => decide ((at_ : Int) ≤ 9000)
  | false => false
theorem okB_iff {log : ByteArray} {at_ : Nat} : okB log at_ = true ↔ at_ = log.size ∧ at_ ≤ 9000 := by
  unfold okB
  split
  · rename_i q; have := beq_iff_eq.1 q; rw [decide_eq_true_eq]; omega
  · rename_i q; have := beq_eq_false_iff_ne.1 q; constructor
    · intro h; cases h
    · intro h; omega
set_option maxHeartbeats 16000000 in
set_option maxRecDepth 100000 in
theorem specOk_ok (log : ByteArray) (hs : log.size ≤ 2000000) (rs : List ByteArray) (at_ : Nat) (f : Fin log rs at_) : Good Tryd.prog 13 [vstr log] [] (vbool (okB log at_)) [] := by
  refine good_e noM Tryd.func13 rfl rfl ?_
  conv => whnf
  refine .mk _ _ false Tryd.call29 (l8Read_ok log hs rs at_ f) (Nat.le_of_ble_eq_true rfl) (.inl rfl) ?_
  conv => whnf
  unfold okB
  split
  · rename_i q
    rw [q]
    conv => whnf
    refine ⟨trivial, ?_⟩
    conv => whnf
    exact ⟨rfl, rfl⟩
  · rename_i q
    rw [q]
    conv => whnf
    refine ⟨trivial, ?_⟩
    conv => whnf
    exact ⟨rfl, rfl⟩
set_option maxHeartbeats 16000000 in
set_option maxRecDepth 100000 in
theorem specMend_ok (log : ByteArray) (hs : log.size ≤ 2000000) (rs : List ByteArray) (at_ : Nat) (f : Fin log rs at_) : Good Tryd.prog 11 [vstr log] [] (vstr (log.extract 0 at_)) [] := by
  have hle := f.ch.le
  refine good_e noM Tryd.func11 rfl rfl ?_
  conv => whnf
  refine .mk _ _ false Tryd.call29 (l8Read_ok log hs rs at_ f) (Nat.le_of_ble_eq_true rfl) (.inl rfl) ?_
  conv => whnf
  refine ⟨⟨by omega, by omega, by omega⟩, ?_⟩
  conv => whnf
  refine ⟨trivial, ?_⟩
  conv => whnf
  exact ⟨rfl, rfl⟩
set_option maxHeartbeats 16000000 in
set_option maxRecDepth 100000 in
theorem implOk_ok (log : ByteArray) (hs : log.size ≤ 2000000) (rs : List ByteArray) (at_ : Nat) (f : Fin log rs at_) : Good Tryd.prog 14 [vstr log] [] (vbool (okB log at_)) [] := by
  refine good_e noM Tryd.func14 rfl rfl ?_
  conv => whnf
  refine .mk _ _ false Tryd.call18 (implRead_ok log hs rs at_ f) (Nat.le_of_ble_eq_true rfl) (.inl rfl) ?_
  conv => whnf
  unfold okB
  split
  · rename_i q
    rw [q]
    conv => whnf
    refine ⟨trivial, ?_⟩
    conv => whnf
    exact ⟨rfl, rfl⟩
  · rename_i q
    rw [q]
    conv => whnf
    refine ⟨trivial, ?_⟩
    conv => whnf
    exact ⟨rfl, rfl⟩
set_option maxHeartbeats 16000000 in
set_option maxRecDepth 100000 in
theorem implMend_ok (log : ByteArray) (hs : log.size ≤ 2000000) (rs : List ByteArray) (at_ : Nat) (f : Fin log rs at_) : Good Tryd.prog 12 [vstr log] [] (vstr (log.extract 0 at_)) [] := by
  have hle := f.ch.le
  refine good_e noM Tryd.func12 rfl rfl ?_
  conv => whnf
  refine .mk _ _ false Tryd.call18 (implRead_ok log hs rs at_ f) (Nat.le_of_ble_eq_true rfl) (.inl rfl) ?_
  conv => whnf
  refine ⟨⟨by omega, by omega, by omega⟩, ?_⟩
  conv => whnf
  refine ⟨trivial, ?_⟩
  conv => whnf
  exact ⟨rfl, rfl⟩
/-- The log with a record more, if it may have it. -/
def addO (log : ByteArray) (n at_ : Nat) (r : ByteArray) : Option ByteArray := if (at_ = log.size ∧ at_ ≤ 9000) ∧ (1 ≤ r.size ∧ r.size ≤ 500) ∧ log.size + (lineS n r).size ≤ 9000 then some (log ++ lineS n r) else none
@[reducible] def addR (o : Option ByteArray) : AV := .tup [vstr (o.getD ⟨#[]⟩), vbool o.isSome]
theorem addO_yes {log : ByteArray} {n at_ : Nat} {r : ByteArray} (h1 : at_ = log.size) (h2 : at_ ≤ 9000) (h3 : 1 ≤ r.size) (h4 : r.size ≤ 500) (h5 : log.size + (lineS n r).size ≤ 9000) : addO log n at_ r = some (log ++ lineS n r) := by
  unfold addO; rw [if_pos ⟨⟨h1, h2⟩, ⟨h3, h4⟩, h5⟩]
theorem addO_no {log : ByteArray} {n at_ : Nat} {r : ByteArray} (h : at_ = log.size → at_ ≤ 9000 → 1 ≤ r.size → r.size ≤ 500 → log.size + (lineS n r).size ≤ 9000 → False) : addO log n at_ r = none := by
  unfold addO; rw [if_neg (fun q => h q.1.1 q.1.2 q.2.1.1 q.2.1.2 q.2.2)]
set_option maxHeartbeats 16000000 in
set_option maxRecDepth 100000 in
theorem specAdd_ok (log : ByteArray) (hs : log.size ≤ 2000000) (rs : List ByteArray) (at_ : Nat) (f : Fin log rs at_) (r : ByteArray) : Good Tryd.prog 15 [vstr log, vstr r] [] (addR (addO log rs.length at_ r)) [] := by
  have hle := f.ch.le
  refine good_e noM Tryd.func15 rfl rfl ?_
  conv => whnf
  refine .mk _ _ false Tryd.call29 (l8Read_ok log hs rs at_ f) (Nat.le_of_ble_eq_true rfl) (.inl rfl) ?_
  conv => whnf
  refine .mk _ _ false Tryd.call13 (specOk_ok log hs rs at_ f) (Nat.le_of_ble_eq_true rfl) (.inl rfl) ?_
  conv => whnf
  cases hk : okB log at_ with
  | false =>
    rw [addO_no fun h1 h2 _ _ _ => by rw [okB_iff.2 ⟨h1, h2⟩] at hk; cases hk]
    conv => whnf
    refine ⟨trivial, ?_⟩
    conv => whnf
    exact ⟨rfl, rfl⟩
  | true =>
    have hk' := okB_iff.1 hk
    conv => whnf
    refine .mk _ _ false Tryd.call30 (l1In_ok (r.size : Int) 1 500) (Nat.le_of_ble_eq_true rfl) (.inl rfl) ?_
    conv => whnf
    cases hin : inR (r.size : Int) 1 500 with
    | false =>
      rw [addO_no fun _ _ h3 h4 _ => by rw [inR_iff.2 ⟨by omega, by omega⟩] at hin; cases hin]
      conv => whnf
      refine ⟨trivial, ?_⟩
      conv => whnf
      exact ⟨rfl, rfl⟩
    | true =>
      have hin' := inR_iff.1 hin
      conv => whnf
      refine .mk _ _ false Tryd.call31 (specLine_ok rs.length (by omega) r (by omega)) (Nat.le_of_ble_eq_true rfl) (.inl rfl) ?_
      conv => whnf
      have hls := lineS_size rs.length r
      have hdr := dn_len (n := r.size) (by omega)
      have hdn := dn_len (n := rs.length) (by omega)
      rw [abin_cat (a := _) (b := _) rfl rfl (by omega)]
      conv => whnf
      split
      · rename_i q
        have q' := of_decide_eq_true q
        rw [ByteArray.size_append] at q'
        rw [addO_no fun _ _ _ _ h5 => by omega]
        conv => whnf
        refine ⟨trivial, ?_⟩
        conv => whnf
        exact ⟨rfl, rfl⟩
      · rename_i q
        have q' := of_decide_eq_false q
        rw [ByteArray.size_append] at q'
        rw [addO_yes hk'.1 hk'.2 (by omega) (by omega) (by omega)]
        conv => whnf
        refine ⟨trivial, ?_⟩
        conv => whnf
        exact ⟨rfl, rfl⟩
set_option maxHeartbeats 16000000 in
set_option maxRecDepth 100000 in
theorem implAdd_ok (log : ByteArray) (hs : log.size ≤ 2000000) (rs : List ByteArray) (at_ : Nat) (f : Fin log rs at_) (r : ByteArray) : Good Tryd.prog 16 [vstr log, vstr r] [] (addR (addO log rs.length at_ r)) [] := by
  have hle := f.ch.le
  refine good_e noM Tryd.func16 rfl rfl ?_
  conv => whnf
  refine .mk _ _ false Tryd.call18 (implRead_ok log hs rs at_ f) (Nat.le_of_ble_eq_true rfl) (.inl rfl) ?_
  conv => whnf
  split
  · rename_i q
    have q' : ¬ (at_ : Int) = log.size := bne_iff_ne.1 q
    rw [addO_no fun h1 _ _ _ _ => by omega]
    conv => whnf
    refine ⟨trivial, ?_⟩
    conv => whnf
    exact ⟨rfl, rfl⟩
  rename_i q
  have q' : (at_ : Int) = log.size := by simpa using q
  conv => whnf
  split
  · rename_i q2
    have q2' := of_decide_eq_true q2
    rw [addO_no fun _ h2 _ _ _ => by omega]
    conv => whnf
    refine ⟨trivial, ?_⟩
    conv => whnf
    exact ⟨rfl, rfl⟩
  rename_i q2
  have q2' := of_decide_eq_false q2
  conv => whnf
  refine .mk _ _ false Tryd.call32 (within_ok (r.size : Int) 1 500) (Nat.le_of_ble_eq_true rfl) (.inl rfl) ?_
  conv => whnf
  cases hin : inR (r.size : Int) 1 500 with
  | false =>
    rw [addO_no fun _ _ h3 h4 _ => by rw [inR_iff.2 ⟨by omega, by omega⟩] at hin; cases hin]
    conv => whnf
    refine ⟨trivial, ?_⟩
    conv => whnf
    exact ⟨rfl, rfl⟩
  | true =>
    have hin' := inR_iff.1 hin
    conv => whnf
    refine .mk _ _ false Tryd.call33 (implLine_ok rs.length (by omega) r (by omega)) (Nat.le_of_ble_eq_true rfl) (.inl rfl) ?_
    conv => whnf
    have hls := lineS_size rs.length r
    have hdr := dn_len (n := r.size) (by omega)
    have hdn := dn_len (n := rs.length) (by omega)
    rw [abin_cat (a := _) (b := _) rfl rfl (by omega)]
    conv => whnf
    split
    · rename_i q
      have q' := of_decide_eq_true q
      rw [ByteArray.size_append] at q'
      rw [addO_no fun _ _ _ _ h5 => by omega]
      conv => whnf
      refine ⟨trivial, ?_⟩
      conv => whnf
      exact ⟨rfl, rfl⟩
    · rename_i q
      have q' := of_decide_eq_false q
      rw [ByteArray.size_append] at q'
      rw [addO_yes (by omega) (by omega) (by omega) (by omega) (by omega)]
      conv => whnf
      refine ⟨trivial, ?_⟩
      conv => whnf
      exact ⟨rfl, rfl⟩
end Go.Abs.E
