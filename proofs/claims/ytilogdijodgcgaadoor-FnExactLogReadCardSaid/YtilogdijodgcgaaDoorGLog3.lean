import Derived.Test.YtilogdijodgcgaaDoorGLog2
set_option linter.unusedSimpArgs false
set_option linter.unusedVariables false
namespace Go.Abs.E
open Go Go.Abs Go.Proofs Go.RowKit
attribute [local irreducible] IntKind.wrap
attribute [local irreducible] lineS hashS
@[reducible] def eR (r : ByteArray) : List PV := [.lit (.string r)]
theorem eR_snoc (l : List ByteArray) (x : ByteArray) : l.map eR ++ [eR x] = (l ++ [x]).map eR := by simp
theorem by9 : Tryd.prog.bytesOf 9 + 1 ≤ 100 := by decide +kernel
theorem app9 {n : Nat} (h : n ≤ 1099511627777) : n * (Tryd.prog.bytesOf 9 + 1) ≤ 140737488355328 := Nat.le_trans (Nat.mul_le_mul h by9) (by decide)
theorem cut32_ok (s : ByteArray) (hs : s.size ≤ 281474976710656) : Good Tryd.prog 34 [vstr s, vstr ⟨#[32]⟩] [] (.tup [vstr (cutA 32 s), vstr (cutB 32 s), vbool (cutC 32 s)]) [] := cut1_ok s 32 hs
theorem cutA_size (s : ByteArray) : (cutA 32 s).size ≤ s.size := by
  unfold cutA
  split
  · rw [mkS_size, List.length_take, szl]; omega
  · exact Nat.le_refl _
theorem cutB_size (s : ByteArray) : (cutB 32 s).size ≤ s.size := by
  unfold cutB
  split
  · rw [mkS_size, List.length_drop, szl]; omega
  · exact Nat.zero_le _
theorem IsRec.cut {log : ByteArray} {at_ n : Nat} {r : ByteArray} (h : IsRec log at_ n r) : cutA 32 (cutB 32 (mkS (log.data.toList.drop at_))) = mkS (dn r.size) := by
  have e1 : cutB 32 (mkS (log.data.toList.drop at_)) = mkS ((log.data.toList.drop at_).drop ((dn n).length + 1)) := by unfold cutB; rw [mkS_list, h.idx1]
  rw [e1]
  unfold cutA
  rw [mkS_list, h.idx2]
  exact congrArg mkS h.take2
theorem numI_rng (s : ByteArray) : 0 ≤ numI s ∧ numI s < 1000000 := by
  unfold numI
  split
  · rename_i v hv; have := numOf_lt (l := s.data.toList) hv; omega
  · omega
set_option maxHeartbeats 16000000 in
set_option maxRecDepth 100000 in
theorem implRead_ok (log : ByteArray) (hs : log.size ≤ 2000000) (rs : List ByteArray) (at_ : Nat) (f : Fin log rs at_) :
    Good Tryd.prog 18 [vstr log] [] (.tup [.one (.hs 0 0 rs.length), vint (at_ : Int)]) [.arr 1 (rs.map eR)] := by
  have hl := szl log
  refine good_e noM Tryd.func18 rfl rfl ?_
  conv => whnf
  refine VLoop.enter [0, 4, 5] ?_
  conv => whnf
  refine VLoop.ind3 (n0 := 1) (α := Nat) (β := Int) (γ := List (List PV)) noM [0, 4, 5] (fun L a E => ⟨96, 0, [(0, vstr log), (4, .one (.hs 0 0 L)), (5, vint a)], [(0, some (.arr 1 E))]⟩)
    (fun L a E => ∃ (rs0 : List ByteArray) (at0 : Nat), rs0.length = L ∧ a = at0 ∧ Chain log rs0 at0 ∧ rs0.length ≤ rs.length ∧ E = rs0.map eR) (fun _ a _ => (log.size - a).toNat) ?_ 0 0 [] ⟨[], 0, rfl, rfl, .nil, Nat.zero_le _, rfl⟩
  rintro _ _ _ ⟨rs0, at0, rfl, rfl, hc, hlen, rfl⟩
  have hle := hc.le
  have hem : (rs0.map eR).length = rs0.length := List.length_map ..
  conv => whnf
  refine ⟨⟨by omega, by omega, by omega⟩, ?_⟩
  conv => whnf
  have hex : log.extract (at0 : Int).toNat (log.size : Int).toNat = mkS (log.data.toList.drop at0) := by
    rw [extract_eq, Int.toNat_natCast, Int.toNat_natCast, List.take_of_length_le (by rw [List.length_drop]; omega)]
  have hm1 := mkS_size (log.data.toList.drop at0)
  rw [List.length_drop] at hm1
  rw [hex]
  refine .mk _ _ false Tryd.call34 (cut32_ok (mkS (log.data.toList.drop at0)) (by omega)) (Nat.le_of_ble_eq_true rfl) (.inl rfl) ?_
  conv => whnf
  have hB := cutB_size (mkS (log.data.toList.drop at0))
  refine .mk _ _ false Tryd.call34 (cut32_ok (cutB 32 (mkS (log.data.toList.drop at0))) (by omega)) (Nat.le_of_ble_eq_true rfl) (.inl rfl) ?_
  conv => whnf
  have hA := cutA_size (cutB 32 (mkS (log.data.toList.drop at0)))
  have hk : ∀ r, IsRec log at0 rs0.length r → cutA 32 (cutB 32 (mkS (log.data.toList.drop at0))) = mkS (dn r.size) := fun r hr => hr.cut
  generalize cutA 32 (cutB 32 (mkS (log.data.toList.drop at0))) = A at hA hk ⊢
  refine .mk _ _ false Tryd.call35 (number_ok A (by omega)) (Nat.le_of_ble_eq_true rfl) (.inl rfl) ?_
  conv => whnf
  refine .mk _ _ false Tryd.call36 (itoa_ok ((rs0.length : Nat) : Int) (by omega) (by omega)) (Nat.le_of_ble_eq_true rfl) (.inl rfl) ?_
  conv => whnf
  have hdn := dn_len (n := rs0.length) (by omega)
  have hd1 := szl (dec ((rs0.length : Nat) : Int))
  rw [dec_list] at hd1
  have hds : (dec ((rs0.length : Nat) : Int)).size = (dn rs0.length).length := hd1.symm
  have hr := numI_rng A
  cases hok : numOk A with
  | false =>
    have hno : ∀ r, ¬ IsRec log at0 rs0.length r := fun r hr => by
      have e := hk r hr
      have := numOk_dn (n := r.size) (by have := hr.max; omega)
      rw [← e, hok] at this; cases this
    obtain ⟨rfl, rfl⟩ := f.done hc hlen hno
    conv => whnf
    refine ⟨trivial, ?_⟩
    conv => whnf
    exact ⟨rfl, rfl⟩
  | true =>
    conv => whnf
    refine .mk _ _ false Tryd.call32 (within_ok (numI A) 1 500) (Nat.le_of_ble_eq_true rfl) (.inl rfl) ?_
    conv => whnf
    cases hin : inR (numI A) 1 500 with
    | false =>
      have hno : ∀ r, ¬ IsRec log at0 rs0.length r := fun r hr => by
        have e := hk r hr
        have h1 := hr.pos; have h2 := hr.max
        have e2 := numI_dn (n := r.size) (by omega)
        rw [← e] at e2
        rw [show inR (numI A) 1 500 = true from inR_iff.2 ⟨by omega, by omega⟩] at hin
        cases hin
      obtain ⟨rfl, rfl⟩ := f.done hc hlen hno
      conv => whnf
      refine ⟨trivial, ?_⟩
      conv => whnf
      exact ⟨rfl, rfl⟩
    | true =>
      have hin' := inR_iff.1 hin
      obtain ⟨m, hm⟩ := Int.eq_ofNat_of_zero_le hr.1
      rw [hm] at hin' hr
      have hH : IntKind.i64.wrap (IntKind.i64.wrap (IntKind.i64.wrap (((dec ((rs0.length : Nat) : Int)).size : Int) + 1) + (A.size : Int)) + 18) = (((dn rs0.length).length + 1 + A.size + 18 : Nat) : Int) := by
        rw [hds, wrap_in (((dn rs0.length).length : Int) + 1) (by omega) (by omega), wrap_in (((dn rs0.length).length : Int) + 1 + (A.size : Int)) (by omega) (by omega), wrap_in _ (by omega) (by omega)]; omega
      rw [hH, hm]
      have hkA : ∀ r, IsRec log at0 rs0.length r → (dn r.size).length = A.size ∧ r.size = m := fun r hr => by
        have e := hk r hr
        have h2 := hr.max
        have e2 := numI_dn (n := r.size) (by omega)
        rw [← e, hm] at e2
        exact ⟨by rw [e, mkS_size], by omega⟩
      obtain ⟨H, hHd⟩ : ∃ H, H = (dn rs0.length).length + 1 + A.size + 18 := ⟨_, rfl⟩
      rw [← hHd]
      have hw1 : IntKind.i64.wrap ((log.size : Int) - (at0 : Int)) = ((log.size - at0 : Nat) : Int) := by rw [wrap_in _ (by omega) (by omega)]; omega
      have hw2 : IntKind.i64.wrap (IntKind.i64.wrap ((H : Int) + (m : Int)) + 1) = ((H + m + 1 : Nat) : Int) := by rw [wrap_in ((H : Int) + (m : Int)) (by omega) (by omega), wrap_in _ (by omega) (by omega)]; omega
      conv => whnf
      rw [hw1, hw2]
      split
      · rename_i q
        have q' := of_decide_eq_true q
        have hno : ∀ r, ¬ IsRec log at0 rs0.length r := fun r hr => by
          have h1 := hr.fits; have h2 := lineS_size rs0.length r; have h3 := hkA r hr
          omega
        obtain ⟨rfl, rfl⟩ := f.done hc hlen hno
        conv => whnf
        refine ⟨trivial, ?_⟩
        conv => whnf
        exact ⟨rfl, rfl⟩
      rename_i q
      have q' := of_decide_eq_false q
      conv => whnf
      have hw3 : IntKind.i64.wrap ((at0 : Int) + (H : Int)) = ((at0 + H : Nat) : Int) := by rw [wrap_in _ (by omega) (by omega)]; omega
      have hw4 : IntKind.i64.wrap (((at0 + H : Nat) : Int) + (m : Int)) = ((at0 + H + m : Nat) : Int) := by rw [wrap_in _ (by omega) (by omega)]; omega
      rw [hw3, hw4]
      refine ⟨⟨by omega, by omega, by omega⟩, ?_⟩
      conv => whnf
      rw [Int.toNat_natCast, Int.toNat_natCast]
      obtain ⟨rec, hrec⟩ : ∃ rec, rec = log.extract (at0 + H) (at0 + H + m) := ⟨_, rfl⟩
      have hrs : rec.size = m := by rw [hrec, ByteArray.size_extract]; omega
      rw [← hrec]
      refine .mk _ _ false Tryd.call33 (implLine_ok rs0.length (by omega) rec (by omega)) (Nat.le_of_ble_eq_true rfl) (.inl rfl) ?_
      conv => whnf
      have hls := lineS_size rs0.length rec
      refine ⟨⟨by omega, by omega, by omega⟩, ?_⟩
      conv => whnf
      rw [hex]
      refine .mk _ _ false Tryd.call37 (prefix_ok (mkS (log.data.toList.drop at0)) (lineS rs0.length rec)) (Nat.le_of_ble_eq_true rfl) (.inl rfl) ?_
      conv => whnf
      have hdr := dn_len (n := rec.size) (by omega)
      cases hp : (decide ((lineS rs0.length rec).size ≤ (mkS (log.data.toList.drop at0)).size) && (((mkS (log.data.toList.drop at0)).extract 0 (lineS rs0.length rec).size).toList == (lineS rs0.length rec).toList)) with
      | false =>
        have hno : ∀ r, ¬ IsRec log at0 rs0.length r := fun r hr => by
          have h3 := hkA r hr
          have hb := hr.bodyS
          rw [h3.1, h3.2, ← hHd, ← hrec] at hb
          subst hb
          have := prefix_iff.2 (show ∃ t, (mkS (log.data.toList.drop at0)).data.toList = (lineS rs0.length rec).data.toList ++ t from hr.pre)
          rw [hp] at this; cases this
        obtain ⟨rfl, rfl⟩ := f.done hc hlen hno
        conv => whnf
        refine ⟨trivial, ?_⟩
        conv => whnf
        exact ⟨rfl, rfl⟩
      | true =>
        have hrr := isRec_of (by omega) (by omega) (prefix_iff.1 hp)
        have hft := hrr.fits
        have hw5 : IntKind.i64.wrap ((at0 : Int) + ((lineS rs0.length rec).size : Int)) = ((at0 + (lineS rs0.length rec).size : Nat) : Int) := by rw [wrap_in _ (by omega) (by omega)]; omega
        conv => whnf
        refine ⟨⟨rfl, hem.symm, rfl⟩, Nat.le_refl 1, ?_⟩
        conv => whnf
        refine ⟨(fun q => by cases q), app9 (show (rs0.map eR).length + 1 ≤ _ by omega), fun el hel => by cases List.mem_singleton.1 hel; rfl, ?_⟩
        conv => whnf
        refine ⟨_, _, _, rfl, rfl, ⟨rs0 ++ [rec], _, ?_, hw5, hc.snoc hrr, ?_, eR_snoc rs0 rec⟩, by rw [hw5]; omega⟩
        · rw [hem, List.length_append]; rfl
        · rw [List.length_append]; exact f.more hc hlen hrr
end Go.Abs.E
