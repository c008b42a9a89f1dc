import Derived.Test.YtilogdijodgcgaaDoorMTorn
set_option linter.unusedSimpArgs false
set_option linter.unusedVariables false
namespace Go.Abs.E
open Go Go.Abs Go.Proofs Go.RowKit
attribute [local irreducible] IntKind.wrap
attribute [local irreducible] lineS hashS
set_option maxHeartbeats 16000000 in
set_option maxRecDepth 100000 in
theorem logRead_law (xs : List Int) (hx : ∀ x ∈ xs, 0 ≤ x ∧ x ≤ 255) (hxl : xs.length ≤ 9223372036854775807) : ∃ r out, r = vbool true ∧ Good Tryd.prog 8 [.one (.p (.sl (xs.map encU)))] [] r out := by
  refine good_v noM Tryd.func8 rfl rfl ?_
  conv => whnf
  split
  · conv => whnf
    refine ⟨trivial, ?_⟩
    conv => whnf
    rfl
  rename_i q
  conv => whnf
  obtain ⟨_, _, ⟨s, hs, rfl, rfl⟩, hg⟩ := drawLog_ok xs hx hxl
  refine .mk _ _ false Tryd.call24 hg (Nat.le_of_ble_eq_true rfl) (.inl rfl) ?_
  conv => whnf
  obtain ⟨rs, at_, f⟩ := fin_ex s
  have hle := f.ch.le
  have hlen : rs.length ≤ 1000000000 := by omega
  refine .mk _ _ false Tryd.call18 (implRead_ok s (by omega) rs at_ f) (Nat.le_of_ble_eq_true rfl) (.inl rfl) ?_
  conv => whnf
  refine .mk _ _ false Tryd.call17 (specRead_ok s (by omega) rs at_ f) (Nat.le_of_ble_eq_true rfl) (.inl rfl) ?_
  conv => whnf
  rw [show (((at_ : Nat) : Int) != ((at_ : Nat) : Int)) = false by simp]
  conv => whnf
  refine ⟨len_all rfl, len_all rfl, ?_⟩
  rw [take_all rfl]
  refine .mk _ _ false Tryd.call25 (whWords_same rs hlen) (Nat.le_of_ble_eq_true rfl) (.inr ⟨AV.nsB_iff rfl, fun k hk => by cases hk⟩) ?_
  conv => whnf
  refine .mk _ _ false Tryd.call14 (implOk_ok s (by omega) rs at_ f) (Nat.le_of_ble_eq_true rfl) (.inl rfl) ?_
  conv => whnf
  refine .mk _ _ false Tryd.call13 (specOk_ok s (by omega) rs at_ f) (Nat.le_of_ble_eq_true rfl) (.inl rfl) ?_
  conv => whnf
  rw [show (okB s at_ == okB s at_) = true by simp]
  conv => whnf
  refine .mk _ _ false Tryd.call12 (implMend_ok s (by omega) rs at_ f) (Nat.le_of_ble_eq_true rfl) (.inl rfl) ?_
  conv => whnf
  refine .mk _ _ false Tryd.call11 (specMend_ok s (by omega) rs at_ f) (Nat.le_of_ble_eq_true rfl) (.inl rfl) ?_
  conv => whnf
  rw [str_t rfl]
  conv => whnf
  refine .mk _ _ false Tryd.call12 (implMend_ok s (by omega) rs at_ f) (Nat.le_of_ble_eq_true rfl) (.inl rfl) ?_
  conv => whnf
  have hms : (s.extract 0 at_).size = at_ := ext_size hle.1
  refine .mk _ _ false Tryd.call18 (implRead_ok (s.extract 0 at_) (by omega) rs at_ f.cut) (Nat.le_of_ble_eq_true rfl) (.inl rfl) ?_
  conv => whnf
  refine .mk _ _ false Tryd.call26 (whIn_ok (at_ : Int) 0 (s.size : Int)) (Nat.le_of_ble_eq_true rfl) (.inl rfl) ?_
  conv => whnf
  rw [inR_iff.2 ⟨by omega, by omega⟩]
  conv => whnf
  refine ⟨⟨by omega, by omega, by omega⟩, ?_⟩
  conv => whnf
  rw [show ((s.extract 0 at_).toList == (s.extract (Int.toNat 0) ((at_ : Nat) : Int).toNat).toList) = true from str_t rfl]
  conv => whnf
  rw [show (((at_ : Nat) : Int) == ((at_ : Nat) : Int)) = true by simp]
  conv => whnf
  refine ⟨len_all rfl, len_all rfl, ?_⟩
  rw [take_all rfl]
  refine .mk _ _ false Tryd.call25 (whWords_same rs hlen) (Nat.le_of_ble_eq_true rfl) (.inr ⟨AV.nsB_iff rfl, fun k hk => by cases hk⟩) ?_
  conv => whnf
  refine .mk _ _ false Tryd.call14 (implOk_ok s (by omega) rs at_ f) (Nat.le_of_ble_eq_true rfl) (.inl rfl) ?_
  conv => whnf
  cases hq : (((at_ : Nat) : Int) == ((s.size : Nat) : Int)) with
  | false =>
    conv => whnf
    refine ⟨trivial, ?_⟩
    conv => whnf
    refine congrArg vbool ?_
    unfold okB
    rw [hq]
    rfl
  | true =>
    conv => whnf
    refine ⟨trivial, ?_⟩
    conv => whnf
    refine congrArg vbool ?_
    unfold okB
    rw [hq]
    exact beq_iff_eq.2 rfl
theorem fnLogRead_good (xs : List Int) (hx : xs.length ≤ 9223372036854775807 ∧ ∀ x ∈ xs, (Lit.int .u8 x).wf = true) : ∃ r out, r = vbool true ∧ Good Tryd.prog 8 [.one (.p (.sl (xs.map encU)))] [] r out := logRead_law xs (fun x h => wf8 (hx.2 x h)) hx.1
end Go.Abs.E

set_option linter.unusedSimpArgs false
set_option linter.unusedVariables false
namespace Go.Abs.E
open Go Go.Abs Go.Proofs Go.RowKit
attribute [local irreducible] IntKind.wrap
attribute [local irreducible] lineS hashS
set_option maxHeartbeats 16000000 in
set_option maxRecDepth 100000 in
theorem logAdd_law (xs : List Int) (hx : ∀ x ∈ xs, 0 ≤ x ∧ x ≤ 255) (hxl : xs.length ≤ 9223372036854775807) : ∃ r out, r = vbool true ∧ Good Tryd.prog 9 [.one (.p (.sl (xs.map encU)))] [] r out := by
  refine good_v noM Tryd.func9 rfl rfl ?_
  conv => whnf
  split
  · conv => whnf
    refine ⟨trivial, ?_⟩
    conv => whnf
    rfl
  rename_i q
  conv => whnf
  obtain ⟨_, _, ⟨s, rc, hs, hrc, rfl, rfl⟩, hg⟩ := drawAdd_ok xs hx hxl
  refine .mk _ _ false Tryd.call27 hg (Nat.le_of_ble_eq_true rfl) (.inl rfl) ?_
  conv => whnf
  obtain ⟨rs, at_, f⟩ := fin_ex s
  have hle := f.ch.le
  have hlen : rs.length ≤ 1000000000 := by omega
  refine .mk _ _ false Tryd.call16 (implAdd_ok s (by omega) rs at_ f rc) (Nat.le_of_ble_eq_true rfl) (.inl rfl) ?_
  conv => whnf
  refine .mk _ _ false Tryd.call15 (specAdd_ok s (by omega) rs at_ f rc) (Nat.le_of_ble_eq_true rfl) (.inl rfl) ?_
  conv => whnf
  rw [str_t rfl]
  conv => whnf
  cases ho : addO s rs.length at_ rc with
  | none =>
    conv => whnf
    rw [str_t rfl]
    conv => whnf
    refine ⟨trivial, ?_⟩
    conv => whnf
    rfl
  | some l =>
    obtain ⟨hl, hlz, hle2⟩ := addO_some ho
    obtain ⟨hr1, hr2, rfl⟩ := addO_rng ho
    have hf2 : Fin l (rs ++ [rc]) l.size := by rw [hl]; exact f.grow hr1 hr2
    have hlen2 : (rs ++ [rc]).length = rs.length + 1 := by simp
    conv => whnf
    refine .mk _ _ false Tryd.call18 (implRead_ok s (by omega) rs _ f) (Nat.le_of_ble_eq_true rfl) (.inl rfl) ?_
    conv => whnf
    rw [show ((some l).getD ⟨#[]⟩) = l from rfl]
    refine .mk _ _ false Tryd.call18 (implRead_ok l (by omega) (rs ++ [rc]) _ hf2) (Nat.le_of_ble_eq_true rfl) (.inl rfl) ?_
    conv => whnf
    rw [show (((l.size : Nat) : Int) == ((l.size : Nat) : Int)) = true by simp]
    conv => whnf
    rw [wrap_in ((rs.length : Int) + 1) (by omega) (by omega), show ((((rs ++ [rc]).length : Nat) : Int) == (rs.length : Int) + 1) = true by rw [hlen2]; simp]
    conv => whnf
    refine ⟨⟨by omega, by omega, by omega, by rw [List.length_map]; omega, by decide +kernel, by decide +kernel⟩, ?_⟩
    conv => whnf
    refine ⟨by rw [List.length_map]; simp only [Int.toNat_zero, Int.toNat_natCast]; omega, len_all rfl, ?_⟩
    rw [take_all rfl, show List.take ((((rs.length : Nat) : Int)).toNat - Int.toNat 0) (List.drop (0 + Int.toNat 0) ((rs ++ [rc]).map eR)) = rs.map eR by
      simp only [Int.toNat_zero, Int.toNat_natCast, Nat.sub_zero, Nat.add_zero, List.drop_zero, List.map_append]
      exact List.take_left' (List.length_map ..)]
    refine .mk _ _ false Tryd.call25 (whWords_same rs hlen) (Nat.le_of_ble_eq_true rfl) (.inr ⟨AV.nsB_iff rfl, fun k hk => by cases hk⟩) ?_
    conv => whnf
    refine ⟨by omega, by rw [hlen2]; omega, by rw [List.length_map]; omega, ?_⟩
    conv => whnf
    refine ⟨_, eR_at (rs ++ [rc]) (i := rs.length) (by simp) (by rw [hlen2]; omega), ?_⟩
    rw [show (rs ++ [rc]).getD rs.length ⟨#[]⟩ = rc by simp]
    conv => whnf
    rw [str_t rfl]
    conv => whnf
    refine .mk _ _ false Tryd.call14 (implOk_ok l (by omega) (rs ++ [rc]) _ hf2) (Nat.le_of_ble_eq_true rfl) (.inl rfl) ?_
    conv => whnf
    rw [okB_iff.2 ⟨rfl, hlz⟩]
    conv => whnf
    refine ⟨⟨by omega, by omega, by omega⟩, ?_⟩
    conv => whnf
    refine ⟨trivial, ?_⟩
    conv => whnf
    refine congrArg vbool (str_t ?_)
    show l.extract 0 s.size = s
    rw [hl, ext_app]
theorem fnLogAdd_good (xs : List Int) (hx : xs.length ≤ 9223372036854775807 ∧ ∀ x ∈ xs, (Lit.int .u8 x).wf = true) : ∃ r out, r = vbool true ∧ Good Tryd.prog 9 [.one (.p (.sl (xs.map encU)))] [] r out := logAdd_law xs (fun x h => wf8 (hx.2 x h)) hx.1
end Go.Abs.E
