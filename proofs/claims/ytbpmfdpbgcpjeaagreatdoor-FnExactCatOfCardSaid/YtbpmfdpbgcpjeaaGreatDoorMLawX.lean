import Derived.Test.YtbpmfdpbgcpjeaaGreatDoorMOf
set_option linter.unusedSimpArgs false
set_option linter.unusedVariables false
namespace Go.Abs.C
open Go Go.Abs Go.Proofs Go.RowKit
attribute [local irreducible] IntKind.wrap
open Go.Abs.W
theorem getD_str (L : List ByteArray) {j i : Nat} (e : j = i) (h : i < L.length) : (L.map encS).getD j [] = [.lit (.string (L.getD i ⟨#[]⟩))] := by
  rw [e, List.getD_eq_getElem?_getD, List.getElem?_map, List.getElem?_eq_getElem h, List.getD_eq_getElem?_getD, List.getElem?_eq_getElem h]; rfl
theorem recS_size (h : Int) (n t : ByteArray) : (recS h n t).size ≤ 400 := by
  cases q : recOk h n t with
  | true =>
    obtain ⟨a, b, c⟩ := recOk_iff.1 q
    exact (RecP.mk a b c (by unfold recS; rw [q]) : RecP (recS h n t) h n t).size
  | false => unfold recS; rw [q]; exact Nat.zero_le _
@[reducible] def oNames : List ByteArray := [⟨#[97]⟩, ⟨#[98]⟩, ⟨#[99, 99]⟩]
@[reducible] def oTexts : List ByteArray := [⟨#[]⟩, ⟨#[116, 101, 120, 116]⟩, ⟨#[109, 111, 114, 101, 32, 116, 101, 120, 116]⟩]
@[reducible] def oBad : List ByteArray := [⟨#[]⟩, ⟨#[120]⟩, ⟨#[48, 48, 32, 97, 58, 98]⟩, ⟨#[48, 32, 32, 97, 58, 98]⟩, ⟨#[48, 32, 97]⟩]
theorem oBad_size : ∀ s ∈ oBad, s.size ≤ 10 := by decide
theorem oNames_size : ∀ s ∈ oNames, s.size ≤ 10 := by decide
theorem oTexts_size (i : Nat) : (oTexts.getD i ⟨#[]⟩).size ≤ 20 := by
  rcases i with _ | _ | _ | i
  · decide
  · decide
  · decide
  · exact Nat.zero_le _
structure DInv (a q : Int) (os : List ByteArray) : Prop where
  a0 : 0 ≤ a
  a9 : a ≤ 9
  q0 : 0 ≤ q
  q1 : q + 10 * a ≤ 200
  ln : (os.length : Int) + a ≤ 9
  sz : ∀ s ∈ os, s.size ≤ 400
theorem DInv.next {a q q' : Int} {os : List ByteArray} (D : DInv a q os) (h1 : q ≤ q') (h2 : q' ≤ q + 5) (h3 : a > 0) : DInv (a - 1) q' os := by
  have d1 := D.a0
  have d2 := D.a9
  have d3 := D.q0
  have d4 := D.q1
  have d5 := D.ln
  exact ⟨by omega, by omega, by omega, by omega, by omega, D.sz⟩
theorem DInv.app {a q q' : Int} {os : List ByteArray} {s : ByteArray} (D : DInv a q os) (hs : s.size ≤ 400) (h1 : q ≤ q') (h2 : q' ≤ q + 5) (h3 : a > 0) : DInv (a - 1) q' (os ++ [s]) := by
  have d1 := D.a0
  have d2 := D.a9
  have d3 := D.q0
  have d4 := D.q1
  have d5 := D.ln
  refine ⟨by omega, by omega, by omega, by omega, by rw [List.length_append]; simp; omega, fun x hx => ?_⟩
  rcases List.mem_append.1 hx with hx | hx
  · exact D.sz x hx
  · rw [List.mem_singleton.1 hx]; exact hs
set_option maxHeartbeats 16000000 in
set_option maxRecDepth 100000 in
theorem drawOf_ok (bs0 : List Int) (hb0 : ∀ x ∈ bs0, 0 ≤ x ∧ x ≤ 255) (hl0 : bs0.length ≤ 9223372036854775807) :
    ∃ r out, (∃ rs : List ByteArray, rs.length ≤ 20 ∧ (∀ s ∈ rs, s.size ≤ 400) ∧ r = .one (.hs 0 0 rs.length) ∧ out = [.arr 1 (rs.map encS)]) ∧ Good Tryz.prog 14 [.one (.p (.sl (bs0.map encU)))] [] r out := by
  refine good_v noM Tryz.func14 rfl rfl ?_
  conv => whnf
  obtain ⟨_, _, ⟨bs, hb, rfl, rfl⟩, hg⟩ := l1Open_ok bs0 hb0 hl0
  refine .mk _ _ true Tryz.call23 hg (Nat.le_of_ble_eq_true rfl) (fun b hb => Nat.zero_le _) ?_
  conv => whnf
  obtain ⟨_, _, ⟨v, hv0, hv1, rfl, rfl⟩, hg0⟩ := pick_ok bs 0 9 hb.rng hb.len (by omega) (by omega) (by omega) (by omega)
  refine .mk _ _ false Tryz.call24 hg0 (Nat.le_of_ble_eq_true rfl) (.inl rfl) ?_
  conv => whnf
  refine VLoop.enter [3, 4, 5, 6] ?_
  conv => whnf
  refine vloop_indN noM [3, 4, 5, 6] (ι := (Int × Int × Int × List ByteArray) ⊕ (Int × Int × Int × Is × List ByteArray)) (fun i => match i with | .inl _ => 3 | .inr _ => 4)
    (fun i => match i with
      | .inl (a, q, k, os) => ⟨69, 0, [(3, .one (.hp 0 0 0)), (4, .one (.hs 1 0 os.length)), (5, .one (.hp 2 0 0)), (6, vint a)], [(0, some (rdB bs q)), (1, some (.arr 1 (os.map encS))), (2, some (.box [.p (.lit (.int .i64 k)), .p (.lit (.slice none 0 0))]))]⟩
      | .inr (a, q, last, l, os) => ⟨69, 0, [(3, .one (.hp 0 0 0)), (4, .one (.hs 1 0 os.length)), (5, .one (.hp 2 0 0)), (6, vint a)], [(0, some (rdB bs q)), (1, some (.arr 1 (os.map encS))), (2, some (.box [.p (.lit (.int .i64 last)), .hs 3 0 l.length])), (3, some (.arr 4 (l.map encItem)))]⟩)
    (fun i => match i with
      | .inl (a, q, k, os) => DInv a q os ∧ k = 0
      | .inr (a, q, last, l, os) => DInv a q os ∧ CatP l last)
    (fun i => match i with | .inl (a, _, _, _) => a.toNat | .inr (a, _, _, _, _) => a.toNat) ?_ (.inl (v, 0 + 1, 0, [])) ⟨⟨by omega, by omega, by omega, by omega, by simp; omega, fun s hs => by cases hs⟩, rfl⟩
  rintro (⟨a, q, k, os⟩ | ⟨a, q, last, l, os⟩)
  · intro h
    have D := h.1
    have d1 := D.a0
    have d2 := D.a9
    have d3 := D.q0
    have d4 := D.q1
    have d5 := D.ln
    have hk := h.2
    have p : CatP [] k := by rw [hk]; exact catNil

    show vcode Tryz.prog noM _ _ 3 _
    conv => whnf
    split
    · rename_i k0
      have k1 := of_decide_eq_true k0
      have hwa : IntKind.i64.wrap (a - 1) = a - 1 := wi _ (by omega) (by omega)
      conv => whnf
      obtain ⟨_, _, ⟨v1, hv10, hv11, rfl, rfl⟩, hg1⟩ := pick_ok bs q 2 hb.rng hb.len (by omega) (by omega) (by omega) (by omega)
      refine .mk _ _ false Tryz.call24 hg1 (Nat.le_of_ble_eq_true rfl) (.inl rfl) ?_
      conv => whnf
      refine ⟨Nat.le_refl 3, ?_⟩
      conv => whnf
      obtain ⟨_, _, ⟨s1, hs1, rfl, rfl⟩, hg2⟩ := of_ok bs (q + 1) oNames hb (by omega) (by omega) (by decide) (by decide)
      have hs1z : s1.size ≤ 10 := oNames_size s1 hs1
      refine .mk _ _ true Tryz.call26 hg2 (Nat.le_of_ble_eq_true rfl) (fun b hb => by cases List.mem_singleton.1 hb; exact Nat.le_of_ble_eq_true rfl) ?_
      conv => whnf
      obtain ⟨_, _, ⟨v3, hv30, hv31, rfl, rfl⟩, hg3⟩ := pick_ok bs (q + 1 + 1) 7 hb.rng hb.len (by omega) (by omega) (by omega) (by omega)
      refine .mk _ _ false Tryz.call24 hg3 (Nat.le_of_ble_eq_true rfl) (.inl rfl) ?_
      conv => whnf
      have hd1 : IntKind.i64.wrap ((IntKind.i64.wrap (v3 * 3)).tdiv 7) = v3 * 3 / 7 := by
        rw [wi (v3 * 3) (by omega) (by omega), Int.tdiv_eq_ediv_of_nonneg (by omega), wi _ (by omega) (by omega)]
      rw [hd1]
      have ei1 : 0 + (v3 * 3 / 7).toNat = (v3 * 3 / 7).toNat := by omega
      refine ⟨by omega, by omega, Nat.le_refl 3, ?_⟩
      conv => whnf
      refine ⟨_, getD_str oTexts ei1 (by show _ < 3; omega), ?_⟩
      conv => whnf
      have ht1 := oTexts_size (v3 * 3 / 7).toNat
      generalize oTexts.getD (v3 * 3 / 7).toNat ⟨#[]⟩ = t at ht1 ⊢
      refine .mk _ _ false Tryz.call25 (specRec_ok v1 s1 t (by omega) (by omega)) (Nat.le_of_ble_eq_true rfl) (.inl rfl) ?_
      conv => whnf
      have hs400 := recS_size v1 s1 t
      generalize recS v1 s1 t = s at hs400 ⊢
      obtain ⟨o, ho⟩ := rec_ex s
      have ga := good_nilK (specDoes_ok [] k s (by omega) p o ho)

      cases o with
      | none =>
        refine .mk _ _ false Tryz.call17 ga (Nat.le_of_ble_eq_true rfl) (.inl rfl) ?_
        conv => whnf
        obtain ⟨_, _, ⟨v4, hv40, hv41, rfl, rfl⟩, hg4⟩ := pick_ok bs (q + 1 + 1 + 1) 14 hb.rng hb.len (by omega) (by omega) (by omega) (by omega)
        refine .mk _ _ false Tryz.call24 hg4 (Nat.le_of_ble_eq_true rfl) (.inl rfl) ?_
        conv => whnf
        split
        · conv => whnf
          refine ⟨⟨rfl, (List.length_map ..).symm, rfl⟩, Nat.le_refl 1, ?_⟩
          conv => whnf
          refine ⟨(fun z => by cases z), app9 (show (os.map encS).length + 1 ≤ _ by rw [List.length_map]; omega), fun el hel => by cases List.mem_singleton.1 hel; rfl, ?_⟩
          conv => whnf
          have D2 : DInv (IntKind.i64.wrap (a - 1)) (q + 1 + 1 + 1 + 1) (os ++ [s]) := by rw [hwa]; exact D.app hs400 (by omega) (by omega) k1
          exact ⟨.inl (IntKind.i64.wrap (a - 1), q + 1 + 1 + 1 + 1, k, os ++ [s]), rfl, (by simp only [List.map_append, List.length_append, List.length_map]; rfl), ⟨D2, hk⟩, by show (IntKind.i64.wrap (a - 1)).toNat < a.toNat; rw [hwa]; omega⟩
        · conv => whnf
          have D2 : DInv (IntKind.i64.wrap (a - 1)) (q + 1 + 1 + 1 + 1) (os) := by rw [hwa]; exact D.next (by omega) (by omega) k1
          exact ⟨.inl (IntKind.i64.wrap (a - 1), q + 1 + 1 + 1 + 1, k, os), rfl, rfl, ⟨D2, hk⟩, by show (IntKind.i64.wrap (a - 1)).toNat < a.toNat; rw [hwa]; omega⟩
      | some qq =>
        have ga2 : Good Tryz.prog 17 [noCatK k, vstr s] [] (appT (doC [] k qq)) [.arr 4 ((doC [] k qq).1.map encItem)] := ga
        have hTc := @doC_keeps _ _ qq p
        generalize doC [] k qq = T at ga2 hTc
        refine .mk _ _ false Tryz.call17 ga2 (Nat.le_of_ble_eq_true rfl) (.inl rfl) ?_
        conv => whnf
        cases hT0 : (T.2.2 == 0) with
        | false =>
          conv => whnf
          obtain ⟨_, _, ⟨v4, hv40, hv41, rfl, rfl⟩, hg4⟩ := pick_ok bs (q + 1 + 1 + 1) 14 hb.rng hb.len (by omega) (by omega) (by omega) (by omega)
          refine .mk _ _ false Tryz.call24 hg4 (Nat.le_of_ble_eq_true rfl) (.inl rfl) ?_
          conv => whnf
          split
          · conv => whnf
            refine ⟨⟨rfl, (List.length_map ..).symm, rfl⟩, Nat.le_refl 1, ?_⟩
            conv => whnf
            refine ⟨(fun z => by cases z), app9 (show (os.map encS).length + 1 ≤ _ by rw [List.length_map]; omega), fun el hel => by cases List.mem_singleton.1 hel; rfl, ?_⟩
            conv => whnf
            have D2 : DInv (IntKind.i64.wrap (a - 1)) (q + 1 + 1 + 1 + 1) (os ++ [s]) := by rw [hwa]; exact D.app hs400 (by omega) (by omega) k1
            exact ⟨.inl (IntKind.i64.wrap (a - 1), q + 1 + 1 + 1 + 1, k, os ++ [s]), rfl, (by simp only [List.map_append, List.length_append, List.length_map]; rfl), ⟨D2, hk⟩, by show (IntKind.i64.wrap (a - 1)).toNat < a.toNat; rw [hwa]; omega⟩
          · conv => whnf
            have D2 : DInv (IntKind.i64.wrap (a - 1)) (q + 1 + 1 + 1 + 1) (os) := by rw [hwa]; exact D.next (by omega) (by omega) k1
            exact ⟨.inl (IntKind.i64.wrap (a - 1), q + 1 + 1 + 1 + 1, k, os), rfl, rfl, ⟨D2, hk⟩, by show (IntKind.i64.wrap (a - 1)).toNat < a.toNat; rw [hwa]; omega⟩
        | true =>
          conv => whnf
          refine ⟨⟨rfl, (List.length_map ..).symm, rfl⟩, Nat.le_refl 1, ?_⟩
          conv => whnf
          refine ⟨(fun z => by cases z), app9 (show (os.map encS).length + 1 ≤ _ by rw [List.length_map]; omega), fun el hel => by cases List.mem_singleton.1 hel; rfl, ?_⟩
          conv => whnf
          have D2 : DInv (IntKind.i64.wrap (a - 1)) (q + 1 + 1 + 1) (os ++ [s]) := by rw [hwa]; exact D.app hs400 (by omega) (by omega) k1
          exact ⟨.inr (IntKind.i64.wrap (a - 1), q + 1 + 1 + 1, T.2.1, T.1, os ++ [s]), rfl, (by simp only [List.map_append, List.length_append, List.length_map]; rfl), ⟨D2, hTc⟩, by show (IntKind.i64.wrap (a - 1)).toNat < a.toNat; rw [hwa]; omega⟩
    · rename_i k0
      have res : ∃ rs : List ByteArray, rs.length ≤ 20 ∧ (∀ s ∈ rs, s.size ≤ 400) ∧ AV.one (.hs 0 0 os.length) = AV.one (.hs 0 0 rs.length) ∧ [Blk.arr 1 (os.map encS)] = [Blk.arr 1 (rs.map encS)] := ⟨os, by omega, D.sz, rfl, rfl⟩
      conv => whnf
      split
      · rename_i z0
        have z1 := of_decide_eq_true z0
        conv => whnf
        obtain ⟨_, _, ⟨v4, hv40, hv41, rfl, rfl⟩, hg4⟩ := pick_ok bs q 14 hb.rng hb.len (by omega) (by omega) (by omega) (by omega)
        refine .mk _ _ false Tryz.call24 hg4 (Nat.le_of_ble_eq_true rfl) (.inl rfl) ?_
        conv => whnf
        split
        · conv => whnf
          obtain ⟨_, _, ⟨v5, hv50, hv51, rfl, rfl⟩, hg5⟩ := pick_ok bs (q + 1) os.length hb.rng hb.len (by omega) (by omega) (by omega) (by omega)
          refine .mk _ _ false Tryz.call24 hg5 (Nat.le_of_ble_eq_true rfl) (.inl rfl) ?_
          conv => whnf
          refine ⟨Nat.le_refl 5, ?_⟩
          conv => whnf
          obtain ⟨_, _, ⟨s1, hs1, rfl, rfl⟩, hg6⟩ := of_ok bs (q + 1 + 1) oBad hb (by omega) (by omega) (by decide) (by decide)
          have hs1z : s1.size ≤ 10 := oBad_size s1 hs1
          refine .mk _ _ true Tryz.call26 hg6 (Nat.le_of_ble_eq_true rfl) (fun b hb => by cases List.mem_singleton.1 hb; exact Nat.le_of_ble_eq_true rfl) ?_
          conv => whnf
          refine ⟨hv50, hv51, Nat.le_of_eq (by rw [List.length_map, Nat.zero_add]), ?_⟩
          conv => whnf
          have ei5 : 0 + v5.toNat = v5.toNat := Nat.zero_add _
          refine ⟨_, getD_str os ei5 (by omega), by rw [List.length_map]; omega, ?_⟩
          conv => whnf
          refine ⟨trivial, ?_⟩
          conv => whnf
          rw [ei5]
          refine ⟨os.set v5.toNat s1, by rw [List.length_set]; omega, fun s hs => ?_, by rw [List.length_set]; rfl, ?_⟩
          · rcases List.mem_or_eq_of_mem_set hs with hs | rfl
            · exact D.sz s hs
            · omega
          · rw [List.map_set]; rfl
        · conv => whnf
          refine ⟨trivial, ?_⟩
          conv => whnf
          exact res
      · conv => whnf
        refine ⟨trivial, ?_⟩
        conv => whnf
        exact res
  · intro h
    have D := h.1
    have d1 := D.a0
    have d2 := D.a9
    have d3 := D.q0
    have d4 := D.q1
    have d5 := D.ln
    have p := h.2
    have hsT : subCat l l.length last = cat l last := sub_cat rfl last
    have hl8 := p.len
    show vcode Tryz.prog noM _ _ 4 _
    conv => whnf
    split
    · rename_i k0
      have k1 := of_decide_eq_true k0
      have hwa : IntKind.i64.wrap (a - 1) = a - 1 := wi _ (by omega) (by omega)
      conv => whnf
      obtain ⟨_, _, ⟨v1, hv10, hv11, rfl, rfl⟩, hg1⟩ := pick_ok bs q 2 hb.rng hb.len (by omega) (by omega) (by omega) (by omega)
      refine .mk _ _ false Tryz.call24 hg1 (Nat.le_of_ble_eq_true rfl) (.inl rfl) ?_
      conv => whnf
      refine ⟨Nat.le_refl 3, ?_⟩
      conv => whnf
      obtain ⟨_, _, ⟨s1, hs1, rfl, rfl⟩, hg2⟩ := of_ok bs (q + 1) oNames hb (by omega) (by omega) (by decide) (by decide)
      have hs1z : s1.size ≤ 10 := oNames_size s1 hs1
      refine .mk _ _ true Tryz.call26 hg2 (Nat.le_of_ble_eq_true rfl) (fun b hb => by cases List.mem_singleton.1 hb; exact Nat.le_of_ble_eq_true rfl) ?_
      conv => whnf
      obtain ⟨_, _, ⟨v3, hv30, hv31, rfl, rfl⟩, hg3⟩ := pick_ok bs (q + 1 + 1) 7 hb.rng hb.len (by omega) (by omega) (by omega) (by omega)
      refine .mk _ _ false Tryz.call24 hg3 (Nat.le_of_ble_eq_true rfl) (.inl rfl) ?_
      conv => whnf
      have hd1 : IntKind.i64.wrap ((IntKind.i64.wrap (v3 * 3)).tdiv 7) = v3 * 3 / 7 := by
        rw [wi (v3 * 3) (by omega) (by omega), Int.tdiv_eq_ediv_of_nonneg (by omega), wi _ (by omega) (by omega)]
      rw [hd1]
      have ei1 : 0 + (v3 * 3 / 7).toNat = (v3 * 3 / 7).toNat := by omega
      refine ⟨by omega, by omega, Nat.le_refl 3, ?_⟩
      conv => whnf
      refine ⟨_, getD_str oTexts ei1 (by show _ < 3; omega), ?_⟩
      conv => whnf
      have ht1 := oTexts_size (v3 * 3 / 7).toNat
      generalize oTexts.getD (v3 * 3 / 7).toNat ⟨#[]⟩ = t at ht1 ⊢
      refine .mk _ _ false Tryz.call25 (specRec_ok v1 s1 t (by omega) (by omega)) (Nat.le_of_ble_eq_true rfl) (.inl rfl) ?_
      conv => whnf
      have hs400 := recS_size v1 s1 t
      generalize recS v1 s1 t = s at hs400 ⊢
      obtain ⟨o, ho⟩ := rec_ex s
      have ga := specDoes_ok l last s (by omega) p o ho
      rw [← hsT] at ga
      refine ⟨Nat.le_of_eq (by rw [List.length_map, Nat.zero_add]), ?_⟩
      conv => whnf
      cases o with
      | none =>
        refine .mk _ _ false Tryz.call17 ga (Nat.le_of_ble_eq_true rfl) (.inr ⟨AV.nsB_iff rfl, fun k hk => by cases hk⟩) ?_
        conv => whnf
        obtain ⟨_, _, ⟨v4, hv40, hv41, rfl, rfl⟩, hg4⟩ := pick_ok bs (q + 1 + 1 + 1) 14 hb.rng hb.len (by omega) (by omega) (by omega) (by omega)
        refine .mk _ _ false Tryz.call24 hg4 (Nat.le_of_ble_eq_true rfl) (.inl rfl) ?_
        conv => whnf
        split
        · conv => whnf
          refine ⟨⟨rfl, (List.length_map ..).symm, rfl⟩, Nat.le_refl 1, ?_⟩
          conv => whnf
          refine ⟨(fun z => by cases z), app9 (show (os.map encS).length + 1 ≤ _ by rw [List.length_map]; omega), fun el hel => by cases List.mem_singleton.1 hel; rfl, ?_⟩
          conv => whnf
          have D2 : DInv (IntKind.i64.wrap (a - 1)) (q + 1 + 1 + 1 + 1) (os ++ [s]) := by rw [hwa]; exact D.app hs400 (by omega) (by omega) k1
          exact ⟨.inr (IntKind.i64.wrap (a - 1), q + 1 + 1 + 1 + 1, last, l, os ++ [s]), rfl, (by simp only [List.map_append, List.length_append, List.length_map]; rfl), ⟨D2, p⟩, by show (IntKind.i64.wrap (a - 1)).toNat < a.toNat; rw [hwa]; omega⟩
        · conv => whnf
          have D2 : DInv (IntKind.i64.wrap (a - 1)) (q + 1 + 1 + 1 + 1) (os) := by rw [hwa]; exact D.next (by omega) (by omega) k1
          exact ⟨.inr (IntKind.i64.wrap (a - 1), q + 1 + 1 + 1 + 1, last, l, os), rfl, rfl, ⟨D2, p⟩, by show (IntKind.i64.wrap (a - 1)).toNat < a.toNat; rw [hwa]; omega⟩
      | some qq =>
        have ga2 : Good Tryz.prog 17 [subCat l l.length last, vstr s] [] (appT (doC l last qq)) [.arr 4 ((doC l last qq).1.map encItem)] := ga
        have hTc := @doC_keeps _ _ qq p
        generalize doC l last qq = T at ga2 hTc
        refine .mk _ _ false Tryz.call17 ga2 (Nat.le_of_ble_eq_true rfl) (.inr ⟨AV.nsB_iff rfl, arr_noSl _⟩) ?_
        conv => whnf
        cases hT0 : (T.2.2 == 0) with
        | false =>
          conv => whnf
          obtain ⟨_, _, ⟨v4, hv40, hv41, rfl, rfl⟩, hg4⟩ := pick_ok bs (q + 1 + 1 + 1) 14 hb.rng hb.len (by omega) (by omega) (by omega) (by omega)
          refine .mk _ _ false Tryz.call24 hg4 (Nat.le_of_ble_eq_true rfl) (.inl rfl) ?_
          conv => whnf
          split
          · conv => whnf
            refine ⟨⟨rfl, (List.length_map ..).symm, rfl⟩, Nat.le_refl 1, ?_⟩
            conv => whnf
            refine ⟨(fun z => by cases z), app9 (show (os.map encS).length + 1 ≤ _ by rw [List.length_map]; omega), fun el hel => by cases List.mem_singleton.1 hel; rfl, ?_⟩
            conv => whnf
            have D2 : DInv (IntKind.i64.wrap (a - 1)) (q + 1 + 1 + 1 + 1) (os ++ [s]) := by rw [hwa]; exact D.app hs400 (by omega) (by omega) k1
            exact ⟨.inr (IntKind.i64.wrap (a - 1), q + 1 + 1 + 1 + 1, last, l, os ++ [s]), rfl, (by simp only [List.map_append, List.length_append, List.length_map]; rfl), ⟨D2, p⟩, by show (IntKind.i64.wrap (a - 1)).toNat < a.toNat; rw [hwa]; omega⟩
          · conv => whnf
            have D2 : DInv (IntKind.i64.wrap (a - 1)) (q + 1 + 1 + 1 + 1) (os) := by rw [hwa]; exact D.next (by omega) (by omega) k1
            exact ⟨.inr (IntKind.i64.wrap (a - 1), q + 1 + 1 + 1 + 1, last, l, os), rfl, rfl, ⟨D2, p⟩, by show (IntKind.i64.wrap (a - 1)).toNat < a.toNat; rw [hwa]; omega⟩
        | true =>
          conv => whnf
          refine ⟨⟨rfl, (List.length_map ..).symm, rfl⟩, Nat.le_refl 1, ?_⟩
          conv => whnf
          refine ⟨(fun z => by cases z), app9 (show (os.map encS).length + 1 ≤ _ by rw [List.length_map]; omega), fun el hel => by cases List.mem_singleton.1 hel; rfl, ?_⟩
          conv => whnf
          have D2 : DInv (IntKind.i64.wrap (a - 1)) (q + 1 + 1 + 1) (os ++ [s]) := by rw [hwa]; exact D.app hs400 (by omega) (by omega) k1
          exact ⟨.inr (IntKind.i64.wrap (a - 1), q + 1 + 1 + 1, T.2.1, T.1, os ++ [s]), rfl, (by simp only [List.map_append, List.length_append, List.length_map]; rfl), ⟨D2, hTc⟩, by show (IntKind.i64.wrap (a - 1)).toNat < a.toNat; rw [hwa]; omega⟩
    · rename_i k0
      have res : ∃ rs : List ByteArray, rs.length ≤ 20 ∧ (∀ s ∈ rs, s.size ≤ 400) ∧ AV.one (.hs 0 0 os.length) = AV.one (.hs 0 0 rs.length) ∧ [Blk.arr 1 (os.map encS)] = [Blk.arr 1 (rs.map encS)] := ⟨os, by omega, D.sz, rfl, rfl⟩
      conv => whnf
      split
      · rename_i z0
        have z1 := of_decide_eq_true z0
        conv => whnf
        obtain ⟨_, _, ⟨v4, hv40, hv41, rfl, rfl⟩, hg4⟩ := pick_ok bs q 14 hb.rng hb.len (by omega) (by omega) (by omega) (by omega)
        refine .mk _ _ false Tryz.call24 hg4 (Nat.le_of_ble_eq_true rfl) (.inl rfl) ?_
        conv => whnf
        split
        · conv => whnf
          obtain ⟨_, _, ⟨v5, hv50, hv51, rfl, rfl⟩, hg5⟩ := pick_ok bs (q + 1) os.length hb.rng hb.len (by omega) (by omega) (by omega) (by omega)
          refine .mk _ _ false Tryz.call24 hg5 (Nat.le_of_ble_eq_true rfl) (.inl rfl) ?_
          conv => whnf
          refine ⟨Nat.le_refl 5, ?_⟩
          conv => whnf
          obtain ⟨_, _, ⟨s1, hs1, rfl, rfl⟩, hg6⟩ := of_ok bs (q + 1 + 1) oBad hb (by omega) (by omega) (by decide) (by decide)
          have hs1z : s1.size ≤ 10 := oBad_size s1 hs1
          refine .mk _ _ true Tryz.call26 hg6 (Nat.le_of_ble_eq_true rfl) (fun b hb => by cases List.mem_singleton.1 hb; exact Nat.le_of_ble_eq_true rfl) ?_
          conv => whnf
          refine ⟨hv50, hv51, Nat.le_of_eq (by rw [List.length_map, Nat.zero_add]), ?_⟩
          conv => whnf
          have ei5 : 0 + v5.toNat = v5.toNat := Nat.zero_add _
          refine ⟨_, getD_str os ei5 (by omega), by rw [List.length_map]; omega, ?_⟩
          conv => whnf
          refine ⟨trivial, ?_⟩
          conv => whnf
          rw [ei5]
          refine ⟨os.set v5.toNat s1, by rw [List.length_set]; omega, fun s hs => ?_, by rw [List.length_set]; rfl, ?_⟩
          · rcases List.mem_or_eq_of_mem_set hs with hs | rfl
            · exact D.sz s hs
            · omega
          · rw [List.map_set]; rfl
        · conv => whnf
          refine ⟨trivial, ?_⟩
          conv => whnf
          exact res
      · conv => whnf
        refine ⟨trivial, ?_⟩
        conv => whnf
        exact res
end Go.Abs.C

set_option linter.unusedSimpArgs false
set_option linter.unusedVariables false
namespace Go.Abs.C
open Go Go.Abs Go.Proofs Go.RowKit
attribute [local irreducible] IntKind.wrap
open Go.Abs.W
theorem takeR_all {rs : List ByteArray} {n : Nat} (h : n = rs.length) : List.take n (List.drop 0 (rs.map encS)) = rs.map encS := by
  subst h
  rw [List.drop_zero, List.take_of_length_le (by rw [List.length_map]; exact Nat.le_refl _)]
theorem lenR_all {rs : List ByteArray} {n : Nat} (h : n = rs.length) : 0 + n ≤ (rs.map encS).length := by rw [List.length_map]; omega
set_option maxHeartbeats 16000000 in
set_option maxRecDepth 100000 in
theorem catOf_law (bs : List Int) (hb : ∀ x ∈ bs, 0 ≤ x ∧ x ≤ 255) (hl : bs.length ≤ 9223372036854775807) : ∃ r out, r = vbool true ∧ Good Tryz.prog 4 [.one (.p (.sl (bs.map encU)))] [] r out := by
  refine good_v noM Tryz.func4 rfl rfl ?_
  conv => whnf
  split
  · conv => whnf
    refine ⟨trivial, ?_⟩
    conv => whnf
    rfl
  conv => whnf
  obtain ⟨_, _, ⟨rs, hrl, hrs, rfl, rfl⟩, hg⟩ := drawOf_ok bs hb hl
  have hrs2 : ∀ s ∈ rs, s.size ≤ 1100000 := fun s hs => Nat.le_trans (hrs s hs) (by decide)
  have g1 := implOf_ok rs (by omega) hrs2
  have g2 := specOf_ok rs (by omega) hrs2
  have hsT : ∀ (m : Is) (k : Int), subCat m m.length k = cat m k := fun m k => sub_cat rfl k
  refine .mk _ _ false Tryz.call14 hg (Nat.le_of_ble_eq_true rfl) (.inl rfl) ?_
  conv => whnf
  refine ⟨lenR_all rfl, ?_⟩
  rw [takeR_all rfl]
  conv => whnf
  by_cases he : rs = []
  · subst he
    obtain ⟨k0, hk0⟩ : ∃ k0 : Int, k0 = 0 := ⟨0, rfl⟩
    have f1 : Good Tryz.prog 8 [.one (.p (.sl (([] : List ByteArray).map encS)))] [] (.tup [.agg [.p (.lit (.int .i64 k0)), .hs 0 0 ([] : Is).length], vbool true]) [.arr 4 (([] : Is).map encItem)] := by rw [hk0]; exact g1
    have f2 : Good Tryz.prog 6 [.one (.p (.sl (([] : List ByteArray).map encS)))] [] (.tup [noCatK k0, vbool true]) [] := by rw [hk0]; exact g2
    refine .mk _ _ false Tryz.call8 f1 (Nat.le_of_ble_eq_true rfl) (.inr ⟨AV.nsB_iff rfl, arr_noSl _⟩) ?_
    conv => whnf
    refine ⟨lenR_all rfl, ?_⟩
    rw [takeR_all rfl]
    conv => whnf
    refine .mk _ _ false Tryz.call6 f2 (Nat.le_of_ble_eq_true rfl) (.inr ⟨AV.nsB_iff rfl, fun k hk => by cases hk⟩) ?_
    conv => whnf
    have wh : Good Tryz.prog 15 [subCat [] 0 k0, noCatK k0] [] (vbool true) [] := good_nil2K (whCat_ok [] k0 (by decide))
    refine ⟨Nat.le_refl _, ?_⟩
    conv => whnf
    refine .mk _ _ false Tryz.call15 wh (Nat.le_of_ble_eq_true rfl) (.inr ⟨AV.nsB_iff rfl, fun k hk => by cases hk⟩) ?_
    conv => whnf
    refine VLoop.step noM ?_
    conv => whnf
    have ok0 : Good Tryz.prog 16 [subCat [] 0 k0] [] (vbool true) [] := by
      have p : CatP [] k0 := by rw [hk0]; exact catNil
      have := implOk_ok [] k0 (by decide) (fun x hx => by cases hx)
      rw [catOk_true p, ← hsT [] k0] at this; exact this
    refine ⟨Nat.le_refl _, ?_⟩
    conv => whnf
    refine .mk _ _ false Tryz.call16 ok0 (Nat.le_of_ble_eq_true rfl) (.inr ⟨AV.nsB_iff rfl, fun k hk => by cases hk⟩) ?_
    conv => whnf
    refine ⟨trivial, ?_⟩
    conv => whnf
    exact congrArg vbool (decide_eq_true (by rw [hk0]; exact Int.le_refl _))
  · have hpos : 0 < rs.length := List.length_pos_iff.2 he
    rw [sofR_ne hpos, sofB_ne hpos] at g2
    cases hc : catL rs with
    | none =>
      rw [hc] at g1 g2
      refine .mk _ _ false Tryz.call8 g1 (Nat.le_of_ble_eq_true rfl) (.inr ⟨AV.nsB_iff rfl, fun k hk => by cases hk⟩) ?_
      conv => whnf
      refine ⟨lenR_all rfl, ?_⟩
      rw [takeR_all rfl]
      conv => whnf
      refine .mk _ _ false Tryz.call6 g2 (Nat.le_of_ble_eq_true rfl) (.inr ⟨AV.nsB_iff rfl, fun k hk => by cases hk⟩) ?_
      conv => whnf
      refine .mk _ _ false Tryz.call15 whCat_no (Nat.le_of_ble_eq_true rfl) (.inl rfl) ?_
      conv => whnf
      refine ⟨trivial, ?_⟩
      conv => whnf
      rfl
    | some c =>
      rw [hc] at g1 g2
      obtain ⟨l, last⟩ := c
      have hP := catL_ok hc
      have p := hP.ok
      have hle := hP.le
      have hl8 := p.len
      simp only at p hle hl8
      have hlast := inR_iff.1 p.lst
      have wh : Good Tryz.prog 15 [subCat l l.length last, subCat l l.length last] [] (vbool true) [] := by rw [hsT]; exact whCat_ok l last (by omega)
      have hll : 0 + l.length ≤ (l.map encItem).length := by rw [List.length_map]; omega
      have okl : Good Tryz.prog 16 [subCat l l.length last] [] (vbool true) [] := by
        rw [hsT]
        have := implOk_ok l last (by omega) (fun x hx => Nat.le_trans (p.names x hx) (by decide))
        rw [catOk_true p] at this; exact this
      refine .mk _ _ false Tryz.call8 g1 (Nat.le_of_ble_eq_true rfl) (.inr ⟨AV.nsB_iff rfl, arr_noSl _⟩) ?_
      conv => whnf
      refine ⟨lenR_all rfl, ?_⟩
      rw [takeR_all rfl]
      conv => whnf
      refine .mk _ _ false Tryz.call6 g2 (Nat.le_of_ble_eq_true rfl) (.inr ⟨AV.nsB_iff rfl, arr_noSl _⟩) ?_
      conv => whnf
      refine ⟨hll, ?_⟩
      conv => whnf
      refine ⟨hll, ?_⟩
      conv => whnf
      refine .mk _ _ false Tryz.call15 wh (Nat.le_of_ble_eq_true rfl) (.inr ⟨AV.nsB_iff rfl, fun k hk => by cases hk⟩) ?_
      conv => whnf
      refine VLoop.enter [3, 4, 8] ?_
      conv => whnf
      refine VLoop.ind1 (n0 := 3) (α := Int) noM [3, 4, 8] (fun i => ⟨111, 0, [(3, .one (.hs 0 0 rs.length)), (4, .one (.hp 1 0 0)), (8, vint i)], [(0, some (.arr 1 (rs.map encS))), (1, some (.box [.p (.lit (.int .i64 last)), .hs 2 0 l.length])), (2, some (.arr 4 (l.map encItem)))]⟩)
        (fun i => ∃ j : Nat, i = j ∧ j ≤ rs.length) (fun i => ((rs.length : Int) - i).toNat) ?_ 0 ⟨0, rfl, by omega⟩
      rintro _ ⟨i, rfl, hi⟩
      conv => whnf
      split
      · rename_i q1
        have q1' := of_decide_eq_true q1
        have hil : i < rs.length := by omega
        have hw : IntKind.i64.wrap ((i : Int) + 1) = ((i + 1 : Nat) : Int) := by rw [wi _ (by omega) (by omega)]; omega
        obtain ⟨⟨A, la⟩, hA⟩ := catL_take hc i
        obtain ⟨⟨B, lb⟩, hB⟩ := catL_take hc (i + 1)
        have one := catL_step hil hA hB
        have pA := (catL_ok hA).ok
        have pB := (catL_ok hB).ok
        simp only at one pA pB
        have a8 := pA.len
        have b8 := pB.len
        have gA := implOf_ok (rs.take i) (by rw [List.length_take]; omega) (fun s hs => hrs2 s (List.mem_of_mem_take hs))
        have gB := implOf_ok (rs.take (i + 1)) (by rw [List.length_take]; omega) (fun s hs => hrs2 s (List.mem_of_mem_take hs))
        rw [hA] at gA
        rw [hB] at gB
        conv => whnf
        refine ⟨⟨by omega, by omega, by omega, Nat.le_of_eq (by rw [List.length_map, Nat.zero_add]), by decide +kernel, by decide +kernel⟩, ?_⟩
        conv => whnf
        refine ⟨by rw [List.length_map, Int.toNat_natCast]; show 0 + 0 + ((i) - 0) ≤ _; omega, ?_⟩
        rw [show List.take (((i : Nat) : Int).toNat - Int.toNat 0) (List.drop (0 + Int.toNat 0) (rs.map encS)) = (rs.take (i)).map encS by
          rw [Int.toNat_natCast]; show List.take ((i) - 0) (List.drop 0 _) = _; rw [List.drop_zero, Nat.sub_zero, List.map_take]]
        conv => whnf
        refine .mk _ _ false Tryz.call8 gA (Nat.le_of_ble_eq_true rfl) (.inr ⟨AV.nsB_iff rfl, arr_noSl _⟩) ?_
        conv => whnf
        rw [hw]
        refine ⟨⟨by omega, by omega, by omega, Nat.le_of_eq (by rw [List.length_map, Nat.zero_add]), by decide +kernel, by decide +kernel⟩, ?_⟩
        conv => whnf
        refine ⟨by rw [List.length_map, Int.toNat_natCast]; show 0 + 0 + ((i + 1) - 0) ≤ _; omega, ?_⟩
        rw [show List.take (((i + 1 : Nat) : Int).toNat - Int.toNat 0) (List.drop (0 + Int.toNat 0) (rs.map encS)) = (rs.take (i + 1)).map encS by
          rw [Int.toNat_natCast]; show List.take ((i + 1) - 0) (List.drop 0 _) = _; rw [List.drop_zero, Nat.sub_zero, List.map_take]]
        conv => whnf
        refine .mk _ _ false Tryz.call8 gB (Nat.le_of_ble_eq_true rfl) (.inr ⟨AV.nsB_iff rfl, arr_noSl _⟩) ?_
        conv => whnf
        have w1 : IntKind.i64.wrap ((A.length : Int) - B.length) = (A.length : Int) - B.length := wi _ (by omega) (by omega)
        have w2 : IntKind.i64.wrap ((B.length : Int) - A.length) = (B.length : Int) - A.length := wi _ (by omega) (by omega)
        have olen := one.len
        have olo := one.lo
        have w3 : decide (lb < la) = false := decide_eq_false (by omega)
        have fin : IntKind.i64.wrap ((i : Int) + 1) = ((i + 1 : Nat) : Int) := hw
        split
        · rename_i x1
          have x2 : ((A.length : Int) - B.length) ≠ 1 := by rw [← w1]; simpa using x1
          conv => whnf
          split
          · rename_i y1
            have y2 : ((B.length : Int) - A.length) ≠ 1 := by rw [← w2]; simpa using y1
            omega
          conv => whnf
          rw [w3]
          conv => whnf
          exact ⟨_, rfl, rfl, ⟨i + 1, hw, by omega⟩, by rw [hw]; omega⟩
        · conv => whnf
          rw [w3]
          conv => whnf
          exact ⟨_, rfl, rfl, ⟨i + 1, hw, by omega⟩, by rw [hw]; omega⟩
      · rename_i q1
        conv => whnf
        refine ⟨hll, ?_⟩
        conv => whnf
        refine .mk _ _ false Tryz.call16 okl (Nat.le_of_ble_eq_true rfl) (.inr ⟨AV.nsB_iff rfl, fun k hk => by cases hk⟩) ?_
        conv => whnf
        refine ⟨trivial, ?_⟩
        conv => whnf
        exact congrArg vbool (decide_eq_true hle)
theorem fnCatOf_good (bs : List Int) (ok : bs.length ≤ 9223372036854775807 ∧ ∀ x ∈ bs, (Lit.int .u8 x).wf = true) :
    ∃ r out, r = vbool true ∧ Good Tryz.prog 4 [.one (.p (.sl (bs.map encU)))] [] r out :=
  catOf_law bs (fun x hx => u8_rng (ok.2 x hx)) ok.1
end Go.Abs.C

set_option linter.unusedSimpArgs false
set_option linter.unusedVariables false
namespace Go.Abs.C
open Go Go.Abs Go.Proofs Go.RowKit
attribute [local irreducible] IntKind.wrap
open Go.Abs.W
set_option maxHeartbeats 16000000 in
set_option maxRecDepth 100000 in
theorem szStringS_ex (rs : List ByteArray) (hl : rs.length ≤ 9223372036854775807) (hs : ∀ x ∈ rs, x.size ≤ 9223372036854775807) : ∃ r out, (∃ v, r = vint v ∧ out = [] ∧ (0 ≤ v → rs.length ≤ 1048576 ∧ ∀ x ∈ rs, x.size ≤ 1048576)) ∧ Good Tryz.prog 5 [.one (.p (.sl (rs.map encS))), vint 1048576] [] r out := by
  have hm : (rs.map encS).length = rs.length := List.length_map ..
  refine good_v noM Tryz.func5 rfl rfl ?_
  conv => whnf
  have w1 : IntKind.i64.wrap (1048576 - ((rs.map encS).length : Int)) = 1048576 - rs.length := by rw [hm]; exact wb _ (by omega) (by omega)
  rw [w1]
  split
  · conv => whnf
    refine ⟨trivial, ?_⟩
    conv => whnf
    exact ⟨_, rfl, rfl, fun h => by omega⟩
  · rename_i q
    have q' := of_decide_eq_false q
    conv => whnf
    refine VLoop.enter [0, 1, 5] ?_
    conv => whnf
    refine VLoop.ind2 (n0 := 0) (α := Int) (β := Int) noM [0, 1, 5] (fun a b => ⟨28, 0, [(0, .one (.p (.sl (rs.map encS)))), (1, vint b), (5, vint a)], []⟩)
      (fun a b => ∃ i : Nat, a = i ∧ i ≤ rs.length ∧ 0 ≤ b ∧ b ≤ 1048576 ∧ ∀ x ∈ rs.take i, x.size ≤ 1048576) (fun a _ => ((rs.length : Int) - a).toNat) ?_ 0 _ ⟨0, rfl, by omega, by omega, by omega, fun x hx => by cases hx⟩
    rintro _ b ⟨i, rfl, hi, hb0, hb1, hx⟩
    conv => whnf
    split
    · rename_i q1
      have q1' := of_decide_eq_true q1
      have hil : i < rs.length := by omega
      have en : (i : Int).toNat = i := Int.toNat_natCast i
      have hw : IntKind.i64.wrap ((i : Int) + 1) = i + 1 := wi _ (by omega) (by omega)
      have hz := hs (rs[i]) (List.getElem_mem hil)
      conv => whnf
      refine ⟨by omega, by omega, _, recs_at rs en hil, ?_⟩
      conv => whnf
      have w2 : IntKind.i64.wrap (b - ((rs[i]).size : Int)) = b - (rs[i]).size := wb _ (by omega) (by omega)
      rw [w2]
      split
      · conv => whnf
        refine ⟨trivial, ?_⟩
        conv => whnf
        exact ⟨_, rfl, rfl, fun h => by omega⟩
      · rename_i q2
        have q2' := of_decide_eq_false q2
        conv => whnf
        exact ⟨_, _, rfl, rfl, ⟨i + 1, by rw [hw]; simp, by omega, by omega, by omega, fun x h => by
          rw [List.take_succ_eq_append_getElem hil] at h
          rcases List.mem_append.1 h with h | h
          · exact hx x h
          · rw [List.mem_singleton.1 h]; omega⟩, by rw [hw]; omega⟩
    · rename_i q1
      have q1' := of_decide_eq_false q1
      have e : i = rs.length := by omega
      rw [e, List.take_length] at hx
      conv => whnf
      refine ⟨trivial, ?_⟩
      conv => whnf
      exact ⟨_, rfl, rfl, fun h => ⟨by omega, hx⟩⟩
set_option maxHeartbeats 16000000 in
set_option maxRecDepth 100000 in
theorem toStringS_ok (rs : List ByteArray) (hl : rs.length < 1100000) : Good Tryz.prog 7 [.one (.p (.sl (rs.map encS)))] [] (.one (.hs 0 0 rs.length)) [.arr 1 (rs.map encS)] := by
  have hm : (rs.map encS).length = rs.length := List.length_map ..
  refine good_e noM Tryz.func7 rfl rfl ?_
  conv => whnf
  rw [hm]
  refine ⟨by omega, by omega, Int.lt_of_le_of_lt (Int.mul_le_mul (show (rs.length : Int) ≤ 1100000 by omega) (show ((Tryz.prog.bytesOf 9 + 1 : Nat) : Int) ≤ 100 from Int.ofNat_le.2 bytes9) (by omega) (by omega)) (by decide), ?_⟩
  conv => whnf
  refine VLoop.enter [0, 3, 4] ?_
  conv => whnf
  refine VLoop.ind2 (n0 := 1) (α := Int) (β := List (List PV)) noM [0, 3, 4] (fun a E => ⟨22, 0, [(0, .one (.p (.sl (rs.map encS)))), (3, .one (.hs 0 0 rs.length)), (4, vint a)], [(0, some (.arr 1 E))]⟩)
    (fun a E => ∃ i : Nat, a = i ∧ i ≤ rs.length ∧ E = (rs.take i).map encS ++ List.replicate (rs.length - i) (encS ⟨#[]⟩)) (fun a _ => ((rs.length : Int) - a).toNat) ?_ 0 _ ⟨0, rfl, by omega, ?_⟩
  rotate_left
  · rw [List.take_zero, List.map_nil, List.nil_append, Nat.sub_zero]; rfl
  rintro _ _ ⟨i, rfl, hi, rfl⟩
  have hE : ((rs.take i).map encS ++ List.replicate (rs.length - i) (encS ⟨#[]⟩)).length = rs.length := by rw [List.length_append, List.length_map, List.length_take, List.length_replicate]; omega
  conv => whnf
  split
  · rename_i q1
    have q1' := of_decide_eq_true q1
    have hil : i < rs.length := by omega
    have en : (i : Int).toNat = i := Int.toNat_natCast i
    have e0 : 0 + (i : Int).toNat = i := by omega
    have hw : IntKind.i64.wrap ((i : Int) + 1) = i + 1 := wi _ (by omega) (by omega)
    conv => whnf
    refine ⟨by omega, by omega, _, recs_at rs en hil, ?_⟩
    conv => whnf
    refine ⟨by omega, by omega, by rw [hE]; omega, ?_⟩
    conv => whnf
    have hat : ((rs.take i).map encS ++ List.replicate (rs.length - i) (encS ⟨#[]⟩)).getD (0 + (i : Int).toNat) [] = encS ⟨#[]⟩ := by
      rw [e0, List.getD_eq_getElem?_getD, List.getElem?_append_right (by rw [List.length_map, List.length_take]; omega), List.length_map, List.length_take, Nat.min_eq_left hi, Nat.sub_self, List.getElem?_replicate, if_pos (by omega)]
      rfl
    refine ⟨_, hat, by rw [hE]; omega, ?_⟩
    conv => whnf
    refine ⟨_, _, rfl, rfl, ⟨i + 1, by rw [hw]; simp, by omega, ?_⟩, by rw [hw]; omega⟩
    rw [e0]
    have hf := set_fill ((rs.take i).map encS) (rs.length - (i + 1)) (encS ⟨#[]⟩) (encS rs[i])
    rw [List.length_map, List.length_take, Nat.min_eq_left hi, show rs.length - (i + 1) + 1 = rs.length - i by omega] at hf
    rw [List.take_succ_eq_append_getElem hil, List.map_append]
    exact hf
  · rename_i q1
    have q1' := of_decide_eq_false q1
    obtain rfl : i = rs.length := by omega
    conv => whnf
    refine ⟨trivial, ?_⟩
    conv => whnf
    refine ⟨rfl, ?_⟩
    rw [List.take_length, Nat.sub_self, List.replicate_zero, List.append_nil]
    rfl
set_option maxHeartbeats 16000000 in
set_option maxRecDepth 100000 in
theorem eqStringS_same (rs : List ByteArray) (hr : rs.length ≤ 1000000000) : Good Tryz.prog 10 [.one (.p (.sl (rs.map encS))), .one (.p (.sl (rs.map encS)))] [] (vbool true) [] := by
  have hlen : (rs.map encS).length = rs.length := List.length_map ..
  refine good_e noM Tryz.func10 rfl rfl ?_
  conv => whnf
  rw [show ((((rs.map encS).length : Nat) : Int) != (((rs.map encS).length : Nat) : Int)) = false by simp]
  conv => whnf
  refine VLoop.enter [0, 1, 5] ?_
  conv => whnf
  refine VLoop.ind1 (n0 := 0) (α := Int) noM [0, 1, 5] (fun i => ⟨26, 0, [(0, .one (.p (.sl (rs.map encS)))), (1, .one (.p (.sl (rs.map encS)))), (5, vint i)], []⟩)
    (fun i => ∃ j : Nat, i = j ∧ j ≤ rs.length) (fun i => (rs.length - i).toNat) ?_ 0 ⟨0, rfl, by omega⟩
  rintro _ ⟨i, rfl, hi⟩
  conv => whnf
  rw [hlen]
  split
  · rename_i k
    have k' := of_decide_eq_true k
    have hil : i < rs.length := by omega
    have en : (i : Int).toNat = i := Int.toNat_natCast i
    conv => whnf
    refine VDraw.goR [0, 0, 3, 7, 0, 0, 48, 112, 255] [] [] [] rfl (by decide +kernel) ?_
    conv => whnf
    refine ⟨by omega, by rw [hlen]; omega, _, recs_at rs en hil, ?_⟩
    conv => whnf
    refine ⟨by omega, by rw [hlen]; omega, _, recs_at rs en hil, ?_⟩
    conv => whnf
    rw [str_t rfl]
    conv => whnf
    have hw : IntKind.i64.wrap ((i : Int) + 1) = i + 1 := wi _ (by omega) (by omega)
    refine ⟨_, rfl, rfl, ⟨i + 1, by rw [hw]; simp, by omega⟩, by rw [hw]; omega⟩
  · conv => whnf
    refine ⟨trivial, ?_⟩
    conv => whnf
    exact ⟨rfl, rfl⟩
noncomputable def mkd (rs : List ByteArray) : Nat → List ByteArray
  | 0 => rs
  | i + 1 => (mkd rs i).set i (mtext (1 + i))
theorem mkd_len (rs : List ByteArray) (i : Nat) : (mkd rs i).length = rs.length := by
  induction i with
  | zero => rfl
  | succ i ih => show ((mkd rs i).set i _).length = _; rw [List.length_set, ih]
set_option maxHeartbeats 16000000 in
set_option maxRecDepth 100000 in
theorem markStringS_ok (rs : List ByteArray) (hr : rs.length ≤ 10000000) :
    Good Tryz.prog 11 [.one (.hs 0 0 rs.length), vint 1] [.arr 1 (rs.map encS)] (vint (1 + rs.length)) [.arr 1 ((mkd rs rs.length).map encS)] := by
  refine good_e noM Tryz.func11 rfl rfl ?_
  conv => whnf
  refine VLoop.enter [0, 1, 5] ?_
  conv => whnf
  refine VLoop.ind3 (n0 := 1) (α := Int) (β := Int) (γ := List (List PV)) noM [0, 1, 5] (fun a i E => ⟨20, 1, [(0, .one (.hs 0 0 rs.length)), (1, vint a), (5, vint i)], [(0, some (.arr 1 E))]⟩)
    (fun a i E => ∃ n : Nat, i = n ∧ a = 1 + n ∧ n ≤ rs.length ∧ E = (mkd rs n).map encS) (fun _ i _ => (rs.length - i).toNat) ?_ 1 0 _ ⟨0, rfl, by omega, Nat.zero_le _, rfl⟩
  rintro _ _ _ ⟨n, rfl, rfl, hn, rfl⟩
  have hlen : ((mkd rs n).map encS).length = rs.length := by rw [List.length_map, mkd_len]
  conv => whnf
  split
  · rename_i k
    have k' := of_decide_eq_true k
    conv => whnf
    refine .mk _ _ false Tryz.call20 (markText_ok (1 + n) (by omega) (by omega)) (Nat.le_of_ble_eq_true rfl) (.inl rfl) ?_
    conv => whnf
    refine ⟨by omega, by omega, by rw [hlen]; omega, ?_⟩
    conv => whnf
    refine ⟨_, getD_str (mkd rs n) (i := n) (by omega) (by rw [mkd_len]; omega), by rw [hlen]; omega, ?_⟩
    conv => whnf
    have hw1 : IntKind.i64.wrap ((n : Int) + 1) = ((n + 1 : Nat) : Int) := by rw [wrap_in _ (by omega) (by omega)]; omega
    have hw2 : IntKind.i64.wrap (1 + (n : Int) + 1) = 1 + ((n + 1 : Nat) : Int) := by rw [wrap_in _ (by omega) (by omega)]; omega
    refine ⟨_, _, _, rfl, rfl, ⟨n + 1, hw1, hw2, by omega, ?_⟩, by rw [hw1]; omega⟩
    show ((mkd rs n).map encS).set (0 + ((n : Nat) : Int).toNat) (encS (mtext (1 + n))) = ((mkd rs n).set n (mtext (1 + n))).map encS
    rw [List.map_set, show 0 + ((n : Nat) : Int).toNat = n by omega]
  · rename_i k
    have k' := of_decide_eq_false k
    obtain rfl : n = rs.length := by omega
    conv => whnf
    refine ⟨trivial, ?_⟩
    conv => whnf
    exact ⟨rfl, rfl⟩
end Go.Abs.C

set_option linter.unusedSimpArgs false
set_option linter.unusedVariables false
namespace Go.Abs.C
open Go Go.Abs Go.Proofs Go.RowKit
attribute [local irreducible] IntKind.wrap
open Go.Abs.W
theorem sub_tab {α : Type} (n : Nat) (f : Nat → α) : List.take n (List.drop 0 (tab n f)) = tab n f := by rw [List.drop_zero, List.take_of_length_le (by rw [tab_length]; omega)]
def oM : FuncId → Bool := fun f => [12, 11].contains f
set_option maxHeartbeats 16000000 in
set_option maxRecDepth 100000 in
theorem exactOf_law (rs : List ByteArray) (hl : rs.length ≤ 9223372036854775807) (hs : ∀ x ∈ rs, x.size ≤ 9223372036854775807) : ∃ r out, r = vbool true ∧ Good Tryz.prog 3 [.one (.p (.sl (rs.map encS)))] [] r out := by
  refine good_v oM Tryz.func3 rfl rfl ?_
  conv => whnf
  obtain ⟨_, _, ⟨v, rfl, rfl, hv⟩, hg⟩ := szStringS_ex rs hl hs
  refine .mk _ _ false Tryz.call5 hg (Nat.le_of_ble_eq_true rfl) (.inl rfl) ?_
  conv => whnf
  split
  · conv => whnf
    refine ⟨trivial, ?_⟩
    conv => whnf
    rfl
  rename_i q
  obtain ⟨hr, hz⟩ := hv (by have := of_decide_eq_false q; omega)
  have t1 := toStringS_ok rs (by omega)
  have hz2 : ∀ s ∈ rs, s.size ≤ 1100000 := fun s h => Nat.le_trans (hz s h) (by decide)
  have g1 := implOf_ok rs (by omega) hz2
  have g2 := specOf_ok rs (by omega) hz2
  have hsT : ∀ (m : Is) (k : Int), subCat m m.length k = cat m k := fun m k => sub_cat rfl k
  have hneg : decide (1 + (rs.length : Int) < 0) = false := decide_eq_false (by omega)
  conv => whnf
  refine .mk _ _ false Tryz.call7 t1 (Nat.le_of_ble_eq_true rfl) (.inl rfl) ?_
  conv => whnf
  cases hc : catL rs with
  | none =>
    have hpos : 0 < rs.length := by
      rcases Nat.eq_zero_or_pos rs.length with e | e
      · rw [List.length_eq_zero_iff.1 e] at hc; cases hc
      · exact e
    rw [sofR_ne hpos, sofB_ne hpos] at g2
    rw [hc] at g1 g2
    refine ⟨lenR_all rfl, ?_⟩
    rw [takeR_all rfl]
    conv => whnf
    refine .mk _ _ false Tryz.call6 g2 (Nat.le_of_ble_eq_true rfl) (.inr ⟨AV.nsB_iff rfl, fun k hk => by cases hk⟩) ?_
    conv => whnf
    refine .mk _ _ false Tryz.call7 t1 (Nat.le_of_ble_eq_true rfl) (.inl rfl) ?_
    conv => whnf
    refine ⟨lenR_all rfl, ?_⟩
    rw [takeR_all rfl]
    conv => whnf
    refine .mk _ _ false Tryz.call8 g1 (Nat.le_of_ble_eq_true rfl) (.inr ⟨AV.nsB_iff rfl, fun k hk => by cases hk⟩) ?_
    conv => whnf
    refine .mk _ _ false Tryz.call9 eqCat_no (Nat.le_of_ble_eq_true rfl) (.inl rfl) ?_
    conv => whnf
    refine .mk _ _ false Tryz.call7 t1 (Nat.le_of_ble_eq_true rfl) (.inl rfl) ?_
    conv => whnf
    refine ⟨lenR_all rfl, lenR_all rfl, ?_⟩
    rw [takeR_all rfl]
    conv => whnf
    refine .mk _ _ false Tryz.call10 (eqStringS_same rs (by omega)) (Nat.le_of_ble_eq_true rfl) (.inr ⟨AV.nsB_iff rfl, fun k hk => by cases hk⟩) ?_
    conv => whnf
    refine .mk _ _ false Tryz.call11 (markStringS_ok rs (by omega)) (Nat.le_of_ble_eq_true rfl) (.inl rfl) ?_
    conv => whnf
    rw [hneg]
    conv => whnf
    refine .mk _ _ false Tryz.call9 eqCat_no (Nat.le_of_ble_eq_true rfl) (.inl rfl) ?_
    conv => whnf
    refine .mk _ _ false Tryz.call12 markCat_no (Nat.le_of_ble_eq_true rfl) (.inl rfl) ?_
    conv => whnf
    refine .mk _ _ false Tryz.call13 heldCat_no (Nat.le_of_ble_eq_true rfl) (.inl rfl) ?_
    conv => whnf
    refine .mk _ _ false Tryz.call7 t1 (Nat.le_of_ble_eq_true rfl) (.inl rfl) ?_
    conv => whnf
    refine ⟨lenR_all rfl, ?_⟩
    rw [takeR_all rfl]
    conv => whnf
    refine .mk _ _ false Tryz.call8 g1 (Nat.le_of_ble_eq_true rfl) (.inr ⟨AV.nsB_iff rfl, fun k hk => by cases hk⟩) ?_
    conv => whnf
    refine .mk _ _ false Tryz.call9 eqCat_no (Nat.le_of_ble_eq_true rfl) (.inl rfl) ?_
    conv => whnf
    refine .mk _ _ false Tryz.call13 heldCat_no (Nat.le_of_ble_eq_true rfl) (.inl rfl) ?_
    conv => whnf
    refine ⟨trivial, ?_⟩
    conv => whnf
    rfl
  | some c =>
    obtain ⟨l, last⟩ := c
    have p := (catL_ok hc).ok
    simp only at p
    have hl8 := p.len
    rw [hc] at g1
    have hll : 0 + l.length ≤ (l.map encItem).length := by rw [List.length_map]; omega
    have hlt : 0 + l.length ≤ (tab l.length fun k => encItem (mrowItem (1 + 4 * k))).length := by rw [tab_length]; omega
    have hmk := markCat_ok l last (by omega)
    have hhT := heldCat_ok l.length last (by omega)
    rw [← sub_tab] at hhT
    have hneg2 : decide (1 + 4 * (l.length : Int) < 0) = false := decide_eq_false (by omega)
    by_cases hne : 0 < rs.length
    · rw [sofR_ne hne, sofB_ne hne, hc] at g2
      have he : Good Tryz.prog 9 [subCat l l.length last, subCat l l.length last] [] (vbool true) [] := by rw [hsT]; exact eqCat_ok l last (by omega)
      refine ⟨lenR_all rfl, ?_⟩
      rw [takeR_all rfl]
      conv => whnf
      refine .mk _ _ false Tryz.call6 g2 (Nat.le_of_ble_eq_true rfl) (.inr ⟨AV.nsB_iff rfl, arr_noSl _⟩) ?_
      conv => whnf
      refine .mk _ _ false Tryz.call7 t1 (Nat.le_of_ble_eq_true rfl) (.inl rfl) ?_
      conv => whnf
      refine ⟨lenR_all rfl, ?_⟩
      rw [takeR_all rfl]
      conv => whnf
      refine .mk _ _ false Tryz.call8 g1 (Nat.le_of_ble_eq_true rfl) (.inr ⟨AV.nsB_iff rfl, arr_noSl _⟩) ?_
      conv => whnf
      refine ⟨hll, ?_⟩
      conv => whnf
      refine ⟨hll, ?_⟩
      conv => whnf
      refine .mk _ _ false Tryz.call9 he (Nat.le_of_ble_eq_true rfl) (.inr ⟨AV.nsB_iff rfl, fun k hk => by cases hk⟩) ?_
      conv => whnf
      refine .mk _ _ false Tryz.call7 t1 (Nat.le_of_ble_eq_true rfl) (.inl rfl) ?_
      conv => whnf
      refine ⟨lenR_all rfl, lenR_all rfl, ?_⟩
      rw [takeR_all rfl]
      conv => whnf
      refine .mk _ _ false Tryz.call10 (eqStringS_same rs (by omega)) (Nat.le_of_ble_eq_true rfl) (.inr ⟨AV.nsB_iff rfl, fun k hk => by cases hk⟩) ?_
      conv => whnf
      refine .mk _ _ false Tryz.call11 (markStringS_ok rs (by omega)) (Nat.le_of_ble_eq_true rfl) (.inl rfl) ?_
      conv => whnf
      rw [hneg]
      conv => whnf
      refine ⟨hll, ?_⟩
      conv => whnf
      refine ⟨hll, ?_⟩
      conv => whnf
      refine .mk _ _ false Tryz.call9 he (Nat.le_of_ble_eq_true rfl) (.inr ⟨AV.nsB_iff rfl, fun k hk => by cases hk⟩) ?_
      conv => whnf
      refine .mk _ _ false Tryz.call12 hmk (Nat.le_of_ble_eq_true rfl) (.inl rfl) ?_
      conv => whnf
      refine ⟨hlt, ?_⟩
      conv => whnf
      refine .mk _ _ false Tryz.call13 hhT (Nat.le_of_ble_eq_true rfl) (.inr ⟨AV.nsB_iff rfl, fun k hk => by cases hk⟩) ?_
      conv => whnf
      split
      · rename_i q; simp at q
      conv => whnf
      refine .mk _ _ false Tryz.call7 t1 (Nat.le_of_ble_eq_true rfl) (.inl rfl) ?_
      conv => whnf
      refine ⟨lenR_all rfl, ?_⟩
      rw [takeR_all rfl]
      conv => whnf
      refine .mk _ _ false Tryz.call8 g1 (Nat.le_of_ble_eq_true rfl) (.inr ⟨AV.nsB_iff rfl, arr_noSl _⟩) ?_
      conv => whnf
      refine ⟨hll, ?_⟩
      conv => whnf
      refine ⟨hll, ?_⟩
      conv => whnf
      refine .mk _ _ false Tryz.call9 he (Nat.le_of_ble_eq_true rfl) (.inr ⟨AV.nsB_iff rfl, fun k hk => by cases hk⟩) ?_
      conv => whnf
      refine ⟨hlt, ?_⟩
      conv => whnf
      refine .mk _ _ false Tryz.call13 hhT (Nat.le_of_ble_eq_true rfl) (.inr ⟨AV.nsB_iff rfl, fun k hk => by cases hk⟩) ?_
      conv => whnf
      split
      · rename_i q; simp at q
      conv => whnf
      refine ⟨trivial, ?_⟩
      conv => whnf
      rfl
    · have e : rs = [] := List.length_eq_zero_iff.1 (by omega)
      have e2 : l = [] ∧ last = 0 := by rw [e] at hc; cases hc; exact ⟨rfl, rfl⟩
      replace g2 : Good Tryz.prog 6 [.one (.p (.sl (rs.map encS)))] [] (.tup [noCatK last, vbool true]) [] := by
        rw [e2.2]
        rw [e] at g2 ⊢
        exact g2
      have he : Good Tryz.prog 9 [subCat l l.length last, noCatK last] [] (vbool true) [] := by
        rw [hsT, e2.1]
        exact good_nil2K (eqCat_ok [] last (by decide))
      refine ⟨lenR_all rfl, ?_⟩
      rw [takeR_all rfl]
      conv => whnf
      refine .mk _ _ false Tryz.call6 g2 (Nat.le_of_ble_eq_true rfl) (.inr ⟨AV.nsB_iff rfl, fun k hk => by cases hk⟩) ?_
      conv => whnf
      refine .mk _ _ false Tryz.call7 t1 (Nat.le_of_ble_eq_true rfl) (.inl rfl) ?_
      conv => whnf
      refine ⟨lenR_all rfl, ?_⟩
      rw [takeR_all rfl]
      conv => whnf
      refine .mk _ _ false Tryz.call8 g1 (Nat.le_of_ble_eq_true rfl) (.inr ⟨AV.nsB_iff rfl, arr_noSl _⟩) ?_
      conv => whnf
      refine ⟨hll, ?_⟩
      conv => whnf
      refine .mk _ _ false Tryz.call9 he (Nat.le_of_ble_eq_true rfl) (.inr ⟨AV.nsB_iff rfl, fun k hk => by cases hk⟩) ?_
      conv => whnf
      refine .mk _ _ false Tryz.call7 t1 (Nat.le_of_ble_eq_true rfl) (.inl rfl) ?_
      conv => whnf
      refine ⟨lenR_all rfl, lenR_all rfl, ?_⟩
      rw [takeR_all rfl]
      conv => whnf
      refine .mk _ _ false Tryz.call10 (eqStringS_same rs (by omega)) (Nat.le_of_ble_eq_true rfl) (.inr ⟨AV.nsB_iff rfl, fun k hk => by cases hk⟩) ?_
      conv => whnf
      refine .mk _ _ false Tryz.call11 (markStringS_ok rs (by omega)) (Nat.le_of_ble_eq_true rfl) (.inl rfl) ?_
      conv => whnf
      rw [hneg]
      conv => whnf
      refine ⟨hll, ?_⟩
      conv => whnf
      refine .mk _ _ false Tryz.call9 he (Nat.le_of_ble_eq_true rfl) (.inr ⟨AV.nsB_iff rfl, fun k hk => by cases hk⟩) ?_
      conv => whnf
      refine .mk _ _ false Tryz.call12 hmk (Nat.le_of_ble_eq_true rfl) (.inl rfl) ?_
      conv => whnf
      refine ⟨hlt, ?_⟩
      conv => whnf
      refine .mk _ _ false Tryz.call13 hhT (Nat.le_of_ble_eq_true rfl) (.inr ⟨AV.nsB_iff rfl, fun k hk => by cases hk⟩) ?_
      conv => whnf
      split
      · rename_i q; simp at q
      conv => whnf
      refine .mk _ _ false Tryz.call7 t1 (Nat.le_of_ble_eq_true rfl) (.inl rfl) ?_
      conv => whnf
      refine ⟨lenR_all rfl, ?_⟩
      rw [takeR_all rfl]
      conv => whnf
      refine .mk _ _ false Tryz.call8 g1 (Nat.le_of_ble_eq_true rfl) (.inr ⟨AV.nsB_iff rfl, arr_noSl _⟩) ?_
      conv => whnf
      refine ⟨hll, ?_⟩
      conv => whnf
      refine .mk _ _ false Tryz.call9 he (Nat.le_of_ble_eq_true rfl) (.inr ⟨AV.nsB_iff rfl, fun k hk => by cases hk⟩) ?_
      conv => whnf
      refine ⟨hlt, ?_⟩
      conv => whnf
      refine .mk _ _ false Tryz.call13 hhT (Nat.le_of_ble_eq_true rfl) (.inr ⟨AV.nsB_iff rfl, fun k hk => by cases hk⟩) ?_
      conv => whnf
      split
      · rename_i q; simp at q
      conv => whnf
      refine ⟨trivial, ?_⟩
      conv => whnf
      rfl
theorem fnExactCatOf_good (rs : List ByteArray) (ok : rs.length ≤ 9223372036854775807 ∧ ∀ x ∈ rs, x.size ≤ 9223372036854775807) :
    ∃ r out, r = vbool true ∧ Good Tryz.prog 3 [.one (.p (.sl (rs.map encS)))] [] r out := exactOf_law rs ok.1 ok.2
end Go.Abs.C
