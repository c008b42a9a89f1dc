import Derived.Test.YtbpmfdpbgcpjeaaDoorMOf
set_option linter.unusedSimpArgs false
set_option linter.unusedVariables false
namespace Go.Abs.C
open Go Go.Abs Go.Proofs Go.RowKit
attribute [local irreducible] IntKind.wrap
open Go.Abs.W
theorem getD_str (L : List ByteArray) {j i : Nat} (e : j = i) (h : i < L.length) : (L.map encS).getD j [] = [.lit (.string (L.getD i ⟨#[]⟩))] := by
  rw [e, List.getD_eq_getElem?_getD, List.getElem?_map, List.getElem?_eq_getElem h, List.getD_eq_getElem?_getD, List.getElem?_eq_getElem h]; rfl
theorem five_size {a b c d e : ByteArray} (ha : a.size ≤ 200000) (hb : b.size ≤ 200000) (hc : c.size ≤ 200000) (hd : d.size ≤ 200000) (he : e.size ≤ 200000) (i : Nat) : (([a, b, c, d, e] : List ByteArray).getD i ⟨#[]⟩).size ≤ 200000 := by
  rcases i with _ | _ | _ | _ | _ | i
  · exact ha
  · exact hb
  · exact hc
  · exact hd
  · exact he
  · exact Nat.zero_le _
set_option maxHeartbeats 16000000 in
set_option maxRecDepth 100000 in
theorem drawRec_ok (bs0 : List Int) (hb0 : ∀ x ∈ bs0, 0 ≤ x ∧ x ≤ 255) (hl0 : bs0.length ≤ 9223372036854775807) :
    ∃ r out, (∃ (h : Int) (n t : ByteArray), n.size ≤ 1000 ∧ t.size ≤ 200000 ∧ r = .tup [vint h, vstr n, vstr t] ∧ out = []) ∧ Good Tryd.prog 7 [.one (.p (.sl (bs0.map encU)))] [] r out := by
  refine good_v noM Tryd.func7 rfl rfl ?_
  conv => whnf
  obtain ⟨_, _, ⟨bs, hb, rfl, rfl⟩, hg⟩ := l1Open_ok bs0 hb0 hl0
  refine .mk _ _ true Tryd.call15 hg (Nat.le_of_ble_eq_true rfl) (fun b hb => Nat.zero_le _) ?_
  conv => whnf
  refine VDraw.goR [0, 0, 2, 6, 14, 31, 63, 0, 0, 390, 902, 1926, 3974, 0, 12166, 32646, 65414, 28671, 159743, 524287] [0, 2, 8, 9, 10, 11, 12, 14] [(9, [8])] [(2, [32]), (9, [32]), (14, [32])] rfl (by decide +kernel) ?_
  conv => whnf
  obtain ⟨_, _, ⟨v1, hv10, hv11, rfl, rfl⟩, hg1⟩ := pick_ok bs 0 18 hb.rng hb.len (by omega) (by omega) (by omega) (by omega)
  refine .mk _ _ false Tryd.call16 hg1 (Nat.le_of_ble_eq_true rfl) (.inl rfl) ?_
  conv => whnf
  have hd1 : IntKind.i64.wrap ((IntKind.i64.wrap (v1 * 6)).tdiv 18) = v1 * 6 / 18 := by
    rw [wi (v1 * 6) (by omega) (by omega), Int.tdiv_eq_ediv_of_nonneg (by omega), wi _ (by omega) (by omega)]
  rw [hd1]
  have ei1 : 0 + (v1 * 6 / 18).toNat = (v1 * 6 / 18).toNat := by omega
  refine ⟨by omega, by omega, Nat.le_refl 6, ?_⟩
  conv => whnf
  refine ⟨_, getD_int [0, 1, 0, 1, 2, -1] ei1 (by simp; omega), ?_⟩
  conv => whnf
  refine ⟨Nat.le_refl 6, ?_⟩
  conv => whnf
  obtain ⟨_, _, ⟨s, hs, rfl, rfl⟩, hg2⟩ := of_ok bs (0 + 1) [⟨#[97]⟩, ⟨#[99, 99]⟩, ⟨#[98]⟩, ⟨#[100, 100]⟩, ⟨#[]⟩, ⟨#[65]⟩] hb (by omega) (by omega) (by decide) (by decide)
  have hs2 : s.size ≤ 1000 := by
    simp only [List.mem_cons, List.not_mem_nil, or_false] at hs
    rcases hs with rfl | rfl | rfl | rfl | rfl | rfl <;> decide
  refine .mk _ _ true Tryd.call17 hg2 (Nat.le_of_ble_eq_true rfl) (fun b hb => by cases List.mem_singleton.1 hb; exact Nat.le_of_ble_eq_true rfl) ?_
  conv => whnf
  obtain ⟨_, _, ⟨t1, rfl, ht1, rfl⟩, hg3⟩ := l1Many_ok ⟨#[116]⟩ 300 (by decide) (by decide)
  refine .mk _ _ false Tryd.call18 hg3 (Nat.le_of_ble_eq_true rfl) (.inl rfl) ?_
  conv => whnf
  obtain ⟨_, _, ⟨t2, rfl, ht2, rfl⟩, hg4⟩ := l1Many_ok ⟨#[116]⟩ 301 (by decide) (by decide)
  refine .mk _ _ false Tryd.call18 hg4 (Nat.le_of_ble_eq_true rfl) (.inl rfl) ?_
  conv => whnf
  obtain ⟨_, _, ⟨v5, hv50, hv51, rfl, rfl⟩, hg5⟩ := pick_ok bs (0 + 1 + 1) 5 hb.rng hb.len (by omega) (by omega) (by omega) (by omega)
  refine .mk _ _ false Tryd.call16 hg5 (Nat.le_of_ble_eq_true rfl) (.inl rfl) ?_
  conv => whnf
  have ei5 : 0 + v5.toNat = v5.toNat := by omega
  refine ⟨by omega, by omega, Nat.le_refl 5, ?_⟩
  conv => whnf
  refine ⟨_, getD_str [⟨#[]⟩, ⟨#[116, 101, 120, 116]⟩, ⟨#[97, 58, 98, 10]⟩, t1, t2] ei5 (by show _ < 5; omega), ?_⟩
  conv => whnf
  refine ⟨trivial, ?_⟩
  conv => whnf
  exact ⟨_, s, _, hs2, five_size (by decide) (by decide) (by decide) (Nat.le_trans ht1 (by decide)) (Nat.le_trans ht2 (by decide)) v5.toNat, rfl, rfl⟩
theorem putOne {h : Int} {n t : ByteArray} (q : recOk h n t = true) (ht : (t.toList == (ByteArray.mk #[]).toList) = false) : putC [] 0 h n t = ([⟨h, n, 1, t⟩], 1, 0) := by
  have h3 := (recOk_iff.1 q).2.2
  unfold putC
  rw [some_t h n ht, q]
  have e1 : findI (fun x => same x h n) ([] : Is) = -1 := rfl
  have e2 : (decide (([] : Is).length ≥ 8) || (decide ((0 : Int) ≥ 99999) || decide (bytesOf ([] : Is) h + t.size > 500))) = false := by
    have e3 : bytesOf ([] : Is) h + t.size = t.size := Nat.zero_add _
    rw [e3, decide_eq_false (show ¬ t.size > 500 by omega)]; rfl
  simp only [e1]
  rw [e2]
  rfl
theorem takeOne (h : Int) (n t : ByteArray) (k : Int) : takeC [⟨h, n, k, t⟩] 1 h n = ([], 1, 0) := by
  have e1 : findI (fun x => same x h n) [⟨h, n, k, t⟩] = 0 := findI_at (l := [⟨h, n, k, t⟩]) (i := 0) Nat.zero_lt_one (fun k hk => by omega) (same_self ⟨h, n, k, t⟩)
  unfold takeC
  rw [e1]; rfl
structure RecF (s s2 : ByteArray) (h : Int) (n t : ByteArray) (X : Is) (k1 : Int) : Prop where
  c1 : catL [s] = some (X, k1)
  ok : CatP X k1
  fd : findI (fun x => same x h n) X = 0
  it : (ia X 0).d = t
  c2 : catL [s, s2] = some ([], 1)
theorem recF {s s2 : ByteArray} {h : Int} {n t : ByteArray} (P : RecP s h n t) (P2 : RecP s2 h n ⟨#[]⟩) (ht : (t.toList == (ByteArray.mk #[]).toList) = false) : RecF s s2 h n t [⟨h, n, 1, t⟩] 1 := by
  have e1 : doC [] 0 (h, n, t) = putC [] 0 h n t := by unfold doC; simp only [ht]
  have c1 : catL [s] = some ([⟨h, n, 1, t⟩], 1) := by
    show doesO ([], 0) s = _
    rw [doesO_of (q := (h, n, t)) P]
    show (if (doC [] 0 (h, n, t)).2.2 = 0 then _ else _) = _
    rw [e1, putOne P.ok ht]; rfl
  have e2 : doC [⟨h, n, 1, t⟩] 1 (h, n, ⟨#[]⟩) = takeC [⟨h, n, 1, t⟩] 1 h n := by
    show (match (ByteArray.mk #[]).toList == (ByteArray.mk #[]).toList with | true => _ | false => _) = _
    rw [str_t rfl]
  refine ⟨c1, (catL_ok c1).ok, findI_at (l := [⟨h, n, 1, t⟩]) (i := 0) Nat.zero_lt_one (fun k hk => by omega) (same_self ⟨h, n, 1, t⟩), rfl, ?_⟩
  have := catL_snoc [s] s2
  rw [c1] at this
  refine this.trans ?_
  show doesO ([⟨h, n, 1, t⟩], 1) s2 = _
  rw [doesO_of (q := (h, n, ⟨#[]⟩)) P2]
  show (if (doC [⟨h, n, 1, t⟩] 1 (h, n, ⟨#[]⟩)).2.2 = 0 then _ else _) = _
  rw [e2, takeOne]; rfl
set_option maxHeartbeats 16000000 in
set_option maxRecDepth 100000 in
theorem catRec_law (bs : List Int) (hb : ∀ x ∈ bs, 0 ≤ x ∧ x ≤ 255) (hl : bs.length ≤ 9223372036854775807) : ∃ r out, r = vbool true ∧ Good Tryd.prog 4 [.one (.p (.sl (bs.map encU)))] [] r out := by
  refine good_v noM Tryd.func4 rfl rfl ?_
  conv => whnf
  split
  · conv => whnf
    refine ⟨trivial, ?_⟩
    conv => whnf
    rfl
  conv => whnf
  obtain ⟨_, _, ⟨h, n, t, hn, ht, rfl, rfl⟩, hg⟩ := drawRec_ok bs hb hl
  refine .mk _ _ false Tryd.call7 hg (Nat.le_of_ble_eq_true rfl) (.inl rfl) ?_
  conv => whnf
  obtain ⟨s, hS⟩ : ∃ s, s = recS h n t := ⟨_, rfl⟩
  have gi := implRec_ok h n t (by omega) (by omega)
  have gs := specRec_ok h n t (by omega) (by omega)
  rw [← hS] at gi gs
  refine .mk _ _ false Tryd.call6 gi (Nat.le_of_ble_eq_true rfl) (.inl rfl) ?_
  conv => whnf
  refine .mk _ _ false Tryd.call5 gs (Nat.le_of_ble_eq_true rfl) (.inl rfl) ?_
  conv => whnf
  rw [str_t rfl]
  conv => whnf
  cases e0 : (s.toList == (ByteArray.mk #[]).toList) with
  | true =>
    conv => whnf
    refine .mk _ _ false Tryd.call5 gs (Nat.le_of_ble_eq_true rfl) (.inl rfl) ?_
    conv => whnf
    refine ⟨trivial, ?_⟩
    conv => whnf
    exact congrArg vbool (str_t rfl)
  | false =>
  conv => whnf
  cases et : (t.toList == (ByteArray.mk #[]).toList) with
  | true =>
    conv => whnf
    refine .mk _ _ false Tryd.call5 gs (Nat.le_of_ble_eq_true rfl) (.inl rfl) ?_
    conv => whnf
    refine ⟨trivial, ?_⟩
    conv => whnf
    exact congrArg vbool (str_t rfl)
  | false =>
  have hne : s ≠ ⟨#[]⟩ := fun e => by rw [e] at e0; simp at e0
  have P := recS_some hne hS.symm
  obtain ⟨s2, hS2⟩ : ∃ s2, s2 = recS h n ⟨#[]⟩ := ⟨_, rfl⟩
  have P2 : RecP s2 h n ⟨#[]⟩ := ⟨P.hh, P.nn, Nat.zero_le _, by rw [hS2]; unfold recS; rw [recOk_iff.2 ⟨P.hh, P.nn, Nat.zero_le _⟩]⟩
  obtain ⟨X, k1, F⟩ : ∃ X k1, RecF s s2 h n t X k1 := ⟨_, _, recF P P2 et⟩
  obtain ⟨k2, hk2⟩ : ∃ k2 : Int, k2 = 1 := ⟨1, rfl⟩
  have g2 := implRec_ok h n ⟨#[]⟩ (by omega) (Nat.zero_le _)
  rw [← hS2] at g2
  have o1 := implOf_ok [s] (show 1 ≤ 1100000 by decide) (fun x hx => by rw [List.mem_singleton.1 hx]; have := P.size; omega)
  have o2 := implOf_ok [s, s2] (show 2 ≤ 1100000 by decide) (fun x hx => by
    simp only [List.mem_cons, List.not_mem_nil, or_false] at hx
    rcases hx with rfl | rfl
    · have := P.size; omega
    · have := P2.size; omega)
  rw [F.c1] at o1
  rw [F.c2, ← hk2] at o2
  have hsT : ∀ (m : Is) (k : Int), subCat m m.length k = cat m k := fun m k => sub_cat rfl k
  have hX8 := F.ok.len
  have hn2 : n.size ≤ 9223372036854775807 := by omega
  have gX : Good Tryd.prog 9 [subCat X X.length k1, vint h, vstr n] [] (.tup [.agg ((encItem (ia X 0)).map .p), vbool true]) [] := by
    rw [hsT]
    have := get_yes X k1 h n F.ok (by rw [F.fd]; decide)
    rw [F.fd] at this
    exact this
  have pN : CatP [] k2 := by rw [hk2]; exact (catL_ok F.c2).ok
  have gN : Good Tryd.prog 9 [subCat [] 0 k2, vint h, vstr n] [] gotNo [] := by
    have := get_no [] k2 h n pN (show (-1 : Int) < 0 by decide)
    rw [← hsT [] k2] at this; exact this
  conv => whnf
  refine ⟨Nat.le_refl 1, ?_⟩
  conv => whnf
  refine .mk _ _ false Tryd.call8 o1 (Nat.le_of_ble_eq_true rfl) (.inr ⟨AV.nsB_iff rfl, arr_noSl _⟩) ?_
  conv => whnf
  refine ⟨(show 0 + X.length ≤ (X.map encItem).length by rw [List.length_map]; omega), ?_⟩
  conv => whnf
  refine .mk _ _ false Tryd.call9 gX (Nat.le_of_ble_eq_true rfl) (.inr ⟨AV.nsB_iff rfl, fun k hk => by cases hk⟩) ?_
  conv => whnf
  refine .mk _ _ false Tryd.call6 g2 (Nat.le_of_ble_eq_true rfl) (.inl rfl) ?_
  conv => whnf
  refine ⟨Nat.le_refl 2, ?_⟩
  conv => whnf
  refine .mk _ _ false Tryd.call8 o2 (Nat.le_of_ble_eq_true rfl) (.inr ⟨AV.nsB_iff rfl, arr_noSl _⟩) ?_
  conv => whnf
  refine ⟨Nat.le_refl _, ?_⟩
  conv => whnf
  refine .mk _ _ false Tryd.call9 gN (Nat.le_of_ble_eq_true rfl) (.inr ⟨AV.nsB_iff rfl, fun k hk => by cases hk⟩) ?_
  conv => whnf
  rw [str_t F.it]
  conv => whnf
  refine ⟨trivial, ?_⟩
  conv => whnf
  exact congrArg vbool (beq_iff_eq.2 hk2)
theorem fnCatRecord_good (bs : List Int) (ok : bs.length ≤ 9223372036854775807 ∧ ∀ x ∈ bs, (Lit.int .u8 x).wf = true) :
    ∃ r out, r = vbool true ∧ Good Tryd.prog 4 [.one (.p (.sl (bs.map encU)))] [] r out :=
  catRec_law bs (fun x hx => u8_rng (ok.2 x hx)) ok.1
end Go.Abs.C
