import Derived.Test.YtlfnjkcgefcidaaGDraw2
set_option linter.unusedSimpArgs false
set_option linter.unusedVariables false
namespace Go.Abs.B
open Go Go.Abs Go.Proofs
attribute [local irreducible] IntKind.wrap
theorem sub_pool {l : Fs} {n : Nat} (hn : n = l.length) (h : Int) : subPool l n h = pool l h := by unfold subPool pool; rw [sub_all hn]
theorem sub_at (l : Fs) (lo n : Nat) (h : Int) : subAt l lo n h = pool ((l.drop lo).take n) h := by unfold subAt pool; rw [← List.map_drop, ← List.map_take]
theorem takeP_bad {l : Fs} {h : Nat} {ho e b : Int} (hc : ¬ ((takeP l h ho e b).2.2.2 = 0 ∨ (takeP l h ho e b).2.2.2 = 1)) : takeP l h ho e b = (l, h, 0, (takeP l h ho e b).2.2.2) ∧ ((takeP l h ho e b).2.2.2 = 2 ∨ (takeP l h ho e b).2.2.2 = 3) := by
  unfold takeP at hc ⊢
  split
  · exact ⟨rfl, .inr rfl⟩
  · rename_i g
    rw [g] at hc; simp only at hc
    unfold takeS at hc ⊢
    split
    · rename_i g1
      simp only [g1] at hc ⊢
      split
      · exact ⟨rfl, .inr rfl⟩
      · rename_i g2; simp only [g2] at hc; exact absurd (Or.inl trivial) hc
    · rename_i g1
      simp only [g1] at hc ⊢
      split
      · exact ⟨rfl, .inl rfl⟩
      · rename_i g2; simp only [g2] at hc; exact absurd (Or.inr trivial) hc
theorem takeP_good {l : Fs} {h : Nat} {ho e b : Int} (p : PoolOkP l h) (hc : (takeP l h ho e b).2.2.2 = 0 ∨ (takeP l h ho e b).2.2.2 = 1) : Took l h ho e b (takeP l h ho e b) ∧ inR ho 0 1 = true ∧ inR e 1 99999 = true ∧ inR b 0 23 = true ∧ takeP l h ho e b = takeS l h ho e b := by
  unfold takeP at hc ⊢
  cases g : (inR ho 0 1 && inR e 1 99999 && inR b 0 23) with
  | false => rw [g] at hc; simp at hc
  | true =>
    rw [g] at hc
    simp only [Bool.and_eq_true] at g
    exact ⟨take_took p g.1.1 g.1.2 g.2 hc, g.1.1, g.1.2, g.2, rfl⟩
theorem poolOk_of {l : Fs} {h : Int} (hp : poolOk l h = true) : PoolOkP l h := by
  unfold poolOk at hp; exact @of_decide_eq_true _ (Classical.propDecidable _) hp
theorem ofP_ok {l : Fs} {h : Int} {ho : Int} (p : PoolOkP l h) : ofP l h ho = cnt ho l := by unfold ofP; rw [poolOk_true p]
theorem hand_nn {l : Fs} {h : Int} (p : PoolOkP l h) : 0 ≤ h := (inR_iff.1 p.hand).1
theorem takeP_len {l : Fs} {h : Nat} {ho e b : Int} (p : PoolOkP l h) : (takeP l h ho e b).1.length = 8 := by
  unfold takeP
  split
  · exact p.len
  · rename_i g
    simp only [Bool.and_eq_true] at g
    exact (take_keeps p g.1.1 g.1.2 g.2).len
set_option maxHeartbeats 16000000 in
set_option maxRecDepth 100000 in
theorem poolTake_law (bs : List Int) (hb : ∀ x ∈ bs, 0 ≤ x ∧ x ≤ 255) (hl : bs.length ≤ 9223372036854775807) : ∃ r out, r = vbool true ∧ Good Try.prog 11 [.one (.p (.sl (bs.map encU)))] [] r out := by
  refine good_v noM Try.func11 rfl rfl ?_
  conv => whnf
  split
  · conv => whnf
    refine ⟨trivial, ?_⟩
    conv => whnf
    rfl
  · conv => whnf
    obtain ⟨_, _, ⟨l, lo, n, h, ho, e, b, hln, hl8, rfl, rfl⟩, hg⟩ := drawTake_ok bs hb hl
    refine .mk _ _ false Try.call33 hg (Nat.le_of_ble_eq_true rfl) (.inl rfl) ?_
    conv => whnf
    have hm8 : ((l.drop lo).take n).length ≤ 8 := by rw [List.length_take, List.length_drop]; omega
    have hlm : (l.map encFrame).length = l.length := by rw [List.length_map]
    have hsub := sub_at l lo n h
    have hmn : ((l.drop lo).take n).length = n := by rw [List.length_take, List.length_drop]; omega
    have hat : ∀ i, i < n → at' l (lo + i) = at' ((l.drop lo).take n) i := by
      intro i hi
      unfold at'
      rw [List.getD_eq_getElem?_getD, List.getD_eq_getElem?_getD, List.getElem?_take, if_pos hi, List.getElem?_drop]
    generalize (l.drop lo).take n = m at hm8 hsub hmn hat
    refine ⟨by omega, ?_⟩
    conv => whnf
    cases hp : poolOk m h with
    | false =>
      have hgi := implTake_bad m h ho e b (by omega) hp
      have hgs := specTake_bad m h ho e b (by omega) hp
      have oki := implOk_ok m h (by omega)
      have oks := specOk_ok m h (by omega)
      rw [hp] at oki oks
      rw [← hsub] at hgi hgs oki oks
      refine .mk _ _ false Try.call32 hgi (Nat.le_of_ble_eq_true rfl) (.inr ⟨AV.nsB_iff rfl, fun k hk => by cases hk⟩) ?_
      conv => whnf
      refine ⟨by omega, ?_⟩
      conv => whnf
      refine .mk _ _ false Try.call34 hgs (Nat.le_of_ble_eq_true rfl) (.inr ⟨AV.nsB_iff rfl, fun k hk => by cases hk⟩) ?_
      conv => whnf
      refine VDraw.go ⟨336, [0, 0, 3, 7, 15, 15, 63, 127, 255, 511, 511, 2047, 4095, 8191, 16383, 32767, 65535, 32767, 262143, 524287, 1048575], [11, 16, 18], []⟩ rfl rfl (by decide +kernel) ?_
      conv => whnf
      refine .mk _ _ false Try.call25 whPool_bad (Nat.le_of_ble_eq_true rfl) (.inl rfl) ?_
      conv => whnf
      refine ⟨by omega, ?_⟩
      conv => whnf
      refine .mk _ _ false Try.call18 oki (Nat.le_of_ble_eq_true rfl) (.inr ⟨AV.nsB_iff rfl, fun k hk => by cases hk⟩) ?_
      conv => whnf
      refine ⟨by omega, ?_⟩
      conv => whnf
      refine .mk _ _ false Try.call16 oks (Nat.le_of_ble_eq_true rfl) (.inr ⟨AV.nsB_iff rfl, fun k hk => by cases hk⟩) ?_
      conv => whnf
      refine ⟨by omega, ?_⟩
      conv => whnf
      refine .mk _ _ false Try.call16 oks (Nat.le_of_ble_eq_true rfl) (.inr ⟨AV.nsB_iff rfl, fun k hk => by cases hk⟩) ?_
      conv => whnf
      refine ⟨trivial, ?_⟩
      conv => whnf
      rfl
    | true =>
      have hok := poolOk_of hp
      obtain ⟨hn, rfl⟩ := Int.eq_ofNat_of_zero_le (hand_nn hok)
      have hgi := implTake_ok m hn ho e b hok
      have hgs := specTake_ok m hn ho e b hok
      have oki := implOk_ok m hn (by omega)
      have oks := specOk_ok m hn (by omega)
      rw [hp] at oki oks
      rw [← hsub] at hgi hgs oki oks
      refine .mk _ _ false Try.call32 hgi (Nat.le_of_ble_eq_true rfl) (.inr ⟨AV.nsB_iff rfl, arr_noSl _⟩) ?_
      conv => whnf
      refine ⟨by omega, ?_⟩
      conv => whnf
      refine .mk _ _ false Try.call34 hgs (Nat.le_of_ble_eq_true rfl) (.inr ⟨AV.nsB_iff rfl, arr_noSl _⟩) ?_
      conv => whnf
      have hbad := @takeP_bad m hn ho e b
      have hgood := @takeP_good m hn ho e b hok
      have hT8 : (takeP m hn ho e b).1.length = 8 := takeP_len hok
      generalize takeP m hn ho e b = T at hbad hgood hT8 ⊢
      have hsT : ∀ h', subPool T.1 8 h' = pool T.1 h' := fun h' => sub_pool hT8.symm h'
      have wh := whPool_ok T.1 T.1 T.2.1 T.2.1 (by omega)
      rw [same_true ⟨rfl, rfl⟩, ← hsT] at wh
      refine VDraw.go ⟨336, [0, 0, 3, 7, 15, 15, 63, 127, 255, 511, 511, 2047, 4095, 8191, 16383, 32767, 65535, 32767, 262143, 524287, 1048575], [11, 16, 18], []⟩ rfl rfl (by decide +kernel) ?_
      conv => whnf
      obtain ⟨L, h', f, c⟩ := T
      simp only at hbad hgood hT8 hsT wh
      have hLm : (L.map encFrame).length = 8 := by rw [List.length_map]; exact hT8
      split
      · rename_i k1; simp at k1
      conv => whnf
      split
      · rename_i k1; simp at k1
      conv => whnf
      refine ⟨(show 0 + 8 ≤ (L.map encFrame).length by omega), ?_⟩
      conv => whnf
      refine ⟨(show 0 + 8 ≤ (L.map encFrame).length by omega), ?_⟩
      conv => whnf
      refine .mk _ _ false Try.call25 wh (Nat.le_of_ble_eq_true rfl) (.inr ⟨AV.nsB_iff rfl, fun k hk => by cases hk⟩) ?_
      conv => whnf
      refine ⟨by omega, ?_⟩
      conv => whnf
      refine .mk _ _ false Try.call18 oki (Nat.le_of_ble_eq_true rfl) (.inr ⟨AV.nsB_iff rfl, fun k hk => by cases hk⟩) ?_
      conv => whnf
      refine ⟨by omega, ?_⟩
      conv => whnf
      refine .mk _ _ false Try.call16 oks (Nat.le_of_ble_eq_true rfl) (.inr ⟨AV.nsB_iff rfl, fun k hk => by cases hk⟩) ?_
      conv => whnf
      by_cases hc : c = 0 ∨ c = 1
      · obtain ⟨hT, g1, g2, g3, hS⟩ := hgood hc
        clear hgood hbad
        have hf0 := hT.lo
        have hf1 := hT.hi
        simp only at hf0 hf1
        have ef : 0 + f.toNat = f.toNat := by omega
        rcases hc with rfl | rfl
        all_goals
          conv => whnf
          refine ⟨(by omega), (by show f < 8; omega), (show 0 + 8 ≤ (L.map encFrame).length by omega), ?_⟩
          conv => whnf
          refine ⟨_, getD_at L ef (by omega), ?_⟩
          conv => whnf
          refine VLoop.enter [3, 4, 5, 6, 7, 13, 14] ?_
          conv => whnf
          refine VLoop.ind1 (n0 := 5) (α := Int) noM [3, 4, 5, 6, 7, 13, 14] (fun i => ⟨177, 0, [(3, .one (.hp 0 0 0)), (4, vint ho), (5, vint e), (6, vint b), (7, .one (.hp 1 0 0)), (13, .one (.hp 2 0 0)), (14, vint i)],
              [(0, some (.box [.hs 3 lo n, .p (.lit (.int .i64 hn))])), (1, some (.box [.hs 4 0 8, .p (.lit (.int .i64 h'))])), (2, some (.box ((encFrame (at' L f.toNat)).map AC.p))), (3, some (.arr 5 (l.map encFrame))), (4, some (.arr 5 (L.map encFrame)))]⟩)
            (fun i => 0 ≤ i ∧ i ≤ 8) (fun i => ((8 : Int) - i).toNat) ?_ 0 ⟨by omega, by omega⟩
          rintro i ⟨hi0, hi1⟩
          have hw : IntKind.i64.wrap (i + 1) = i + 1 := wi _ (by omega) (by omega)
          conv => whnf
          split
          · rename_i k1
            have k1' := of_decide_eq_true k1
            have e1 : lo + i.toNat = lo + i.toNat := rfl
            have e2 : 0 + i.toNat = i.toNat := by omega
            have hq := hat i.toNat (by omega)
            have hst := hT.stay i.toNat (by omega)
            conv => whnf
            refine VDraw.go ⟨45, [0, 1, 0, 7, 15, 31, 63, 127, 255, 511, 255, 2047, 4095, 8191, 255, 16639, 255, 114943, 246015, 508159, 1048575, 2097151, 4194303, 8388607, 4194303, 33554431, 67108863, 134217727, 4194303, 272629759, 4194303, 1883242495, 4030726143, 8325693439, 17179869183, 34359738367, 68719476735, 137438953471, 274877906943, 137438953471, 1099511627775, 2199023255551, 4398046511103, 137438953471, 8933531975679, 137438953471, 61710090108927, 132078834286591, 272816322641919, 562949953421311, 1125899906842623, 2251799813685247], [], []⟩ rfl rfl (by decide +kernel) ?_
            conv => whnf
            refine ⟨by omega, by omega, by omega, ?_⟩
            conv => whnf
            refine ⟨_, getD_at l e1 (by omega), ?_⟩
            conv => whnf
            have hst : (at' l (lo + i.toNat)).d > 0 → (at' L i.toNat).b = (at' l (lo + i.toNat)).b ∧ (at' L i.toNat).c = (at' l (lo + i.toNat)).c ∧ (at' l (lo + i.toNat)).d ≤ (at' L i.toNat).d := by
              rw [hq]; exact hst
            split
            · rename_i k2
              have hst := hst (of_decide_eq_true k2)
              conv => whnf
              refine ⟨by omega, by omega, (show 0 + 8 ≤ (L.map encFrame).length by omega), ?_⟩
              conv => whnf
              refine ⟨_, getD_at L e2 (by omega), ?_⟩
              conv => whnf
              refine ⟨by omega, by omega, by omega, ?_⟩
              conv => whnf
              refine ⟨_, getD_at l e1 (by omega), ?_⟩
              conv => whnf
              split
              · rename_i k3; simp only [bne_iff_ne] at k3; exact absurd hst.1 k3
              conv => whnf
              refine ⟨by omega, by omega, (show 0 + 8 ≤ (L.map encFrame).length by omega), ?_⟩
              conv => whnf
              refine ⟨_, getD_at L e2 (by omega), ?_⟩
              conv => whnf
              refine ⟨by omega, by omega, by omega, ?_⟩
              conv => whnf
              refine ⟨_, getD_at l e1 (by omega), ?_⟩
              conv => whnf
              split
              · rename_i k4; simp only [bne_iff_ne] at k4; exact absurd hst.2.1 k4
              conv => whnf
              refine ⟨by omega, by omega, (show 0 + 8 ≤ (L.map encFrame).length by omega), ?_⟩
              conv => whnf
              refine ⟨_, getD_at L e2 (by omega), ?_⟩
              conv => whnf
              refine ⟨by omega, by omega, by omega, ?_⟩
              conv => whnf
              refine ⟨_, getD_at l e1 (by omega), ?_⟩
              conv => whnf
              split
              · rename_i k5; have k5' := of_decide_eq_true k5; exact absurd hst.2.2 (by omega)
              conv => whnf
              exact ⟨_, rfl, rfl, ⟨by rw [hw]; omega, by rw [hw]; omega⟩, by rw [hw]; omega⟩
            · conv => whnf
              exact ⟨_, rfl, rfl, ⟨by rw [hw]; omega, by rw [hw]; omega⟩, by rw [hw]; omega⟩
          · have fa := hT.fa
            have fb := hT.fb
            have fc := hT.fc
            have fd := hT.fd
            simp only at fa fb fc fd
            have oki2 := implOk_ok L h' (by omega)
            rw [poolOk_true hT.ok, ← hsT] at oki2
            have ofi2 := implOf_ok L h' ho (by omega)
            rw [ofP_ok hT.ok, ← hsT] at ofi2
            conv => whnf
            split
            case h_2 => rename_i k; simp only [beq_eq_false_iff_ne] at k; exact absurd fa k
            conv => whnf
            split
            case h_2 => rename_i k; simp only [beq_eq_false_iff_ne] at k; exact absurd fb k
            conv => whnf
            split
            case h_2 => rename_i k; simp only [beq_eq_false_iff_ne] at k; exact absurd fc k
            conv => whnf
            split
            case h_2 => rename_i k; have k' := of_decide_eq_false k; exact absurd fd k'
            conv => whnf
            refine ⟨(show 0 + 8 ≤ (L.map encFrame).length by omega), ?_⟩
            conv => whnf
            refine .mk _ _ false Try.call18 oki2 (Nat.le_of_ble_eq_true rfl) (.inr ⟨AV.nsB_iff rfl, fun k hk => by cases hk⟩) ?_
            conv => whnf
            refine ⟨(show 0 + 8 ≤ (L.map encFrame).length by omega), ?_⟩
            conv => whnf
            refine .mk _ _ false Try.call21 ofi2 (Nat.le_of_ble_eq_true rfl) (.inr ⟨AV.nsB_iff rfl, fun k hk => by cases hk⟩) ?_
            conv => whnf
            refine ⟨trivial, ?_⟩
            conv => whnf
            refine congrArg vbool (decide_eq_true ?_)
            have c0 : cnt 0 L ≤ 5 := hT.ok.c0
            have c1 : cnt 1 L ≤ 5 := hT.ok.c1
            have := inR_iff.1 g1
            rcases (show ho = 0 ∨ ho = 1 by omega) with rfl | rfl
            · exact Int.ofNat_le.2 c0
            · exact Int.ofNat_le.2 c1
      · obtain ⟨hT, h23⟩ := hbad hc
        clear hgood
        obtain ⟨rfl, rfl, rfl, -⟩ : L = m ∧ h' = hn ∧ f = 0 ∧ True := by
          simp only [Prod.mk.injEq] at hT; exact ⟨hT.1, hT.2.1, hT.2.2.1, trivial⟩
        have wh2 := whPool_ok L L h' h' (by omega)
        rw [same_true ⟨rfl, rfl⟩] at wh2
        have wh3 : Good Try.prog 25 [subPool L 8 h', subAt l lo n h'] [] (vbool true) [] := by rw [hsT, hsub]; exact wh2
        rcases h23 with rfl | rfl
        all_goals
          conv => whnf
          refine ⟨by omega, ?_⟩
          conv => whnf
          refine .mk _ _ false Try.call16 oks (Nat.le_of_ble_eq_true rfl) (.inr ⟨AV.nsB_iff rfl, fun k hk => by cases hk⟩) ?_
          conv => whnf
          refine ⟨(show 0 + 8 ≤ (L.map encFrame).length by omega), ?_⟩
          conv => whnf
          refine ⟨by omega, ?_⟩
          conv => whnf
          refine .mk _ _ false Try.call25 wh3 (Nat.le_of_ble_eq_true rfl) (.inr ⟨AV.nsB_iff rfl, fun k hk => by cases hk⟩) ?_
          conv => whnf
          refine ⟨trivial, ?_⟩
          conv => whnf
          rfl
theorem u8_rng {n : Int} (h : (Lit.int .u8 n).wf = true) : 0 ≤ n ∧ n ≤ 255 := by
  simp only [Lit.wf, Bool.and_eq_true, decide_eq_true_eq] at h
  have e1 : IntKind.u8.min = 0 := by decide
  have e2 : IntKind.u8.max = 255 := by decide
  omega
theorem fnPoolTake_good (bs : List Int) (ok : bs.length ≤ 9223372036854775807 ∧ ∀ x ∈ bs, (Lit.int .u8 x).wf = true) :
    ∃ r out, r = vbool true ∧ Good Try.prog 11 [.one (.p (.sl (bs.map encU)))] [] r out :=
  poolTake_law bs (fun x hx => u8_rng (ok.2 x hx)) ok.1
end Go.Abs.B
