import Derived.Test.YtlfnjkcgefcidaaGPoolQ
set_option linter.unusedSimpArgs false
set_option linter.unusedVariables false
namespace Go.Abs.B
open Go Go.Abs Go.Proofs
attribute [local irreducible] IntKind.wrap
theorem takeP_keeps {l : Fs} {h : Nat} {ho e b : Int} (p : PoolOkP l h) : PoolOkP (takeP l h ho e b).1 (takeP l h ho e b).2.1 := by
  unfold takeP
  split
  · exact p
  · rename_i g
    simp only [Bool.and_eq_true] at g
    exact take_keeps p g.1.1 g.1.2 g.2
set_option maxHeartbeats 16000000 in
set_option maxRecDepth 100000 in
theorem poolAgain_law (bs : List Int) (hb : ∀ x ∈ bs, 0 ≤ x ∧ x ≤ 255) (hl : bs.length ≤ 9223372036854775807) : ∃ r out, r = vbool true ∧ Good Try.prog 12 [.one (.p (.sl (bs.map encU)))] [] r out := by
  refine good_v noM Try.func12 rfl rfl ?_
  conv => whnf
  split
  · conv => whnf
    refine ⟨trivial, ?_⟩
    conv => whnf
    rfl
  · conv => whnf
    obtain ⟨_, _, ⟨l, lo, n, h, ho, e, b, hln, hl8, rfl, rfl⟩, hg⟩ := drawTake_ok bs hb hl
    refine .mk _ _ false Try.call33 hg (Nat.le_of_ble_eq_true rfl) (.inl rfl) ?_
    conv => whnf
    have hm8 : ((l.drop lo).take n).length ≤ 8 := by rw [List.length_take, List.length_drop]; omega
    have hlm : (l.map encFrame).length = l.length := by rw [List.length_map]
    have hsub := sub_at l lo n h
    generalize (l.drop lo).take n = m at hm8 hsub
    refine ⟨by omega, ?_⟩
    conv => whnf
    cases hp : poolOk m h with
    | false =>
      have hgi := implTake_bad m h ho e b (by omega) hp
      have hgs := specTake_bad m h ho e b (by omega) hp
      rw [← hsub] at hgi hgs
      refine .mk _ _ false Try.call32 hgi (Nat.le_of_ble_eq_true rfl) (.inr ⟨AV.nsB_iff rfl, fun k hk => by cases hk⟩) ?_
      conv => whnf
      refine ⟨by omega, ?_⟩
      conv => whnf
      refine .mk _ _ false Try.call34 hgs (Nat.le_of_ble_eq_true rfl) (.inr ⟨AV.nsB_iff rfl, fun k hk => by cases hk⟩) ?_
      conv => whnf
      refine .mk _ _ false Try.call25 whPool_bad (Nat.le_of_ble_eq_true rfl) (.inl rfl) ?_
      conv => whnf
      refine .mk _ _ false Try.call25 whPool_bad (Nat.le_of_ble_eq_true rfl) (.inl rfl) ?_
      conv => whnf
      refine ⟨trivial, ?_⟩
      conv => whnf
      rfl
    | true =>
      have hok := poolOk_of hp
      obtain ⟨hn, rfl⟩ := Int.eq_ofNat_of_zero_le (hand_nn hok)
      have hgi := implTake_ok m hn ho e b hok
      have hgs := specTake_ok m hn ho e b hok
      rw [← hsub] at hgi hgs
      refine .mk _ _ false Try.call32 hgi (Nat.le_of_ble_eq_true rfl) (.inr ⟨AV.nsB_iff rfl, arr_noSl _⟩) ?_
      conv => whnf
      refine ⟨by omega, ?_⟩
      conv => whnf
      refine .mk _ _ false Try.call34 hgs (Nat.le_of_ble_eq_true rfl) (.inr ⟨AV.nsB_iff rfl, arr_noSl _⟩) ?_
      conv => whnf
      have hbad := @takeP_bad m hn ho e b
      have hgood := @takeP_good m hn ho e b hok
      have hmk : ((takeP m hn ho e b).2.2.2 = 0 ∨ (takeP m hn ho e b).2.2.2 = 1) → (at' (takeP m hn ho e b).1 (takeP m hn ho e b).2.2.1.toNat).e = true := by
        intro hc
        have hS := (hgood hc).2.2.2.2
        rw [hS] at hc ⊢
        exact take_mark hok hc
      have hT8 : (takeP m hn ho e b).1.length = 8 := takeP_len hok
      generalize takeP m hn ho e b = T at hbad hgood hT8 hmk ⊢
      obtain ⟨L, h', f, c⟩ := T
      simp only at hbad hgood hT8 hmk
      have hLm : (L.map encFrame).length = 8 := by rw [List.length_map]; exact hT8
      have hsT : subPool L 8 h' = pool L h' := sub_pool hT8.symm h'
      have wh := whPool_ok L L h' h' (by omega)
      rw [same_true ⟨rfl, rfl⟩, ← hsT] at wh
      by_cases hc : c = 0 ∨ c = 1
      · obtain ⟨hT, g1, g2, g3, hS⟩ := hgood hc
        have fe := hmk hc
        clear hgood hbad hmk
        have hf0 := hT.lo
        have hf1 := hT.hi
        have hokL := hT.ok
        have fa := hT.fa
        have fb := hT.fb
        have fc := hT.fc
        have fd := hT.fd
        simp only at hf0 hf1 hokL fa fb fc fd
        obtain ⟨k, rfl⟩ := Int.eq_ofNat_of_zero_le hf0
        have hk8 : k < 8 := by omega
        have ekk : (k : Int).toNat = k := Int.toNat_natCast k
        rw [ekk] at fa fb fc fd fe
        have hag := take_again hokL hk8 g1 g2 g3 fa fb fc
        have hgi2 := implTake_ok L h' ho e b hokL
        have ef : 0 + (k : Int).toNat = k := by omega
        have hok2 := takeP_keeps (ho := ho) (e := e) (b := b) hokL
        rcases hc with rfl | rfl
        all_goals
          conv => whnf
          split
          · rename_i q; simp at q
          conv => whnf
          refine ⟨(show 0 + 8 ≤ (L.map encFrame).length by omega), ?_⟩
          conv => whnf
          refine ⟨(show 0 + 8 ≤ (L.map encFrame).length by omega), ?_⟩
          conv => whnf
          refine .mk _ _ false Try.call25 wh (Nat.le_of_ble_eq_true rfl) (.inr ⟨AV.nsB_iff rfl, fun k hk => by cases hk⟩) ?_
          conv => whnf
          refine ⟨by omega, (show (k : Int) < 8 by omega), (show 0 + 8 ≤ (L.map encFrame).length by omega), ?_⟩
          conv => whnf
          refine ⟨_, getD_at L ef (by omega), ?_⟩
          conv => whnf
          split
          · rename_i q1
            have q1' := of_decide_eq_true q1
            rw [hag, if_pos q1', ← hsT] at hgi2
            conv => whnf
            refine ⟨(show 0 + 8 ≤ (L.map encFrame).length by omega), ?_⟩
            conv => whnf
            refine .mk _ _ false Try.call32 hgi2 (Nat.le_of_ble_eq_true rfl) (.inr ⟨AV.nsB_iff rfl, arr_noSl _⟩) ?_
            conv => whnf
            refine ⟨trivial, ?_⟩
            conv => whnf
            rfl
          · rename_i q1
            have q1' := of_decide_eq_false q1
            rw [hag, if_neg q1', ← hsT] at hgi2
            rw [hag, if_neg q1'] at hok2
            simp only at hok2
            obtain ⟨L2, hL2⟩ : ∃ L2, L2 = L.set k (held (at' L k)) := ⟨_, rfl⟩
            have hlet := let_again hk8 hT8 fd fe
            have hl2 := let_held hk8 fd
            rw [← hL2] at hgi2 hok2 hlet
            have hL28 := hok2.len
            have hL2m : (L2.map encFrame).length = 8 := by rw [List.length_map]; exact hL28
            have hat2 : (at' L2 k).d = (at' L k).d + 1 := by rw [hL2, at_set (by omega), if_pos rfl]; rfl
            have hsT2 : subPool L2 8 h' = pool L2 h' := sub_pool hL28.symm h'
            have li1 := implLet_ok L2 h' k hok2
            rw [hlet, ← hsT2] at li1
            have li2 := implLet_ok L h' k hokL
            rw [hl2, ← hsT] at li2
            obtain ⟨L3, hL3⟩ : ∃ L3, L3 = L.set k (eased (at' L k)) := ⟨_, rfl⟩
            have hat3 : (at' L3 k).d = (at' L k).d - 1 := by rw [hL3, at_set (by omega), if_pos rfl]; rfl
            rw [← hL3] at li2
            have hL38 : L3.length = 8 := by rw [hL3, List.length_set]; exact hT8
            have hL3m : (L3.map encFrame).length = 8 := by rw [List.length_map]; exact hL38
            have hw1 : IntKind.i64.wrap ((at' L k).d + 1) = (at' L k).d + 1 := wi _ (by omega) (by omega)
            have hw2 : IntKind.i64.wrap ((at' L k).d - 1) = (at' L k).d - 1 := wi _ (by omega) (by omega)
            conv => whnf
            refine ⟨(show 0 + 8 ≤ (L.map encFrame).length by omega), ?_⟩
            conv => whnf
            refine .mk _ _ false Try.call32 hgi2 (Nat.le_of_ble_eq_true rfl) (.inr ⟨AV.nsB_iff rfl, arr_noSl _⟩) ?_
            conv => whnf
            refine ⟨(show 0 + 8 ≤ (L2.map encFrame).length by omega), ?_⟩
            conv => whnf
            refine .mk _ _ false Try.call23 li1 (Nat.le_of_ble_eq_true rfl) (.inr ⟨AV.nsB_iff rfl, arr_noSl _⟩) ?_
            conv => whnf
            refine ⟨(show 0 + 8 ≤ (L.map encFrame).length by omega), ?_⟩
            conv => whnf
            refine .mk _ _ false Try.call23 li2 (Nat.le_of_ble_eq_true rfl) (.inr ⟨AV.nsB_iff rfl, arr_noSl _⟩) ?_
            conv => whnf
            refine VDraw.go ⟨816, [0, 1, 3, 7, 7, 31, 63, 127, 255, 511, 255, 2047, 4095, 8191, 255, 16639, 255, 114943, 246015, 508159, 1032447, 2097151, 4194303, 8388607, 16777215, 33554431, 67108863, 134217727, 134217727, 536870911, 1073741823, 2147483647, 4294967295, 8589934591, 17179869183, 34359738367, 68719476735, 34359738367, 274877906943, 549755813887, 1099511627775, 34359738367, 2233382993919, 34359738367, 15427522527231, 33019708571647, 68204080660479, 138572824838143, 281474976710655, 562949953421311, 1125899906842623], [29], []⟩ rfl rfl (by decide +kernel) ?_
            conv => whnf
            split
            case h_2 => rename_i q; simp at q
            conv => whnf
            refine ⟨by omega, (show (k : Int) < 8 by omega), (show 0 + 8 ≤ (L2.map encFrame).length by omega), ?_⟩
            conv => whnf
            refine ⟨_, getD_at L2 ef (by omega), ?_⟩
            conv => whnf
            refine ⟨by omega, (show (k : Int) < 8 by omega), (show 0 + 8 ≤ (L.map encFrame).length by omega), ?_⟩
            conv => whnf
            refine ⟨_, getD_at L ef (by omega), ?_⟩
            conv => whnf
            split
            case h_2 => rename_i q; simp only [beq_eq_false_iff_ne] at q; exact absurd (by rw [hw1, hat2]) q
            conv => whnf
            refine ⟨(show 0 + 8 ≤ (L.map encFrame).length by omega), ?_⟩
            conv => whnf
            refine ⟨(show 0 + 8 ≤ (L.map encFrame).length by omega), ?_⟩
            conv => whnf
            refine .mk _ _ false Try.call25 wh (Nat.le_of_ble_eq_true rfl) (.inr ⟨AV.nsB_iff rfl, fun k hk => by cases hk⟩) ?_
            conv => whnf
            refine ⟨by omega, (show (k : Int) < 8 by omega), (show 0 + 8 ≤ (L3.map encFrame).length by omega), ?_⟩
            conv => whnf
            refine ⟨_, getD_at L3 ef (by omega), ?_⟩
            conv => whnf
            refine ⟨by omega, (show (k : Int) < 8 by omega), (show 0 + 8 ≤ (L.map encFrame).length by omega), ?_⟩
            conv => whnf
            refine ⟨_, getD_at L ef (by omega), ?_⟩
            conv => whnf
            refine ⟨trivial, ?_⟩
            conv => whnf
            refine congrArg vbool (beq_iff_eq.2 ?_)
            rw [hw2, hat3]
      · obtain ⟨hT, h23⟩ := hbad hc
        clear hgood
        obtain ⟨rfl, rfl, rfl, -⟩ : L = m ∧ h' = hn ∧ f = 0 ∧ True := by
          simp only [Prod.mk.injEq] at hT; exact ⟨hT.1, hT.2.1, hT.2.2.1, trivial⟩
        rcases h23 with rfl | rfl
        all_goals
          conv => whnf
          refine ⟨(show 0 + 8 ≤ (L.map encFrame).length by omega), ?_⟩
          conv => whnf
          refine ⟨(show 0 + 8 ≤ (L.map encFrame).length by omega), ?_⟩
          conv => whnf
          refine .mk _ _ false Try.call25 wh (Nat.le_of_ble_eq_true rfl) (.inr ⟨AV.nsB_iff rfl, fun k hk => by cases hk⟩) ?_
          conv => whnf
          refine ⟨(show 0 + 8 ≤ (L.map encFrame).length by omega), ?_⟩
          conv => whnf
          refine ⟨(show 0 + 8 ≤ (L.map encFrame).length by omega), ?_⟩
          conv => whnf
          refine .mk _ _ false Try.call25 wh (Nat.le_of_ble_eq_true rfl) (.inr ⟨AV.nsB_iff rfl, fun k hk => by cases hk⟩) ?_
          conv => whnf
          refine ⟨trivial, ?_⟩
          conv => whnf
          rfl
theorem fnPoolAgain_good (bs : List Int) (ok : bs.length ≤ 9223372036854775807 ∧ ∀ x ∈ bs, (Lit.int .u8 x).wf = true) :
    ∃ r out, r = vbool true ∧ Good Try.prog 12 [.one (.p (.sl (bs.map encU)))] [] r out :=
  poolAgain_law bs (fun x hx => u8_rng (ok.2 x hx)) ok.1
end Go.Abs.B
