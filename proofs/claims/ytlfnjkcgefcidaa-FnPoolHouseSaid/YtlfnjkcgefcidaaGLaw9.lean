import Derived.Test.YtlfnjkcgefcidaaGLaw12
set_option linter.unusedSimpArgs false
set_option linter.unusedVariables false
namespace Go.Abs
open Go Go.RowKit
variable {P : Program}
/-- A loop, by what holds at its head, where the number of names may change. -/
theorem VLoop.indN {ι : Type} (M : FuncId → Bool) (ts : List Tmp) {c : Code} {Q : Exit → Nat → St → Prop} (n0 : ι → Nat) (S : ι → St) (I : ι → Prop) (m : ι → Nat)
    (round : ∀ i, I i → vcode P M c (andThen (fun _ s => atHead s ts fun n1 s1 => ∃ j, n1 = n0 j ∧ s1 = S j ∧ I j ∧ m j < m i) Q) (n0 i) (S i)) : ∀ i, I i → VLoop P c Q (n0 i) (S i) :=
  have key : ∀ k i, m i = k → I i → ALoop P c Q (n0 i) (S i) := by
    intro k
    induction k using Nat.strongRecOn with
    | _ k ih =>
      intro i hk hi
      refine aloop_step ((vcode_sound c (round i hi)).mono (andThen_mono ?_))
      intro n s hh
      obtain ⟨n1, s1, hs, j, rfl, rfl, hj, hlt⟩ := atHead_sub hh
      exact ALoop.sub hs.1 (ih (m j) (hk ▸ hlt) j rfl hj)
  fun i hi => ⟨key _ i rfl hi⟩
end Go.Abs
namespace Go.Abs.B
open Go Go.Abs Go.Proofs
attribute [local irreducible] IntKind.wrap
set_option maxHeartbeats 16000000 in
set_option maxRecDepth 100000 in
theorem drawOf_ok (bs : List Int) (hb : ∀ x ∈ bs, 0 ≤ x ∧ x ≤ 255) (hl : bs.length ≤ 9223372036854775807) :
    ∃ r out, (∃ (l : Fs) (lo n : Nat) (h ho : Int), lo + n ≤ l.length ∧ l.length ≤ 8 ∧ 0 ≤ ho ∧ ho ≤ 2 ∧ r = .tup [.agg [.hs 0 lo n, .p (.lit (.int .i64 h))], vint ho] ∧ out = [.arr 5 (l.map encFrame)]) ∧ Good Try.prog 31 [.one (.p (.sl (bs.map encU)))] [] r out := by
  refine good_v noM Try.func31 rfl rfl ?_
  conv => whnf
  obtain ⟨_, _, ⟨bs', hb', rfl, rfl⟩, hg⟩ := l1Open_ok bs hb hl
  refine .mk _ _ true Try.call50 hg (Nat.le_of_ble_eq_true rfl) (fun b hb => Nat.zero_le _) ?_
  conv => whnf
  obtain ⟨_, _, ⟨l, lo, n, h, q, ⟨hlen, hln⟩, hq0, hq1, rfl, rfl⟩, hg⟩ := l15AnyPool_ok bs' 0 hb' (by omega) (by omega)
  have hln2 : lo + n = 8 := by omega
  refine .mk _ _ false Try.call51 hg (Nat.le_of_ble_eq_true rfl) (.inl rfl) ?_
  conv => whnf
  obtain ⟨_, _, ⟨v1, hv10, hv11, rfl, rfl⟩, hg1⟩ := pick_ok bs' q 3 hb'.rng hb'.len hq0 (by omega) (by omega) (by omega)
  refine .mk _ _ false Try.call52 hg1 (Nat.le_of_ble_eq_true rfl) (.inl rfl) ?_
  conv => whnf
  refine ⟨⟨⟨by decide +kernel, Nat.le_of_ble_eq_true rfl⟩, trivial⟩, ?_⟩
  conv => whnf
  exact ⟨l, lo, n, h, v1, by omega, by omega, by omega, by omega, rfl, rfl⟩
/-- What holds of the pool while blocks are taken and let go: it is ok, and the counts did not fall. -/
structure Kept (m L : Fs) (h' : Nat) (ho : Int) : Prop where
  ok : PoolOkP L h'
  own : cnt ho m ≤ cnt ho L
  sum : cnt ho m + cnt (1 - ho) m ≤ cnt ho L + cnt (1 - ho) L
theorem Kept.next {m L : Fs} {h' : Nat} {ho e b : Int} (k : Kept m L h' ho) (hg : inR ho 0 1 = true) (he : inR e 1 99999 = true) (hbb : inR b 0 23 = true) :
    Kept m (letP (takeP L h' ho e b).1 (takeP L h' ho e b).2.2.1).1 (takeP L h' ho e b).2.1 ho := by
  have h1 : takeP L h' ho e b = takeS L h' ho e b := by unfold takeP; rw [hg, he, hbb]; rfl
  have h2 := take_cnt (h := h') (ho := ho) (o := 1 - ho) (e := e) (b := b) k.ok (by have := inR_iff.1 hg; omega) (inR_iff.1 he).1
  have h3 := takeP_keeps (ho := ho) (e := e) (b := b) k.ok
  rw [← h1] at h2
  refine ⟨let_keeps h3, ?_, ?_⟩
  · rw [let_cnt h3.len]; have := k.own; omega
  · rw [let_cnt h3.len, let_cnt h3.len]; have := k.sum; omega
set_option maxHeartbeats 16000000 in
set_option maxRecDepth 100000 in
theorem poolHouse_law (bs : List Int) (hb : ∀ x ∈ bs, 0 ≤ x ∧ x ≤ 255) (hl : bs.length ≤ 9223372036854775807) : ∃ r out, r = vbool true ∧ Good Try.prog 9 [.one (.p (.sl (bs.map encU)))] [] r out := by
  refine good_v noM Try.func9 rfl rfl ?_
  conv => whnf
  split
  · conv => whnf
    refine ⟨trivial, ?_⟩
    conv => whnf
    rfl
  · conv => whnf
    obtain ⟨_, _, ⟨l, lo, n, h, ho, hln, hl8, ho0, ho2, rfl, rfl⟩, hg⟩ := drawOf_ok bs hb hl
    refine .mk _ _ false Try.call31 hg (Nat.le_of_ble_eq_true rfl) (.inl rfl) ?_
    conv => whnf
    have hm8 : ((l.drop lo).take n).length ≤ 8 := by rw [List.length_take, List.length_drop]; omega
    have hlm : (l.map encFrame).length = l.length := by rw [List.length_map]
    have hsub := sub_at l lo n h
    generalize (l.drop lo).take n = m at hm8 hsub
    have ofi := implOf_ok m h ho (by omega)
    have ofs := specOf_ok m h ho (by omega)
    have oks := specOk_ok m h (by omega)
    rw [← hsub] at ofi ofs oks
    refine ⟨by omega, ?_⟩
    conv => whnf
    refine .mk _ _ false Try.call21 ofi (Nat.le_of_ble_eq_true rfl) (.inr ⟨AV.nsB_iff rfl, fun k hk => by cases hk⟩) ?_
    conv => whnf
    refine ⟨by omega, ?_⟩
    conv => whnf
    refine .mk _ _ false Try.call20 ofs (Nat.le_of_ble_eq_true rfl) (.inr ⟨AV.nsB_iff rfl, fun k hk => by cases hk⟩) ?_
    conv => whnf
    split
    · rename_i q; simp at q
    conv => whnf
    refine ⟨by omega, ?_⟩
    conv => whnf
    cases hp : poolOk m h with
    | false =>
      rw [hp] at oks
      refine .mk _ _ false Try.call16 oks (Nat.le_of_ble_eq_true rfl) (.inr ⟨AV.nsB_iff rfl, fun k hk => by cases hk⟩) ?_
      conv => whnf
      refine ⟨by omega, ?_⟩
      conv => whnf
      refine .mk _ _ false Try.call20 ofs (Nat.le_of_ble_eq_true rfl) (.inr ⟨AV.nsB_iff rfl, fun k hk => by cases hk⟩) ?_
      conv => whnf
      refine ⟨trivial, ?_⟩
      conv => whnf
      exact congrArg vbool (beq_self_eq_true _)
    | true =>
      rw [hp] at oks
      refine .mk _ _ false Try.call16 oks (Nat.le_of_ble_eq_true rfl) (.inr ⟨AV.nsB_iff rfl, fun k hk => by cases hk⟩) ?_
      conv => whnf
      split
      · conv => whnf
        refine ⟨by omega, ?_⟩
        conv => whnf
        refine .mk _ _ false Try.call20 ofs (Nat.le_of_ble_eq_true rfl) (.inr ⟨AV.nsB_iff rfl, fun k hk => by cases hk⟩) ?_
        conv => whnf
        refine ⟨trivial, ?_⟩
        conv => whnf
        exact congrArg vbool (beq_self_eq_true _)
      · rename_i hho
        have hho' := of_decide_eq_false hho
        have hok := poolOk_of hp
        obtain ⟨hn, rfl⟩ := Int.eq_ofNat_of_zero_le (hand_nn hok)
        have g1 : inR ho 0 1 = true := inR_iff.2 (by omega)
        have hwe : IntKind.i64.wrap (90 + ho) = 90 + ho := wi _ (by omega) (by omega)
        have g2 : inR (IntKind.i64.wrap (90 + ho)) 1 99999 = true := inR_iff.2 (by omega)
        have hw1 : IntKind.i64.wrap (1 - ho) = 1 - ho := wi _ (by omega) (by omega)
        rw [ofP_ok hok]
        have hcm : cnt ho m ≤ 5 := by rcases (show ho = 0 ∨ ho = 1 by omega) with rfl | rfl; exact hok.c0; exact hok.c1
        have hco : cnt (1 - ho) m ≤ 5 := by rcases (show ho = 0 ∨ ho = 1 by omega) with rfl | rfl; exact hok.c1; exact hok.c0
        have kept0 : Kept m m hn ho := ⟨hok, Nat.le_refl _, Nat.le_refl _⟩
        have ofo := implOf_ok m hn (1 - ho) (by omega)
        rw [ofP_ok hok, ← hsub, ← hw1] at ofo
        conv => whnf
        refine VLoop.enter [3, 4, 5, 6, 7] ?_
        conv => whnf
        refine VLoop.indN noM [3, 4, 5, 6, 7] (ι := Int ⊕ (Int × Fs × Nat)) (fun i => match i with | .inl _ => 3 | .inr _ => 4)
          (fun i => match i with
            | .inl b => ⟨102, 0, [(3, .one (.hp 0 0 0)), (4, vint ho), (5, vint (cnt ho m)), (6, .one (.hp 1 0 0)), (7, vint b)], [(0, some (.box [.hs 2 lo n, .p (.lit (.int .i64 hn))])), (1, some (.box [.hs 2 lo n, .p (.lit (.int .i64 hn))])), (2, some (.arr 5 (l.map encFrame)))]⟩
            | .inr (b, L, h') => ⟨102, 0, [(3, .one (.hp 0 0 0)), (4, vint ho), (5, vint (cnt ho m)), (6, .one (.hp 1 0 0)), (7, vint b)], [(0, some (.box [.hs 2 lo n, .p (.lit (.int .i64 hn))])), (1, some (.box [.hs 3 0 8, .p (.lit (.int .i64 h'))])), (2, some (.arr 5 (l.map encFrame))), (3, some (.arr 5 (L.map encFrame)))]⟩)
          (fun i => match i with | .inl b => 0 ≤ b ∧ b ≤ 12 | .inr (b, L, h') => 0 ≤ b ∧ b ≤ 12 ∧ Kept m L h' ho)
          (fun i => match i with | .inl b => (12 - b).toNat | .inr (b, _, _) => (12 - b).toNat) ?_ (.inl 0) ⟨by omega, by omega⟩
        rintro (bb | ⟨bb, L, h'⟩)
        · rintro ⟨hb0, hb1⟩
          obtain ⟨L, hLe⟩ : ∃ L, L = m := ⟨_, rfl⟩
          obtain ⟨h', hhe⟩ : ∃ h', h' = hn := ⟨_, rfl⟩
          have hK : Kept m L h' ho := by rw [hLe, hhe]; exact kept0
          have hsubL : subAt l lo n h' = pool L h' := by rw [hLe, hhe]; exact hsub
          have hokL := hK.ok
          have hL8 := hokL.len
          have hLm : (L.map encFrame).length = 8 := by rw [List.length_map]; exact hL8
          have hsT : subPool L 8 h' = pool L h' := sub_pool hL8.symm h'
          have hw : IntKind.i64.wrap (bb + 1) = bb + 1 := wi _ (by omega) (by omega)
          subst hhe
          conv => whnf
          split
          · rename_i q
            have q' := of_decide_eq_true q
            have g3 : inR bb 0 23 = true := inR_iff.2 (by omega)
            have hgi := implTake_ok L h' ho (IntKind.i64.wrap (90 + ho)) bb hokL
            rw [← hsubL] at hgi
            have hnx := hK.next g1 g2 g3
            have hbad := @takeP_bad L h' ho (IntKind.i64.wrap (90 + ho)) bb
            have hgood := @takeP_good L h' ho (IntKind.i64.wrap (90 + ho)) bb hokL
            have hokT := takeP_keeps (ho := ho) (e := IntKind.i64.wrap (90 + ho)) (b := bb) hokL
            conv => whnf
            refine ⟨by omega, ?_⟩
            conv => whnf
            refine .mk _ _ false Try.call32 hgi (Nat.le_of_ble_eq_true rfl) (.inr ⟨AV.nsB_iff rfl, arr_noSl _⟩) ?_
            conv => whnf
            generalize takeP L h' ho (IntKind.i64.wrap (90 + ho)) bb = T at hbad hgood hokT hnx ⊢
            obtain ⟨L2, h2, f, c⟩ := T
            simp only at hbad hgood hokT hnx
            by_cases hc : c = 0 ∨ c = 1
            · obtain ⟨hT, -, -, -, -⟩ := hgood hc
              have hf0 := hT.lo
              have hf1 := hT.hi
              have fd := hT.fd
              simp only at hf0 hf1 fd
              have hL28 := hokT.len
              have hL2m : (L2.map encFrame).length = 8 := by rw [List.length_map]; exact hL28
              have hsT2 : subPool L2 8 h2 = pool L2 h2 := sub_pool hL28.symm h2
              have li := implLet_ok L2 h2 f hokT
              have hlet : (letP L2 f).2 = true := by
                obtain ⟨k, rfl⟩ := Int.eq_ofNat_of_zero_le hf0
                rw [let_held (by omega) (by rw [Int.toNat_natCast] at fd; exact fd)]
              rw [hlet, ← hsT2] at li
              rcases hc with rfl | rfl
              all_goals
                conv => whnf
                refine ⟨(show 0 + 8 ≤ (L2.map encFrame).length by omega), ?_⟩
                conv => whnf
                refine .mk _ _ false Try.call23 li (Nat.le_of_ble_eq_true rfl) (.inr ⟨AV.nsB_iff rfl, arr_noSl _⟩) ?_
                conv => whnf
                exact ⟨.inr (IntKind.i64.wrap (bb + 1), (letP L2 f).1, h2), rfl, rfl, ⟨by rw [hw]; omega, by rw [hw]; omega, hnx⟩, by show (12 - IntKind.i64.wrap (bb + 1)).toNat < (12 - bb).toNat; rw [hw]; omega⟩
            · obtain ⟨hT, h23⟩ := hbad hc
              rcases h23 with rfl | rfl
              all_goals
                conv => whnf
                exact ⟨.inl (IntKind.i64.wrap (bb + 1)), rfl, rfl, ⟨by rw [hw]; omega, by rw [hw]; omega⟩, by show (12 - IntKind.i64.wrap (bb + 1)).toNat < (12 - bb).toNat; rw [hw]; omega⟩
          · have oki := implOk_ok L h' (by omega)
            rw [poolOk_true hokL, ← hsubL] at oki
            have of1 := implOf_ok L h' ho (by omega)
            rw [ofP_ok hokL, ← hsubL] at of1
            have of2 := implOf_ok L h' (1 - ho) (by omega)
            rw [ofP_ok hokL, ← hsubL, ← hw1] at of2
            have c1 : cnt ho L ≤ 5 := by rcases (show ho = 0 ∨ ho = 1 by omega) with rfl | rfl; exact hokL.c0; exact hokL.c1
            have k1 := hK.own
            have k2 := hK.sum
            conv => whnf
            refine VDraw.go ⟨19, [0, 1, 3, 7, 7, 31, 63, 127, 255, 511, 511, 2047, 511, 8191, 16383, 32767, 65535, 65535, 196607, 524287, 65535, 65535, 2162687, 8388607, 65535, 16842751, 67108863, 134217727, 268435455, 536870911], [1, 5, 11, 19, 23], []⟩ rfl rfl (by decide +kernel) ?_
            conv => whnf
            refine ⟨by omega, ?_⟩
            conv => whnf
            refine .mk _ _ false Try.call18 oki (Nat.le_of_ble_eq_true rfl) (.inr ⟨AV.nsB_iff rfl, fun k hk => by cases hk⟩) ?_
            conv => whnf
            refine ⟨by omega, ?_⟩
            conv => whnf
            refine .mk _ _ false Try.call21 of1 (Nat.le_of_ble_eq_true rfl) (.inr ⟨AV.nsB_iff rfl, fun k hk => by cases hk⟩) ?_
            conv => whnf
            split
            case h_2 => rename_i q; have q' := of_decide_eq_false q; omega
            conv => whnf
            refine ⟨by omega, ?_⟩
            conv => whnf
            refine .mk _ _ false Try.call21 of1 (Nat.le_of_ble_eq_true rfl) (.inr ⟨AV.nsB_iff rfl, fun k hk => by cases hk⟩) ?_
            conv => whnf
            split
            case h_2 => rename_i q; have q' := of_decide_eq_false q; omega
            conv => whnf
            refine ⟨by omega, ?_⟩
            conv => whnf
            refine .mk _ _ false Try.call21 of2 (Nat.le_of_ble_eq_true rfl) (.inr ⟨AV.nsB_iff rfl, fun k hk => by cases hk⟩) ?_
            conv => whnf
            refine ⟨by omega, ?_⟩
            conv => whnf
            refine .mk _ _ false Try.call21 ofo (Nat.le_of_ble_eq_true rfl) (.inr ⟨AV.nsB_iff rfl, fun k hk => by cases hk⟩) ?_
            conv => whnf
            refine ⟨trivial, ?_⟩
            conv => whnf
            refine congrArg vbool (decide_eq_true ?_)
            rw [hw1]
            rw [wi (5 - (cnt ho m : Int)) (by omega) (by omega), wi _ (by omega) (by omega)]
            omega
        · rintro ⟨hb0, hb1, hK⟩
          have hokL := hK.ok
          have hL8 := hokL.len
          have hLm : (L.map encFrame).length = 8 := by rw [List.length_map]; exact hL8
          have hsT : subPool L 8 h' = pool L h' := sub_pool hL8.symm h'
          have hw : IntKind.i64.wrap (bb + 1) = bb + 1 := wi _ (by omega) (by omega)
          conv => whnf
          split
          · rename_i q
            have q' := of_decide_eq_true q
            have g3 : inR bb 0 23 = true := inR_iff.2 (by omega)
            have hgi := implTake_ok L h' ho (IntKind.i64.wrap (90 + ho)) bb hokL
            rw [← hsT] at hgi
            have hnx := hK.next g1 g2 g3
            have hbad := @takeP_bad L h' ho (IntKind.i64.wrap (90 + ho)) bb
            have hgood := @takeP_good L h' ho (IntKind.i64.wrap (90 + ho)) bb hokL
            have hokT := takeP_keeps (ho := ho) (e := IntKind.i64.wrap (90 + ho)) (b := bb) hokL
            conv => whnf
            refine ⟨(show 0 + 8 ≤ (L.map encFrame).length by omega), ?_⟩
            conv => whnf
            refine .mk _ _ false Try.call32 hgi (Nat.le_of_ble_eq_true rfl) (.inr ⟨AV.nsB_iff rfl, arr_noSl _⟩) ?_
            conv => whnf
            generalize takeP L h' ho (IntKind.i64.wrap (90 + ho)) bb = T at hbad hgood hokT hnx ⊢
            obtain ⟨L2, h2, f, c⟩ := T
            simp only at hbad hgood hokT hnx
            by_cases hc : c = 0 ∨ c = 1
            · obtain ⟨hT, -, -, -, -⟩ := hgood hc
              have hf0 := hT.lo
              have hf1 := hT.hi
              have fd := hT.fd
              simp only at hf0 hf1 fd
              have hL28 := hokT.len
              have hL2m : (L2.map encFrame).length = 8 := by rw [List.length_map]; exact hL28
              have hsT2 : subPool L2 8 h2 = pool L2 h2 := sub_pool hL28.symm h2
              have li := implLet_ok L2 h2 f hokT
              have hlet : (letP L2 f).2 = true := by
                obtain ⟨k, rfl⟩ := Int.eq_ofNat_of_zero_le hf0
                rw [let_held (by omega) (by rw [Int.toNat_natCast] at fd; exact fd)]
              rw [hlet, ← hsT2] at li
              rcases hc with rfl | rfl
              all_goals
                conv => whnf
                refine ⟨(show 0 + 8 ≤ (L2.map encFrame).length by omega), ?_⟩
                conv => whnf
                refine .mk _ _ false Try.call23 li (Nat.le_of_ble_eq_true rfl) (.inr ⟨AV.nsB_iff rfl, arr_noSl _⟩) ?_
                conv => whnf
                exact ⟨.inr (IntKind.i64.wrap (bb + 1), (letP L2 f).1, h2), rfl, rfl, ⟨by rw [hw]; omega, by rw [hw]; omega, hnx⟩, by show (12 - IntKind.i64.wrap (bb + 1)).toNat < (12 - bb).toNat; rw [hw]; omega⟩
            · obtain ⟨hT, h23⟩ := hbad hc
              rcases h23 with rfl | rfl
              all_goals
                conv => whnf
                exact ⟨.inr (IntKind.i64.wrap (bb + 1), L, h'), rfl, rfl, ⟨by rw [hw]; omega, by rw [hw]; omega, hK⟩, by show (12 - IntKind.i64.wrap (bb + 1)).toNat < (12 - bb).toNat; rw [hw]; omega⟩
          · have oki := implOk_ok L h' (by omega)
            rw [poolOk_true hokL, ← hsT] at oki
            have of1 := implOf_ok L h' ho (by omega)
            rw [ofP_ok hokL, ← hsT] at of1
            have of2 := implOf_ok L h' (1 - ho) (by omega)
            rw [ofP_ok hokL, ← hsT, ← hw1] at of2
            have c1 : cnt ho L ≤ 5 := by rcases (show ho = 0 ∨ ho = 1 by omega) with rfl | rfl; exact hokL.c0; exact hokL.c1
            have k1 := hK.own
            have k2 := hK.sum
            conv => whnf
            refine VDraw.go ⟨20, [0, 1, 3, 7, 7, 31, 63, 127, 255, 511, 511, 2047, 511, 8191, 16383, 32767, 65535, 65535, 196607, 524287, 65535, 65535, 2162687, 8388607, 65535, 16842751, 67108863, 134217727, 268435455, 536870911], [1, 5, 11, 19, 23], []⟩ rfl rfl (by decide +kernel) ?_
            conv => whnf
            refine ⟨(show 0 + 8 ≤ (L.map encFrame).length by omega), ?_⟩
            conv => whnf
            refine .mk _ _ false Try.call18 oki (Nat.le_of_ble_eq_true rfl) (.inr ⟨AV.nsB_iff rfl, fun k hk => by cases hk⟩) ?_
            conv => whnf
            refine ⟨(show 0 + 8 ≤ (L.map encFrame).length by omega), ?_⟩
            conv => whnf
            refine .mk _ _ false Try.call21 of1 (Nat.le_of_ble_eq_true rfl) (.inr ⟨AV.nsB_iff rfl, fun k hk => by cases hk⟩) ?_
            conv => whnf
            split
            case h_2 => rename_i q; have q' := of_decide_eq_false q; omega
            conv => whnf
            refine ⟨(show 0 + 8 ≤ (L.map encFrame).length by omega), ?_⟩
            conv => whnf
            refine .mk _ _ false Try.call21 of1 (Nat.le_of_ble_eq_true rfl) (.inr ⟨AV.nsB_iff rfl, fun k hk => by cases hk⟩) ?_
            conv => whnf
            split
            case h_2 => rename_i q; have q' := of_decide_eq_false q; omega
            conv => whnf
            refine ⟨(show 0 + 8 ≤ (L.map encFrame).length by omega), ?_⟩
            conv => whnf
            refine .mk _ _ false Try.call21 of2 (Nat.le_of_ble_eq_true rfl) (.inr ⟨AV.nsB_iff rfl, fun k hk => by cases hk⟩) ?_
            conv => whnf
            refine ⟨by omega, ?_⟩
            conv => whnf
            refine .mk _ _ false Try.call21 ofo (Nat.le_of_ble_eq_true rfl) (.inr ⟨AV.nsB_iff rfl, fun k hk => by cases hk⟩) ?_
            conv => whnf
            refine ⟨trivial, ?_⟩
            conv => whnf
            refine congrArg vbool (decide_eq_true ?_)
            rw [hw1]
            rw [wi (5 - (cnt ho m : Int)) (by omega) (by omega), wi _ (by omega) (by omega)]
            omega
theorem fnPoolHouse_good (bs : List Int) (ok : bs.length ≤ 9223372036854775807 ∧ ∀ x ∈ bs, (Lit.int .u8 x).wf = true) :
    ∃ r out, r = vbool true ∧ Good Try.prog 9 [.one (.p (.sl (bs.map encU)))] [] r out :=
  poolHouse_law bs (fun x hx => u8_rng (ok.2 x hx)) ok.1
end Go.Abs.B
