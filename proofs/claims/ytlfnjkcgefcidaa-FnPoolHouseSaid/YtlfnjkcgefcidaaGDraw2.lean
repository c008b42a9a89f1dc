import Derived.Test.YtlfnjkcgefcidaaGDraw1
import Derived.Test.YtlfnjkcgefcidaaGPool10
import Derived.Test.YtlfnjkcgefcidaaGPoolN
set_option linter.unusedSimpArgs false
set_option linter.unusedVariables false
namespace Go.Abs.B
open Go Go.Abs Go.Proofs
attribute [local irreducible] IntKind.wrap
theorem wi (x : Int) (h1 : -100000 ≤ x) (h2 : x < 200000) : IntKind.i64.wrap x = x := wrap_in _ (by omega) (by omega)
@[reducible] def encI (n : Int) : List PV := [.lit (.int .i64 n)]
theorem l10Copy8' {l : Fs} (hl : l.length = 8) (h : Int) : Good Try.prog 54 [subPool l 8 h] [] (own8 h) [.arr 5 (l.map encFrame)] := by
  have := l10Copy_ok l h (by omega)
  rw [show own l h = own8 h from by unfold own own8; rw [hl]] at this
  unfold subPool; rw [sub_all hl.symm]; exact this
/-- the pools that l15AnyPool gives: frames 0..8 or 1..8 of a block of eight -/
def AnyR (l : Fs) (lo n : Nat) : Prop := l.length = 8 ∧ ((lo = 0 ∧ n = 8) ∨ (lo = 1 ∧ n = 7))
theorem getD_int (L : List Int) {j i : Nat} (e : j = i) (h : i < L.length) : (L.map encI).getD j [] = encI (L.getD i 0) := by rw [e]; exact getD_map encI L i 0 h
set_option maxHeartbeats 16000000 in
set_option maxRecDepth 100000 in
theorem l15AnyPool_ok (bs : List Int) (p0 : Int) (hb : Bytes bs) (h0 : 0 ≤ p0) (h1 : p0 < 1000) :
    ∃ r out, (∃ (l : Fs) (lo n : Nat) (h : Int) (q : Int), AnyR l lo n ∧ 0 ≤ q ∧ q ≤ p0 + 110 ∧ r = .agg [.hs 1 lo n, .p (.lit (.int .i64 h))] ∧ out = [rdB bs q, .arr 5 (l.map encFrame)]) ∧ Good Try.prog 51 [.one (.hp 0 0 0)] [rdB bs p0] r out := by
  refine good_v noM Try.func51 rfl rfl ?_
  conv => whnf
  obtain ⟨_, _, ⟨l, h, q, hp, hq0, hq1, rfl, rfl⟩, hg⟩ := l15Pool_ok bs p0 hb h0 h1
  have hlen := hp.len
  refine .mk _ _ false Try.call75 hg (Nat.le_of_ble_eq_true rfl) (.inl rfl) ?_
  conv => whnf
  obtain ⟨_, _, ⟨v1, hv10, hv11, rfl, rfl⟩, hg1⟩ := pick_ok bs q 14 hb.rng hb.len hq0 (by omega) (by omega) (by omega)
  refine .mk _ _ false Try.call52 hg1 (Nat.le_of_ble_eq_true rfl) (.inl rfl) ?_
  conv => whnf
  split
  · conv => whnf
    refine ⟨⟨⟨by decide +kernel, Nat.le_of_ble_eq_true rfl⟩, trivial⟩, ?_⟩
    conv => whnf
    exact ⟨l, 0, 8, h, q + 1, ⟨hlen, .inl ⟨rfl, rfl⟩⟩, by omega, by omega, rfl, rfl⟩
  · conv => whnf
    refine ⟨by rw [List.length_map]; omega, ?_⟩
    conv => whnf
    refine .mk _ _ false Try.call54 (l10Copy8' hlen h) (Nat.le_of_ble_eq_true rfl) (.inr ⟨AV.nsB_iff rfl, arr_noSl _⟩) ?_
    conv => whnf
    obtain ⟨_, _, ⟨k, hk0, hk1, rfl, rfl⟩, hg2⟩ := pick_ok bs (q + 1) 8 hb.rng hb.len (by omega) (by omega) (by omega) (by omega)
    refine .mk _ _ false Try.call52 hg2 (Nat.le_of_ble_eq_true rfl) (.inl rfl) ?_
    conv => whnf
    obtain ⟨_, _, ⟨v3, hv30, hv31, rfl, rfl⟩, hg3⟩ := pick_ok bs (q + 1 + 1) 6 hb.rng hb.len (by omega) (by omega) (by omega) (by omega)
    refine .mk _ _ false Try.call52 hg3 (Nat.le_of_ble_eq_true rfl) (.inl rfl) ?_
    conv => whnf
    have ek : 0 + k.toNat = k.toNat := by omega
    have fin : ∀ (l' : Fs) (E : List (List PV)) (lo n : Nat) (h' q' : Int), l'.length = 8 → ((lo = 0 ∧ n = 8) ∨ (lo = 1 ∧ n = 7)) → 0 ≤ q' → q' ≤ p0 + 110 → E = l'.map encFrame →
        ∃ (l : Fs) (lo' n' : Nat) (h : Int) (q : Int), AnyR l lo' n' ∧ 0 ≤ q ∧ q ≤ p0 + 110 ∧ AV.agg [.hs 1 lo n, .p (.lit (.int .i64 h'))] = .agg [.hs 1 lo' n', .p (.lit (.int .i64 h))] ∧ [rdB bs q', .arr 5 E] = [rdB bs q, .arr 5 (l.map encFrame)] :=
      fun l' E lo n h' q' g1 g2 g3 g4 g5 => ⟨l', lo, n, h', q', ⟨g1, g2⟩, g3, g4, rfl, by rw [g5]⟩
    split
    · conv => whnf
      obtain ⟨_, _, ⟨v4, hv40, hv41, rfl, rfl⟩, hg4⟩ := pick_ok bs (q + 1 + 1 + 1) 2 hb.rng hb.len (by omega) (by omega) (by omega) (by omega)
      refine .mk _ _ false Try.call52 hg4 (Nat.le_of_ble_eq_true rfl) (.inl rfl) ?_
      conv => whnf
      have ei : 0 + v4.toNat = v4.toNat := by omega
      refine ⟨by omega, by omega, by decide, ?_⟩
      conv => whnf
      refine ⟨_, getD_int [-1, 8] ei (by simp; omega), ?_⟩
      conv => whnf
      refine ⟨⟨⟨by decide +kernel, Nat.le_of_ble_eq_true rfl⟩, trivial⟩, ?_⟩
      conv => whnf
      exact fin l _ 0 8 _ _ hlen (.inl ⟨rfl, rfl⟩) (by omega) (by omega) rfl
    · conv => whnf
      split
      · conv => whnf
        refine ⟨by omega, by omega, by rw [List.length_map]; omega, ?_⟩
        conv => whnf
        refine ⟨_, getD_at l ek (by omega), ?_⟩
        conv => whnf
        refine ⟨by rw [List.length_map]; omega, ?_⟩
        conv => whnf
        refine ⟨⟨⟨by decide +kernel, Nat.le_of_ble_eq_true rfl⟩, trivial⟩, ?_⟩
        conv => whnf
        refine fin (l.set k.toNat { at' l k.toNat with b := 0 }) _ 0 8 _ _ (by rw [List.length_set]; exact hlen) (.inl ⟨rfl, rfl⟩) (by omega) (by omega) ?_
        rw [← set_enc]; rw [ek]; rfl
      · conv => whnf
        split
        · conv => whnf
          refine ⟨by omega, by omega, by rw [List.length_map]; omega, ?_⟩
          conv => whnf
          refine ⟨_, getD_at l ek (by omega), ?_⟩
          conv => whnf
          refine ⟨by rw [List.length_map]; omega, ?_⟩
          conv => whnf
          refine ⟨⟨⟨by decide +kernel, Nat.le_of_ble_eq_true rfl⟩, trivial⟩, ?_⟩
          conv => whnf
          refine fin (l.set k.toNat { at' l k.toNat with d := -1 }) _ 0 8 _ _ (by rw [List.length_set]; exact hlen) (.inl ⟨rfl, rfl⟩) (by omega) (by omega) ?_
          rw [← set_enc]; rw [ek]; rfl
        · conv => whnf
          split
          · conv => whnf
            refine VDraw.go ⟨225, [0, 1, 0, 0, 8, 0, 32, 0, 128, 384, 992, 2040, 4088, 8191, 16383], [14], [(14, [73])]⟩ rfl rfl (by decide +kernel) ?_
            conv => whnf
            have hm : (IntKind.i64.wrap (k + 1)).tmod ((8 : Nat) : Int) = ((k.toNat + 1) % 8 : Nat) := by
              rw [wi _ (by omega) (by omega), Int.tmod_eq_emod_of_nonneg (by omega)]; omega
            rw [hm]
            have em : 0 + (((k.toNat + 1) % 8 : Nat) : Int).toNat = (k.toNat + 1) % 8 := by omega
            refine ⟨by omega, by omega, by rw [List.length_map]; omega, ?_⟩
            conv => whnf
            refine ⟨_, getD_at l em (by omega), ?_⟩
            conv => whnf
            refine ⟨by omega, by omega, by rw [List.length_map]; omega, ?_⟩
            conv => whnf
            refine ⟨_, getD_at l ek (by omega), ?_⟩
            conv => whnf
            refine ⟨by rw [List.length_map]; omega, ?_⟩
            conv => whnf
            refine ⟨⟨⟨by decide +kernel, Nat.le_of_ble_eq_true rfl⟩, trivial⟩, ?_⟩
            conv => whnf
            refine fin (l.set k.toNat (at' l ((k.toNat + 1) % 8))) _ 0 8 _ _ (by rw [List.length_set]; exact hlen) (.inl ⟨rfl, rfl⟩) (by omega) (by omega) ?_
            rw [← set_enc]; rw [ek]; rfl
          · conv => whnf
            split
            · conv => whnf
              refine ⟨⟨by decide, by decide, by decide, by rw [List.length_map]; omega, by decide +kernel, by decide +kernel⟩, ?_⟩
              conv => whnf
              refine ⟨⟨⟨by decide +kernel, Nat.le_of_ble_eq_true rfl⟩, trivial⟩, ?_⟩
              conv => whnf
              exact fin l _ 1 7 _ _ hlen (.inr ⟨rfl, rfl⟩) (by omega) (by omega) rfl
            · conv => whnf
              refine VLoop.enter [2, 4, 6] ?_
              conv => whnf
              refine VLoop.ind2 (n0 := 4) (α := Int) (β := List (List PV)) noM [2, 4, 6] (fun i E => ⟨80, 1, [(2, .one (.hp 1 0 0)), (4, .one (.hp 2 0 0)), (6, vint i)],
                  [(0, some (rdB bs (q + 1 + 1 + 1))), (1, some (.box [.p (.lit (.slice none 0 0)), .p (.lit (.int .i64 0))])), (2, some (.box [.hs 3 0 8, .p (.lit (.int .i64 h))])), (3, some (.arr 5 E))]⟩)
                (fun i E => ∃ (l : Fs), 0 ≤ i ∧ i ≤ 8 ∧ E = l.map encFrame ∧ l.length = 8) (fun i _ => (8 - i).toNat) ?_ 0 _ ⟨l, by omega, by omega, rfl, hlen⟩
              rintro i _ ⟨l2, hi0, hi1, rfl, hl2⟩
              conv => whnf
              split
              · rename_i k1
                have k1' := of_decide_eq_true k1
                have ei : 0 + i.toNat = i.toNat := by omega
                have hw : IntKind.i64.wrap (i + 1) = i + 1 := wi _ (by omega) (by omega)
                conv => whnf
                refine ⟨by omega, by omega, by rw [List.length_map]; omega, ?_⟩
                conv => whnf
                refine ⟨_, getD_at l2 ei (by omega), by rw [List.length_map]; omega, ?_⟩
                conv => whnf
                refine ⟨_, _, rfl, rfl, ⟨l2.set i.toNat ⟨0, 1, i, 0, false⟩, by rw [hw]; omega, by rw [hw]; omega, ?_, by rw [List.length_set]; exact hl2⟩, by rw [hw]; omega⟩
                rw [← set_enc]; rw [ei]; rfl
              · conv => whnf
                refine ⟨⟨⟨by decide +kernel, Nat.le_of_ble_eq_true rfl⟩, trivial⟩, ?_⟩
                conv => whnf
                exact fin l2 _ 0 8 _ _ hl2 (.inl ⟨rfl, rfl⟩) (by omega) (by omega) rfl
/-- frames lo .. lo + n of a block -/
@[reducible] def subAt (l : Fs) (lo n : Nat) (h : Int) : AV := .agg [.p (.sl (List.take n (List.drop lo (l.map encFrame)))), .p (.lit (.int .i64 h))]
theorem l10CopyAt {l : Fs} {lo n : Nat} (hl : lo + n ≤ l.length) (h8 : n < 1000) (h : Int) : Good Try.prog 54 [subAt l lo n h] [] (.agg [.hs 0 0 n, .p (.lit (.int .i64 h))]) [.arr 5 (((l.drop lo).take n).map encFrame)] := by
  have := l10Copy_ok ((l.drop lo).take n) h (by rw [List.length_take, List.length_drop]; omega)
  have hn : ((l.drop lo).take n).length = n := by rw [List.length_take, List.length_drop]; omega
  unfold own at this; rw [hn] at this
  unfold subAt; rw [← List.map_drop, ← List.map_take]; exact this
theorem arrAt_noSl (l : Fs) : ∀ k ∈ [Blk.arr 5 (l.map encFrame)], k.noSl := arr_noSl l
set_option maxHeartbeats 16000000 in
set_option maxRecDepth 100000 in
theorem drawTake_ok (bs : List Int) (hb : ∀ x ∈ bs, 0 ≤ x ∧ x ≤ 255) (hl : bs.length ≤ 9223372036854775807) :
    ∃ r out, (∃ (l : Fs) (lo n : Nat) (h ho e b : Int), lo + n ≤ l.length ∧ l.length ≤ 8 ∧ r = .tup [.agg [.hs 0 lo n, .p (.lit (.int .i64 h))], vint ho, vint e, vint b] ∧ out = [.arr 5 (l.map encFrame)]) ∧ Good Try.prog 33 [.one (.p (.sl (bs.map encU)))] [] r out := by
  refine good_v noM Try.func33 rfl rfl ?_
  conv => whnf
  obtain ⟨_, _, ⟨bs', hb', rfl, rfl⟩, hg⟩ := l1Open_ok bs hb hl
  refine .mk _ _ true Try.call50 hg (Nat.le_of_ble_eq_true rfl) (fun b hb => Nat.zero_le _) ?_
  conv => whnf
  obtain ⟨_, _, ⟨l, lo, n, h, q, ⟨hlen, hln⟩, hq0, hq1, rfl, rfl⟩, hg⟩ := l15AnyPool_ok bs' 0 hb' (by omega) (by omega)
  have hln2 : lo + n = 8 := by omega
  refine .mk _ _ false Try.call51 hg (Nat.le_of_ble_eq_true rfl) (.inl rfl) ?_
  conv => whnf
  obtain ⟨_, _, ⟨v1, hv10, hv11, rfl, rfl⟩, hg1⟩ := pick_ok bs' q 2 hb'.rng hb'.len hq0 (by omega) (by omega) (by omega)
  refine .mk _ _ false Try.call52 hg1 (Nat.le_of_ble_eq_true rfl) (.inl rfl) ?_
  conv => whnf
  obtain ⟨_, _, ⟨v2, hv20, hv21, rfl, rfl⟩, hg2⟩ := pick_ok bs' (q + 1) 2 hb'.rng hb'.len (by omega) (by omega) (by omega) (by omega)
  refine .mk _ _ false Try.call52 hg2 (Nat.le_of_ble_eq_true rfl) (.inl rfl) ?_
  conv => whnf
  obtain ⟨_, _, ⟨v3, hv30, hv31, rfl, rfl⟩, hg3⟩ := pick_ok bs' (q + 1 + 1) 6 hb'.rng hb'.len (by omega) (by omega) (by omega) (by omega)
  refine .mk _ _ false Try.call52 hg3 (Nat.le_of_ble_eq_true rfl) (.inl rfl) ?_
  conv => whnf
  obtain ⟨_, _, ⟨v4, hv40, hv41, rfl, rfl⟩, hg4⟩ := pick_ok bs' (q + 1 + 1 + 1) 20 hb'.rng hb'.len (by omega) (by omega) (by omega) (by omega)
  refine .mk _ _ false Try.call52 hg4 (Nat.le_of_ble_eq_true rfl) (.inl rfl) ?_
  conv => whnf
  have fin : ∀ (l' : Fs) (lo n : Nat) (h ho e b : Int), lo + n ≤ l'.length → l'.length ≤ 8 →
      ∃ (l : Fs) (lo' n' : Nat) (h' ho' e' b' : Int), lo' + n' ≤ l.length ∧ l.length ≤ 8 ∧ AV.tup [.agg [.hs 0 lo n, .p (.lit (.int .i64 h))], vint ho, vint e, vint b] = .tup [.agg [.hs 0 lo' n', .p (.lit (.int .i64 h'))], vint ho', vint e', vint b'] ∧ [Blk.arr 5 (l'.map encFrame)] = [.arr 5 (l.map encFrame)] :=
    fun l' lo n h ho e b g1 g2 => ⟨l', lo, n, h, ho, e, b, g1, g2, rfl, rfl⟩
  split
  · conv => whnf
    refine VLoop.enter [2, 6, 7, 8, 9, 10, 11] ?_
    conv => whnf
    refine VLoop.ind1 (n0 := 4) (α := Int) noM [2, 6, 7, 8, 9, 10, 11] (fun i => ⟨93, 0, [(2, .one (.hp 0 0 0)), (6, .one (.hp 1 0 0)), (7, .one (.hp 2 0 0)), (8, vint v1), (9, vint (IntKind.i64.wrap (IntKind.i64.wrap (1 + IntKind.i64.wrap (2 * v2)) + v1))), (10, vint v3), (11, vint i)],
        [(0, some (.box [.p (.lit (.slice none 0 0)), .p (.lit (.int .i64 0))])), (1, some (rdB bs' (q + 1 + 1 + 1 + 1))), (2, some (.box [.hs 3 lo n, .p (.lit (.int .i64 h))])), (3, some (.arr 5 (l.map encFrame)))]⟩)
      (fun i => 0 ≤ i ∧ i ≤ n) (fun i => ((n : Int) - i).toNat) ?_ 0 ⟨by omega, by omega⟩
    rintro i ⟨hi0, hi1⟩
    have hlm : (l.map encFrame).length = 8 := by rw [List.length_map]; exact hlen
    conv => whnf
    split
    · rename_i k1
      have k1' := of_decide_eq_true k1
      have hw : IntKind.i64.wrap (i + 1) = i + 1 := wi _ (by omega) (by omega)
      have ei : lo + i.toNat = lo + i.toNat := rfl
      conv => whnf
      refine ⟨by omega, by omega, by omega, ?_⟩
      conv => whnf
      refine ⟨_, getD_at l ei (by omega), ?_⟩
      conv => whnf
      split
      · conv => whnf
        refine ⟨by omega, by omega, by omega, ?_⟩
        conv => whnf
        refine ⟨_, getD_at l ei (by omega), ?_⟩
        conv => whnf
        split
        · conv => whnf
          refine ⟨by omega, ?_⟩
          conv => whnf
          refine .mk _ _ false Try.call54 (l10CopyAt (lo := lo) (n := n) (by omega) (by omega) h) (Nat.le_of_ble_eq_true rfl) (.inr ⟨AV.nsB_iff rfl, arr_noSl _⟩) ?_
          conv => whnf
          refine VDraw.go ⟨212, [0, 1, 0, 0, 8, 24, 63, 127, 255], [4, 8], [(4, [1]), (8, [196])]⟩ rfl rfl (by decide +kernel) ?_
          conv => whnf
          obtain ⟨_, _, ⟨v5, hv50, hv51, rfl, rfl⟩, hg5⟩ := pick_ok bs' (q + 1 + 1 + 1 + 1) 3 hb'.rng hb'.len (by omega) (by omega) (by omega) (by omega)
          refine .mk _ _ false Try.call52 hg5 (Nat.le_of_ble_eq_true rfl) (.inl rfl) ?_
          conv => whnf
          have hm : ((l.drop lo).take n).length = n := by rw [List.length_take, List.length_drop]; omega
          generalize (l.drop lo).take n = m at hm ⊢
          have hmm : (m.map encFrame).length = n := by rw [List.length_map]; exact hm
          have ej : 0 + i.toNat = i.toNat := by omega
          refine ⟨by omega, by omega, by omega, ?_⟩
          conv => whnf
          refine ⟨_, getD_at m ej (by omega), by omega, ?_⟩
          conv => whnf
          refine ⟨by omega, by omega, by rw [List.length_set]; omega, ?_⟩
          conv => whnf
          refine ⟨_, ((congrArg (fun z => List.getD z (0 + i.toNat) []) (show _ = (m.set i.toNat { at' m i.toNat with d := IntKind.i64.wrap (99999 - v5) }).map encFrame from by rw [← set_enc, ej]; rfl)).trans (getD_at _ ej (by rw [List.length_set]; omega))), ?_⟩
          conv => whnf
          refine ⟨⟨⟨by decide +kernel, Nat.le_of_ble_eq_true rfl⟩, trivial⟩, ?_⟩
          conv => whnf
          exact ⟨m.set i.toNat { at' m i.toNat with d := IntKind.i64.wrap (99999 - v5) }, 0, n, h, _, _, _, by rw [List.length_set]; omega, by rw [List.length_set]; omega, rfl, by rw [← set_enc, ej]; rfl⟩
        · conv => whnf
          exact ⟨_, rfl, rfl, ⟨by rw [hw]; omega, by rw [hw]; omega⟩, by rw [hw]; omega⟩
      · conv => whnf
        exact ⟨_, rfl, rfl, ⟨by rw [hw]; omega, by rw [hw]; omega⟩, by rw [hw]; omega⟩
    · conv => whnf
      refine ⟨⟨⟨by decide +kernel, Nat.le_of_ble_eq_true rfl⟩, trivial⟩, ?_⟩
      conv => whnf
      exact fin l lo n h _ _ _ (by omega) (by omega)
  · conv => whnf
    split
    · conv => whnf
      obtain ⟨_, _, ⟨v5, hv50, hv51, rfl, rfl⟩, hg5⟩ := pick_ok bs' (q + 1 + 1 + 1 + 1) 3 hb'.rng hb'.len (by omega) (by omega) (by omega) (by omega)
      refine .mk _ _ false Try.call52 hg5 (Nat.le_of_ble_eq_true rfl) (.inl rfl) ?_
      conv => whnf
      have ei : 0 + v5.toNat = v5.toNat := by omega
      refine ⟨by omega, by omega, Nat.le_refl 3, ?_⟩
      conv => whnf
      refine ⟨_, getD_int [2, -1, IntKind.i64.wrap (1 - v1)] ei (by simp; omega), ?_⟩
      conv => whnf
      refine ⟨⟨⟨by decide +kernel, Nat.le_of_ble_eq_true rfl⟩, trivial⟩, ?_⟩
      conv => whnf
      exact fin l lo n h _ _ _ (by omega) (by omega)
    · conv => whnf
      split
      · conv => whnf
        refine ⟨⟨⟨by decide +kernel, Nat.le_of_ble_eq_true rfl⟩, trivial⟩, ?_⟩
        conv => whnf
        exact fin l lo n h _ _ _ (by omega) (by omega)
      · conv => whnf
        split
        · conv => whnf
          obtain ⟨_, _, ⟨v5, hv50, hv51, rfl, rfl⟩, hg5⟩ := pick_ok bs' (q + 1 + 1 + 1 + 1) 2 hb'.rng hb'.len (by omega) (by omega) (by omega) (by omega)
          refine .mk _ _ false Try.call52 hg5 (Nat.le_of_ble_eq_true rfl) (.inl rfl) ?_
          conv => whnf
          have ei : 0 + v5.toNat = v5.toNat := by omega
          refine ⟨by omega, by omega, by decide, ?_⟩
          conv => whnf
          refine ⟨_, getD_int [-1, 24] ei (by simp; omega), ?_⟩
          conv => whnf
          refine ⟨⟨⟨by decide +kernel, Nat.le_of_ble_eq_true rfl⟩, trivial⟩, ?_⟩
          conv => whnf
          exact fin l lo n h _ _ _ (by omega) (by omega)
        · conv => whnf
          refine ⟨⟨⟨by decide +kernel, Nat.le_of_ble_eq_true rfl⟩, trivial⟩, ?_⟩
          conv => whnf
          exact fin l lo n h _ _ _ (by omega) (by omega)
end Go.Abs.B
