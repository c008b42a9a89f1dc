import Derived.Test.YtilogdijodgcgaaDoorGSha2
set_option linter.unusedSimpArgs false
set_option linter.unusedVariables false
namespace Go.Abs.E
open Go Go.Abs Go.Proofs Go.RowKit
attribute [local irreducible] IntKind.wrap
structure V8 where
  a : Int
  b : Int
  c : Int
  d : Int
  e : Int
  f : Int
  g : Int
  h : Int
@[reducible] def V8.l (v : V8) : List Int := [v.a, v.b, v.c, v.d, v.e, v.f, v.g, v.h]
def bS1 (e : Int) : Int := xorU (xorU (rot e 6) (rot e 11)) (rot e 25)
def bS0 (a : Int) : Int := xorU (xorU (rot a 2) (rot a 13)) (rot a 22)
def bCh (e f g : Int) : Int := xorU (andU e f) (andU (notU e) g)
def bMaj (a b c : Int) : Int := xorU (xorU (andU a b) (andU a c)) (andU b c)
def bOne (v : V8) (k w : Int) : Int := addU (addU (addU (addU v.h (bS1 v.e)) (bCh v.e v.f v.g)) k) w
def rnd (v : V8) (k w : Int) : V8 := ⟨addU (addU (bOne v k w) (bS0 v.a)) (bMaj v.a v.b v.c), v.a, v.b, v.c, addU v.d (bOne v k w), v.e, v.f, v.g⟩
def rnds (bs : List Int) (v : V8) : Nat → V8
  | 0 => v
  | k + 1 => rnd (rnds bs v k) (shaK.getD k 0) ((words bs 64).getD k 0)
def add8 (u v : V8) : V8 := ⟨addU u.a v.a, addU u.b v.b, addU u.c v.c, addU u.d v.d, addU u.e v.e, addU u.f v.f, addU u.g v.g, addU u.h v.h⟩
def blk (v : V8) (bs : List Int) : V8 := add8 v (rnds bs v 64)
theorem mid_down {α : Type} {n i : Nat} {f g : Nat → α} {j : Nat} {r : α} (e : j = i) (hr : r = g i) (h : i < n) : (mid n (i + 1) f g).set j r = mid n i f g := by
  subst e
  apply List.ext_getElem?
  intro k
  unfold mid
  rw [tab_get?]
  by_cases e : j = k
  · subst e
    rw [List.getElem?_set_self (by rw [tab_length]; exact h), if_pos h, if_neg (Nat.lt_irrefl _), hr]
  · rw [List.getElem?_set_ne e, tab_get?]
    by_cases hj : k < n
    · rw [if_pos hj, if_pos hj]
      by_cases h1 : k < j
      · rw [if_pos h1, if_pos (by omega)]
      · rw [if_neg h1, if_neg (by omega)]
    · rw [if_neg hj, if_neg hj]
theorem mid_low {α : Type} {n i : Nat} {f g : Nat → α} (d : α) {j k : Nat} (e : j = k) (hk : k < i) (h : k < n) : (mid n i f g).getD j d = f k := by
  subst e
  unfold mid
  rw [tab_getD d h, if_pos hk]
set_option maxHeartbeats 16000000 in
set_option maxRecDepth 100000 in
theorem consts_ok : Good Tryd.prog 82 [] [] (.one (.hs 0 0 64)) [.arr 1 (shaK.map e32)] := by
  refine good_e noM Tryd.func82 rfl rfl ?_
  conv => whnf
  refine ⟨trivial, ?_⟩
  conv => whnf
  exact ⟨rfl, rfl⟩
theorem noSl32 (l : List Int) : (Blk.arr 1 (l.map e32)).noSl := by
  intro el hel x hx
  obtain ⟨n, _, rfl⟩ := List.mem_map.1 hel
  cases List.mem_singleton.1 hx
  trivial
set_option maxHeartbeats 16000000 in
set_option maxRecDepth 100000 in
theorem specBlock_ok (v : V8) (bs : List Int) (hb : 64 ≤ bs.length) (hb2 : bs.length ≤ 1099511627776) : Good Tryd.prog 66 [.one (.p (.sl (v.l.map e32))), .one (.p (.sl (bs.map e8)))] [] (.one (.hs 0 0 8)) [.arr 1 ((blk v bs).l.map e32)] := by
  refine good_e noM Tryd.func66 rfl rfl ?_
  conv => whnf
  refine .mk _ _ false Tryd.call81 (specWords_ok bs hb hb2) (Nat.le_of_ble_eq_true rfl) (.inl rfl) ?_
  conv => whnf
  refine .mk _ _ false Tryd.call82 consts_ok (Nat.le_of_ble_eq_true rfl) (.inl rfl) ?_
  conv => whnf
  refine ⟨⟨rfl, rfl, rfl⟩, trivial, ?_⟩
  conv => whnf
  refine ⟨(fun q => by cases q), app32 (show 0 + 8 ≤ 1000000 by decide), fun el hel => by obtain ⟨n, _, rfl⟩ := List.mem_map.1 hel; rfl, ?_⟩
  conv => whnf
  refine VLoop.enter [0, 5, 6, 7, 8] ?_
  conv => whnf
  refine VLoop.ind2 (n0 := 3) (α := Int) (β := List (List PV)) noM [0, 5, 6, 7, 8] (fun a E => ⟨155, 0, [(0, .one (.p (.sl (v.l.map e32)))), (5, .one (.hs 0 0 64)), (6, .one (.hs 1 0 64)), (7, .one (.hs 2 0 8)), (8, vint a)], [(0, some (.arr 1 ((words bs 64).map e32))), (1, some (.arr 1 (shaK.map e32))), (2, some (.arr 1 E))]⟩)
    (fun a E => ∃ i : Nat, a = i ∧ i ≤ 64 ∧ E = (rnds bs v i).l.map e32) (fun a _ => (64 - a).toNat) ?_ 0 _ ⟨0, rfl, by omega, rfl⟩
  rintro _ _ ⟨i, rfl, hi, rfl⟩
  have hwl : ((words bs 64).map e32).length = 64 := by rw [List.length_map, words_len]
  have hkl : (shaK.map e32).length = 64 := rfl
  have ez : ∀ n : Nat, 0 + ((n : Nat) : Int).toNat = n := fun n => by omega
  conv => whnf
  split
  · rename_i q
    have q' : (i : Int) < 64 := of_decide_eq_true q
    have hw : IntKind.i64.wrap ((i : Int) + 1) = ((i + 1 : Nat) : Int) := by rw [wrap_in _ (by omega) (by omega)]; omega
    have hstep : rnds bs v (i + 1) = rnd (rnds bs v i) (shaK.getD i 0) ((words bs 64).getD i 0) := rfl
    rw [show rnds bs v i = rnds bs v i from rfl]
    obtain ⟨u, hu⟩ : ∃ u, u = rnds bs v i := ⟨_, rfl⟩
    rw [← hu] at hstep ⊢
    conv => whnf
    refine VDraw.goR [0, 1, 3, 7, 0, 16, 48, 127, 255, 0, 512, 1536, 3839, 8191, 16383] [3, 7, 12] [] [] rfl (by decide +kernel) ?_
    conv => whnf
    refine ⟨by decide, by decide, Nat.le_refl 8, ?_⟩
    conv => whnf
    refine ⟨[.lit (.int .u32 u.e)], rfl, ?_⟩
    conv => whnf
    refine .mk _ _ false Tryd.call83 (turn_ok u.e 6 (by decide) (by decide)) (Nat.le_of_ble_eq_true rfl) (.inl rfl) ?_
    conv => whnf
    refine ⟨by decide, by decide, Nat.le_refl 8, ?_⟩
    conv => whnf
    refine ⟨[.lit (.int .u32 u.e)], rfl, ?_⟩
    conv => whnf
    refine .mk _ _ false Tryd.call83 (turn_ok u.e 11 (by decide) (by decide)) (Nat.le_of_ble_eq_true rfl) (.inl rfl) ?_
    conv => whnf
    refine ⟨by decide, by decide, Nat.le_refl 8, ?_⟩
    conv => whnf
    refine ⟨[.lit (.int .u32 u.e)], rfl, ?_⟩
    conv => whnf
    refine .mk _ _ false Tryd.call83 (turn_ok u.e 25 (by decide) (by decide)) (Nat.le_of_ble_eq_true rfl) (.inl rfl) ?_
    conv => whnf
    refine VDraw.goR [0, 1, 3, 0, 8, 24, 63, 0, 128, 384, 896, 0, 2048, 6144, 16256, 32767, 65535] [] [] [] rfl (by decide +kernel) ?_
    conv => whnf
    refine ⟨by decide, by decide, Nat.le_refl 8, ?_⟩
    conv => whnf
    refine ⟨[.lit (.int .u32 u.e)], rfl, ?_⟩
    conv => whnf
    refine ⟨by decide, by decide, Nat.le_refl 8, ?_⟩
    conv => whnf
    refine ⟨[.lit (.int .u32 u.f)], rfl, ?_⟩
    conv => whnf
    refine ⟨by decide, by decide, Nat.le_refl 8, ?_⟩
    conv => whnf
    refine ⟨[.lit (.int .u32 u.e)], rfl, ?_⟩
    conv => whnf
    refine ⟨by decide, by decide, Nat.le_refl 8, ?_⟩
    conv => whnf
    refine ⟨[.lit (.int .u32 u.g)], rfl, ?_⟩
    conv => whnf
    refine VDraw.goR [0, 1, 3, 0, 15, 0, 63, 0, 0, 384, 896, 2047, 0, 0, 12288, 28672, 65535, 131071] [] [] [] rfl (by decide +kernel) ?_
    conv => whnf
    refine ⟨by decide, by decide, Nat.le_refl 8, ?_⟩
    conv => whnf
    refine ⟨[.lit (.int .u32 u.h)], rfl, ?_⟩
    conv => whnf
    refine ⟨by omega, by omega, by rw [hkl]; decide, ?_⟩
    conv => whnf
    refine ⟨_, at32 shaK (ez i) (show i < 64 by omega), ?_⟩
    conv => whnf
    refine ⟨by omega, by omega, by rw [hwl]; decide, ?_⟩
    conv => whnf
    refine ⟨_, at32 (words bs 64) (ez i) (by rw [words_len]; omega), ?_⟩
    conv => whnf
    refine VDraw.goR [0, 1, 3, 7, 0, 16, 48, 127, 255, 0, 512, 1536, 3839, 8191, 16383] [3, 7, 12] [] [] rfl (by decide +kernel) ?_
    conv => whnf
    refine ⟨by decide, by decide, Nat.le_refl 8, ?_⟩
    conv => whnf
    refine ⟨[.lit (.int .u32 u.a)], rfl, ?_⟩
    conv => whnf
    refine .mk _ _ false Tryd.call83 (turn_ok u.a 2 (by decide) (by decide)) (Nat.le_of_ble_eq_true rfl) (.inl rfl) ?_
    conv => whnf
    refine ⟨by decide, by decide, Nat.le_refl 8, ?_⟩
    conv => whnf
    refine ⟨[.lit (.int .u32 u.a)], rfl, ?_⟩
    conv => whnf
    refine .mk _ _ false Tryd.call83 (turn_ok u.a 13 (by decide) (by decide)) (Nat.le_of_ble_eq_true rfl) (.inl rfl) ?_
    conv => whnf
    refine ⟨by decide, by decide, Nat.le_refl 8, ?_⟩
    conv => whnf
    refine ⟨[.lit (.int .u32 u.a)], rfl, ?_⟩
    conv => whnf
    refine .mk _ _ false Tryd.call83 (turn_ok u.a 22 (by decide) (by decide)) (Nat.le_of_ble_eq_true rfl) (.inl rfl) ?_
    conv => whnf
    refine VDraw.goR [0, 1, 3, 0, 8, 24, 63, 0, 128, 384, 0, 1024, 3072, 8064, 16383, 0, 32768, 98304, 0, 262144, 786432, 2064384, 4194303, 8388607] [] [] [] rfl (by decide +kernel) ?_
    conv => whnf
    refine ⟨by decide, by decide, Nat.le_refl 8, ?_⟩
    conv => whnf
    refine ⟨[.lit (.int .u32 u.a)], rfl, ?_⟩
    conv => whnf
    refine ⟨by decide, by decide, Nat.le_refl 8, ?_⟩
    conv => whnf
    refine ⟨[.lit (.int .u32 u.b)], rfl, ?_⟩
    conv => whnf
    refine ⟨by decide, by decide, Nat.le_refl 8, ?_⟩
    conv => whnf
    refine ⟨[.lit (.int .u32 u.a)], rfl, ?_⟩
    conv => whnf
    refine ⟨by decide, by decide, Nat.le_refl 8, ?_⟩
    conv => whnf
    refine ⟨[.lit (.int .u32 u.c)], rfl, ?_⟩
    conv => whnf
    refine ⟨by decide, by decide, Nat.le_refl 8, ?_⟩
    conv => whnf
    refine ⟨[.lit (.int .u32 u.b)], rfl, ?_⟩
    conv => whnf
    refine ⟨by decide, by decide, Nat.le_refl 8, ?_⟩
    conv => whnf
    refine ⟨[.lit (.int .u32 u.c)], rfl, ?_⟩
    conv => whnf
    refine VLoop.enter [0, 5, 6, 7, 8, 11, 12, 13, 14] ?_
    conv => whnf
    have hf : ∀ k : Nat, k < 8 → True := fun _ _ => trivial
    refine VLoop.ind2 (n0 := 3) (α := Int) (β := List (List PV)) noM [0, 5, 6, 7, 8, 11, 12, 13, 14] (fun a E => ⟨155, 0, [(0, .one (.p (.sl (v.l.map e32)))), (5, .one (.hs 0 0 64)), (6, .one (.hs 1 0 64)), (7, .one (.hs 2 0 8)), (8, vint i), (11, vu (bOne u (shaK.getD i 0) ((words bs 64).getD i 0))), (12, vu (bS0 u.a)), (13, vu (bMaj u.a u.b u.c)), (14, vint a)], [(0, some (.arr 1 ((words bs 64).map e32))), (1, some (.arr 1 (shaK.map e32))), (2, some (.arr 1 E))]⟩)
      (fun a E => ∃ n : Nat, a = n ∧ n ≤ 7 ∧ E = mid 8 (n + 1) (fun k => e32 (u.l.getD k 0)) (fun k => e32 (u.l.getD (k - 1) 0))) (fun a _ => a.toNat) ?_ 7 _ ⟨7, rfl, by omega, rfl⟩
    rintro _ _ ⟨n, rfl, hn, rfl⟩
    conv => whnf
    split
    · rename_i q1
      have q1' : (n : Int) > 0 := of_decide_eq_true q1
      obtain ⟨m, rfl⟩ : ∃ m, n = m + 1 := ⟨n - 1, by omega⟩
      have hw1 : IntKind.i64.wrap (((m + 1 : Nat) : Int) - 1) = (m : Int) := by rw [wrap_in _ (by omega) (by omega)]; omega
      conv => whnf
      rw [hw1]
      refine ⟨by omega, by omega, by rw [mid_length]; decide, ?_⟩
      conv => whnf
      refine ⟨_, mid_low [] (ez m) (by omega) (by omega), ?_⟩
      conv => whnf
      refine ⟨by omega, by omega, by rw [mid_length]; decide, ?_⟩
      conv => whnf
      refine ⟨_, mid_low [] (ez (m + 1)) (by omega) (by omega), by rw [mid_length]; omega, ?_⟩
      conv => whnf
      refine ⟨_, _, rfl, rfl, ⟨m, hw1, by omega, mid_down (ez (m + 1)) rfl (by omega)⟩, by rw [hw1]; omega⟩
    · rename_i q1
      have q1' : ¬ (n : Int) > 0 := of_decide_eq_false q1
      obtain rfl : n = 0 := by omega
      have hE : mid 8 (0 + 1) (fun k => e32 (u.l.getD k 0)) (fun k => e32 (u.l.getD (k - 1) 0)) = ([u.a, u.a, u.b, u.c, u.d, u.e, u.f, u.g] : List Int).map e32 := rfl
      rw [hE]
      conv => whnf
      refine ⟨by decide, by decide, Nat.le_refl 8, ?_⟩
      conv => whnf
      refine ⟨[.lit (.int .u32 u.d)], rfl, ?_⟩
      conv => whnf
      refine ⟨by decide, by decide, Nat.le_refl 8, ?_⟩
      conv => whnf
      refine ⟨[.lit (.int .u32 u.d)], rfl, Nat.le_of_ble_eq_true rfl, ?_⟩
      conv => whnf
      refine ⟨by decide, by decide, Nat.le_refl 8, ?_⟩
      conv => whnf
      refine ⟨[.lit (.int .u32 u.a)], rfl, Nat.le_of_ble_eq_true rfl, ?_⟩
      conv => whnf
      refine ⟨_, _, rfl, rfl, ⟨i + 1, hw, by omega, ?_⟩, by rw [hw]; omega⟩
      rw [hstep]
      rfl
  · rename_i q
    have q' : ¬ (i : Int) < 64 := of_decide_eq_false q
    obtain rfl : i = 64 := by omega
    obtain ⟨u, hu⟩ : ∃ u, u = rnds bs v 64 := ⟨_, rfl⟩
    have hblk : blk v bs = add8 v u := by rw [hu]; rfl
    rw [hblk, ← hu]
    conv => whnf
    refine VLoop.enter [0, 7, 15, 16] ?_
    conv => whnf
    refine VLoop.ind3 (n0 := 2) (α := Int) (β := Nat) (γ := List (List PV)) noM [0, 7, 15, 16] (fun a L E => ⟨155, 0, [(0, .one (.p (.sl (v.l.map e32)))), (7, .one (.hs 0 0 8)), (15, .one (.hs 1 0 L)), (16, vint a)], [(0, some (.arr 1 (u.l.map e32))), (1, some (.arr 1 E))]⟩)
      (fun a L E => ∃ n : Nat, a = n ∧ n ≤ 8 ∧ n = L ∧ E = ((add8 v u).l.take n).map e32) (fun a _ _ => (8 - a).toNat) ?_ 0 0 [] ⟨0, rfl, by omega, rfl, rfl⟩
    rintro _ _ _ ⟨n, rfl, hn, rfl, rfl⟩
    have hlt : (((add8 v u).l.take n).map e32).length = n := by rw [List.length_map, List.length_take]; show min n 8 = n; omega
    conv => whnf
    split
    · rename_i q1
      have q1' : (n : Int) < 8 := of_decide_eq_true q1
      have hw : IntKind.i64.wrap ((n : Int) + 1) = ((n + 1 : Nat) : Int) := by rw [wrap_in _ (by omega) (by omega)]; omega
      have en : ((n : Nat) : Int).toNat = n := Int.toNat_natCast n
      conv => whnf
      refine VDraw.goR [0, 0, 0, 6, 14, 0, 0, 96, 224, 510, 1022, 2047, 4095] [10, 11] [] [(11, [1])] rfl (by decide +kernel) ?_
      conv => whnf
      refine ⟨by omega, (show (n : Int) < 8 by omega), _, at32 v.l en (show n < 8 by omega), ?_⟩
      conv => whnf
      refine ⟨by omega, by omega, Nat.le_refl 8, ?_⟩
      conv => whnf
      refine ⟨_, at32 u.l (ez n) (show n < 8 by omega), ?_⟩
      conv => whnf
      refine ⟨⟨rfl, hlt.symm, rfl⟩, Nat.le_refl 1, ?_⟩
      conv => whnf
      refine ⟨(fun q => by cases q), app32 (show (((add8 v u).l.take n).map e32).length + 1 ≤ _ by omega), fun el hel => by cases List.mem_singleton.1 hel; rfl, ?_⟩
      conv => whnf
      refine ⟨_, _, _, rfl, rfl, ⟨n + 1, hw, by omega, ?_, ?_⟩, by rw [hw]; omega⟩
      · rw [hlt]; rfl
      · show ((add8 v u).l.take n).map e32 ++ [e32 (addU (v.l.getD n 0) (u.l.getD n 0))] = _
        rw [e32_snoc]
        have : n = 0 ∨ n = 1 ∨ n = 2 ∨ n = 3 ∨ n = 4 ∨ n = 5 ∨ n = 6 ∨ n = 7 := by omega
        rcases this with rfl | rfl | rfl | rfl | rfl | rfl | rfl | rfl <;> rfl
    · rename_i q1
      have q1' : ¬ (n : Int) < 8 := of_decide_eq_false q1
      obtain rfl : n = 8 := by omega
      conv => whnf
      refine ⟨trivial, ?_⟩
      conv => whnf
      exact ⟨rfl, rfl⟩
end Go.Abs.E
