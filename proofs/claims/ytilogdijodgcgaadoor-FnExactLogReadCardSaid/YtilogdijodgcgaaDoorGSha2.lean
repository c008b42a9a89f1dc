import Derived.Test.YtilogdijodgcgaaDoorGSha1
set_option linter.unusedSimpArgs false
set_option linter.unusedVariables false
namespace Go.Abs.E
open Go Go.Abs Go.Proofs Go.RowKit
attribute [local irreducible] IntKind.wrap
def cvU (n : Int) : Int := IntKind.u32.wrap n
def sg0 (x : Int) : Int := xorU (xorU (rot x 7) (rot x 18)) (shrU x 3)
def sg1 (y : Int) : Int := xorU (xorU (rot y 17) (rot y 19)) (shrU y 10)
def wd (bs : List Int) (k : Nat) : Int := orU (orU (orU (shlU (cvU (bs.getD (4 * k) 0)) 24) (shlU (cvU (bs.getD (4 * k + 1) 0)) 16)) (shlU (cvU (bs.getD (4 * k + 2) 0)) 8)) (cvU (bs.getD (4 * k + 3) 0))
def nx (l : List Int) (k : Nat) : Int := addU (addU (addU (l.getD (k - 16) 0) (sg0 (l.getD (k - 15) 0))) (l.getD (k - 7) 0)) (sg1 (l.getD (k - 2) 0))
def nw (bs l : List Int) (k : Nat) : Int := if k < 16 then wd bs k else nx l k
def words (bs : List Int) : Nat → List Int
  | 0 => []
  | k + 1 => words bs k ++ [nw bs (words bs k) k]
theorem words_len (bs : List Int) : ∀ k, (words bs k).length = k
  | 0 => rfl
  | k + 1 => by unfold words; rw [List.length_append, words_len bs k]; rfl
@[reducible] def e8 (n : Int) : List PV := [.lit (.int .u8 n)]
@[reducible] def e32 (n : Int) : List PV := [.lit (.int .u32 n)]
theorem e32_snoc (l : List Int) (x : Int) : l.map e32 ++ [e32 x] = (l ++ [x]).map e32 := by simp
theorem at8 (bs : List Int) {j i : Nat} (e : j = i) (h : i < bs.length) : (bs.map e8).getD j [] = e8 (bs.getD i 0) := by rw [e]; exact getD_map e8 bs i 0 h
theorem at32 (l : List Int) {j i : Nat} (e : j = i) (h : i < l.length) : (l.map e32).getD j [] = e32 (l.getD i 0) := by rw [e]; exact getD_map e32 l i 0 h
theorem by32 : Tryd.prog.bytesOf 71 + 1 ≤ 100 := by decide +kernel
theorem app32 {n : Nat} (h : n ≤ 1000000) : n * (Tryd.prog.bytesOf 71 + 1) ≤ 140737488355328 := Nat.le_trans (Nat.mul_le_mul h by32) (by decide)
set_option maxHeartbeats 16000000 in
set_option maxRecDepth 100000 in
theorem specWords_ok (bs : List Int) (hb : 64 ≤ bs.length) (hb2 : bs.length ≤ 1099511627776) : Good Tryd.prog 81 [.one (.p (.sl (bs.map e8)))] [] (.one (.hs 0 0 64)) [.arr 1 ((words bs 64).map e32)] := by
  refine good_e noM Tryd.func81 rfl rfl ?_
  conv => whnf
  refine ⟨by decide, by decide, by decide +kernel, ?_⟩
  conv => whnf
  refine VLoop.enter [0, 3, 4] ?_
  conv => whnf
  refine VLoop.ind3 (n0 := 1) (α := Int) (β := Nat) (γ := List (List PV)) noM [0, 3, 4] (fun a L E => ⟨100, 0, [(0, .one (.p (.sl (bs.map e8)))), (3, .one (.hs 0 0 L)), (4, vint a)], [(0, some (.arr 1 E))]⟩)
    (fun a L E => ∃ i : Nat, a = i ∧ i ≤ 16 ∧ i = L ∧ E = (words bs i).map e32) (fun a _ _ => (16 - a).toNat) ?_ 0 0 [] ⟨0, rfl, by omega, rfl, rfl⟩
  rintro _ _ _ ⟨i, rfl, hi, rfl, rfl⟩
  conv => whnf
  split
  · rename_i q
    have q' : (i : Int) < 16 := of_decide_eq_true q
    have hw : IntKind.i64.wrap ((i : Int) + 1) = ((i + 1 : Nat) : Int) := by rw [wrap_in _ (by omega) (by omega)]; omega
    have h4 : IntKind.i64.wrap (4 * (i : Int)) = ((4 * i : Nat) : Int) := by rw [wrap_in _ (by omega) (by omega)]; omega
    have h41 : IntKind.i64.wrap (((4 * i : Nat) : Int) + 1) = ((4 * i + 1 : Nat) : Int) := by rw [wrap_in _ (by omega) (by omega)]; omega
    have h42 : IntKind.i64.wrap (((4 * i : Nat) : Int) + 2) = ((4 * i + 2 : Nat) : Int) := by rw [wrap_in _ (by omega) (by omega)]; omega
    have h43 : IntKind.i64.wrap (((4 * i : Nat) : Int) + 3) = ((4 * i + 3 : Nat) : Int) := by rw [wrap_in _ (by omega) (by omega)]; omega
    have hlen : (bs.map e8).length = bs.length := List.length_map ..
    conv => whnf
    refine VDraw.goR [0, 0, 0, 4, 14, 30, 62, 126, 0, 0, 512, 1536, 3840, 7936, 16128, 32512, 65534, 0, 0, 262144, 786432, 1966080, 4063232, 8257536, 16646144, 33554430, 0, 0, 134217728, 402653184, 1006632960, 2080374784, 4227858432, 8589934590, 17179869182, 34359738367, 68719476735] [6, 14, 23, 32, 34, 35] [] [(35, [0])] rfl (by decide +kernel) ?_
    conv => whnf
    rw [h4]
    refine ⟨by omega, by rw [hlen]; omega, _, at8 bs (i := 4 * i) (Int.toNat_natCast _) (by omega), ?_⟩
    conv => whnf
    refine ⟨trivial, ?_⟩
    conv => whnf
    rw [h4, h41]
    refine ⟨by omega, by rw [hlen]; omega, _, at8 bs (i := 4 * i + 1) (Int.toNat_natCast _) (by omega), ?_⟩
    conv => whnf
    refine ⟨trivial, ?_⟩
    conv => whnf
    rw [h4, h42]
    refine ⟨by omega, by rw [hlen]; omega, _, at8 bs (i := 4 * i + 2) (Int.toNat_natCast _) (by omega), ?_⟩
    conv => whnf
    refine ⟨trivial, ?_⟩
    conv => whnf
    rw [h4, h43]
    refine ⟨by omega, by rw [hlen]; omega, _, at8 bs (i := 4 * i + 3) (Int.toNat_natCast _) (by omega), ?_⟩
    conv => whnf
    refine ⟨trivial, ?_⟩
    conv => whnf
    refine ⟨⟨rfl, by rw [List.length_map, words_len], rfl⟩, Nat.le_refl 1, ?_⟩
    conv => whnf
    refine ⟨(fun q => by cases q), app32 (show ((words bs i).map e32).length + 1 ≤ _ by rw [List.length_map, words_len]; omega), fun el hel => by cases List.mem_singleton.1 hel; rfl, ?_⟩
    conv => whnf
    refine ⟨_, _, _, rfl, rfl, ⟨i + 1, hw, by omega, ?_, ?_⟩, by rw [hw]; omega⟩
    · rw [List.length_map, words_len]; rfl
    · show (words bs i).map e32 ++ [e32 _] = (words bs i ++ [nw bs (words bs i) i]).map e32
      rw [e32_snoc]
      unfold nw
      rw [if_pos (by omega)]
      rfl
  · rename_i q
    have q' : ¬ (i : Int) < 16 := of_decide_eq_false q
    obtain rfl : i = 16 := by omega
    conv => whnf
    refine VLoop.enter [3, 5] ?_
    conv => whnf
    refine VLoop.ind3 (n0 := 1) (α := Int) (β := Nat) (γ := List (List PV)) noM [3, 5] (fun a L E => ⟨100, 0, [(3, .one (.hs 0 0 L)), (5, vint a)], [(0, some (.arr 1 E))]⟩)
      (fun a L E => ∃ i : Nat, a = i ∧ 16 ≤ i ∧ i ≤ 64 ∧ i = L ∧ E = (words bs i).map e32) (fun a _ _ => (64 - a).toNat) ?_ 16 16 _ ⟨16, rfl, by omega, by omega, rfl, rfl⟩
    rintro _ _ _ ⟨i, rfl, hi0, hi1, rfl, rfl⟩
    have hl := words_len bs i
    have hlm : ((words bs i).map e32).length = i := by rw [List.length_map, hl]
    conv => whnf
    split
    · rename_i q
      have q' : (i : Int) < 64 := of_decide_eq_true q
      have hw : IntKind.i64.wrap ((i : Int) + 1) = ((i + 1 : Nat) : Int) := by rw [wrap_in _ (by omega) (by omega)]; omega
      have w15 : IntKind.i64.wrap ((i : Int) - 15) = ((i - 15 : Nat) : Int) := by rw [wrap_in _ (by omega) (by omega)]; omega
      have w2 : IntKind.i64.wrap ((i : Int) - 2) = ((i - 2 : Nat) : Int) := by rw [wrap_in _ (by omega) (by omega)]; omega
      have w16 : IntKind.i64.wrap ((i : Int) - 16) = ((i - 16 : Nat) : Int) := by rw [wrap_in _ (by omega) (by omega)]; omega
      have w7 : IntKind.i64.wrap ((i : Int) - 7) = ((i - 7 : Nat) : Int) := by rw [wrap_in _ (by omega) (by omega)]; omega
      have ez : ∀ n : Nat, 0 + ((n : Nat) : Int).toNat = n := fun n => by omega
      conv => whnf
      rw [w15]
      refine ⟨by omega, by omega, by omega, ?_⟩
      conv => whnf
      refine ⟨_, at32 (words bs i) (ez (i - 15)) (by omega), ?_⟩
      conv => whnf
      rw [w2]
      refine ⟨by omega, by omega, by omega, ?_⟩
      conv => whnf
      refine ⟨_, at32 (words bs i) (ez (i - 2)) (by omega), ?_⟩
      conv => whnf
      refine .mk _ _ false Tryd.call83 (turn_ok _ 7 (by decide) (by decide)) (Nat.le_of_ble_eq_true rfl) (.inl rfl) ?_
      conv => whnf
      refine .mk _ _ false Tryd.call83 (turn_ok _ 18 (by decide) (by decide)) (Nat.le_of_ble_eq_true rfl) (.inl rfl) ?_
      conv => whnf
      refine .mk _ _ false Tryd.call83 (turn_ok _ 17 (by decide) (by decide)) (Nat.le_of_ble_eq_true rfl) (.inl rfl) ?_
      conv => whnf
      refine .mk _ _ false Tryd.call83 (turn_ok _ 19 (by decide) (by decide)) (Nat.le_of_ble_eq_true rfl) (.inl rfl) ?_
      conv => whnf
      refine VDraw.goR [0, 0, 0, 4, 14, 30, 0, 126, 0, 0, 512, 1792, 3840, 8190, 0, 32766, 65534, 131071, 262143] [16, 17] [] [(17, [0])] rfl (by decide +kernel) ?_
      conv => whnf
      rw [w16]
      refine ⟨by omega, by omega, by omega, ?_⟩
      conv => whnf
      refine ⟨_, at32 (words bs i) (ez (i - 16)) (by omega), ?_⟩
      conv => whnf
      rw [w7]
      refine ⟨by omega, by omega, by omega, ?_⟩
      conv => whnf
      refine ⟨_, at32 (words bs i) (ez (i - 7)) (by omega), ?_⟩
      conv => whnf
      refine ⟨⟨rfl, hlm.symm, rfl⟩, Nat.le_refl 1, ?_⟩
      conv => whnf
      refine ⟨(fun q => by cases q), app32 (show ((words bs i).map e32).length + 1 ≤ _ by omega), fun el hel => by cases List.mem_singleton.1 hel; rfl, ?_⟩
      conv => whnf
      refine ⟨_, _, _, rfl, rfl, ⟨i + 1, hw, by omega, by omega, ?_, ?_⟩, by rw [hw]; omega⟩
      · rw [hlm]; rfl
      · show (words bs i).map e32 ++ [e32 _] = (words bs i ++ [nw bs (words bs i) i]).map e32
        rw [e32_snoc]
        unfold nw
        rw [if_neg (by omega)]
        rfl
    · rename_i q
      have q' : ¬ (i : Int) < 64 := of_decide_eq_false q
      obtain rfl : i = 64 := by omega
      conv => whnf
      refine ⟨trivial, ?_⟩
      conv => whnf
      exact ⟨rfl, rfl⟩
end Go.Abs.E
