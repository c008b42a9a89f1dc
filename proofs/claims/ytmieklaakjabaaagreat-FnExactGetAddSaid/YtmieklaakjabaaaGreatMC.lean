import Derived.Test.YtmieklaakjabaaaGreatMB
set_option linter.unusedSimpArgs false
set_option linter.unusedVariables false
namespace Go.Abs.F
open Go Go.Abs Go.Proofs Go.RowKit
attribute [local irreducible] IntKind.wrap
/-- The share of those of d blocks. -/
def share (c d : Int) : Int := if 1 < d then 7 * (65536 / (d * (d - 1))) / 8 else 65536 / c
/-- The first parts, and what is left. -/
def degL (c : Int) : Nat → List Int × Int
  | 0 => ([], 65536)
  | k + 1 => ((degL c k).1 ++ [min (share c ((k + 1 : Nat) : Int)) (degL c k).2], (degL c k).2 - min (share c ((k + 1 : Nat) : Int)) (degL c k).2)
def degs (c : Int) : List Int := (degL c (c - 1).toNat).1 ++ [(degL c (c - 1).toNat).2]
theorem share_rng {c d : Int} (h1 : 1 ≤ c) (h2 : c ≤ 24) (h3 : 1 ≤ d) (h4 : d ≤ 24) : 0 ≤ share c d ∧ share c d ≤ 65536 := by
  unfold share
  split
  · have h5 : 1 ≤ d * (d - 1) := by
      have : 1 * 1 ≤ d * (d - 1) := Int.mul_le_mul (by omega) (by omega) (by omega) (by omega)
      omega
    have h6 : 0 ≤ 65536 / (d * (d - 1)) := Int.ediv_nonneg (by omega) (by omega)
    have h7 : 65536 / (d * (d - 1)) ≤ 65536 := Int.ediv_le_self _ (by omega)
    omega
  · have h6 : 0 ≤ 65536 / c := Int.ediv_nonneg (by omega) (by omega)
    have h7 : 65536 / c ≤ 65536 := Int.ediv_le_self _ (by omega)
    omega
theorem degL_rng {c : Int} (h1 : 1 ≤ c) (h2 : c ≤ 24) : ∀ k : Nat, k ≤ 24 → 0 ≤ (degL c k).2 ∧ (degL c k).2 ≤ 65536 ∧ (degL c k).1.length = k ∧ (degL c k).1.sum + (degL c k).2 = 65536 ∧ ∀ x ∈ (degL c k).1, 0 ≤ x
  | 0, _ => ⟨(show (0:Int) ≤ 65536 by decide), (show (65536:Int) ≤ 65536 by decide), rfl, rfl, fun x h => by cases h⟩
  | k + 1, hk => by
    obtain ⟨i1, i2, i3, i4, i5⟩ := degL_rng h1 h2 k (by omega)
    have hs := share_rng h1 h2 (d := ((k + 1 : Nat) : Int)) (by omega) (by omega)
    have hm : 0 ≤ min (share c ((k + 1 : Nat) : Int)) (degL c k).2 := by omega
    refine ⟨?_, ?_, ?_, ?_, ?_⟩
    · show 0 ≤ (degL c k).2 - min (share c ((k + 1 : Nat) : Int)) (degL c k).2; omega
    · show (degL c k).2 - min (share c ((k + 1 : Nat) : Int)) (degL c k).2 ≤ 65536; omega
    · show ((degL c k).1 ++ [_]).length = k + 1
      rw [List.length_append, i3]; rfl
    · show ((degL c k).1 ++ [min (share c ((k + 1 : Nat) : Int)) (degL c k).2]).sum + ((degL c k).2 - min (share c ((k + 1 : Nat) : Int)) (degL c k).2) = 65536
      rw [List.sum_append, List.sum_cons, List.sum_nil]; omega
    · intro x hx
      rcases List.mem_append.1 hx with hx | hx
      · exact i5 x hx
      · rw [List.mem_singleton.1 hx]; exact hm
theorem degs_rng {c : Int} (h1 : 1 ≤ c) (h2 : c ≤ 24) : ((degs c).length : Int) = c ∧ (degs c).sum = 65536 ∧ ∀ x ∈ degs c, 0 ≤ x := by
  obtain ⟨i1, i2, i3, i4, i5⟩ := degL_rng h1 h2 (c - 1).toNat (by omega)
  refine ⟨?_, ?_, fun x hx => ?_⟩
  · unfold degs
    rw [List.length_append, i3, List.length_singleton]; omega
  · unfold degs
    rw [List.sum_append, List.sum_cons, List.sum_nil]; omega
  · rcases List.mem_append.1 hx with hx | hx
    · exact i5 x hx
    · rw [List.mem_singleton.1 hx]; exact i1
theorem quoW {a b : Int} (h0 : 0 ≤ a) (h1 : a ≤ 1100000) (hb : 0 < b) : IntKind.i64.wrap (a.tdiv b) = a / b := by
  rw [Int.tdiv_eq_ediv_of_nonneg h0]
  have h6 : 0 ≤ a / b := Int.ediv_nonneg h0 (by omega)
  have h7 : a / b ≤ a := Int.ediv_le_self _ h0
  exact wrap_in _ (by omega) (by omega)
theorem mapS (l : List Int) (x : Int) : l.map eI ++ [eI x] = (l ++ [x]).map eI := by rw [List.map_append]; rfl
theorem if_min {a b : Int} : (if b < a then b else a) = min a b := by omega
set_option maxHeartbeats 16000000 in
set_option maxRecDepth 100000 in
theorem implDeg_ok (c : Int) (h1 : 1 ≤ c) (h2 : c ≤ 24) : Good Tryz.prog 122 [vint c] [] (.one (.hs 0 0 (degs c).length)) [.arr 1 ((degs c).map eI)] := by
  have hin : inR c 1 24 = true := inR_iff.2 ⟨h1, h2⟩
  refine good_e noM Tryz.func122 rfl rfl ?_
  conv => whnf
  refine .mk _ _ false Tryz.call29 (within_ok c 1 24) (Nat.le_of_ble_eq_true rfl) (.inl rfl) ?_
  conv => whnf
  rw [hin]
  conv => whnf
  refine VLoop.enter [0, 3, 4, 5] ?_
  conv => whnf
  refine VLoop.ind4 (n0 := 1) (α := Int) (β := Int) (γ := Nat) (δ := List (List PV)) noM [0, 3, 4, 5] (fun d left n E => ⟨42, 0, [(0, vint c), (3, .one (.hs 0 0 n)), (4, vint left), (5, vint d)], [(0, some (.arr 1 E))]⟩)
    (fun d left n E => ∃ k : Nat, d = ((k + 1 : Nat) : Int) ∧ d ≤ c ∧ left = (degL c k).2 ∧ n = k ∧ E = (degL c k).1.map eI) (fun d _ _ _ => (c - d).toNat) ?_ 1 65536 0 [] ⟨0, rfl, h1, rfl, rfl, rfl⟩
  rintro _ _ k _ ⟨k', rfl, hk, rfl, hkk, rfl⟩
  subst hkk
  obtain ⟨i1, i2, i3, i4, i5⟩ := degL_rng h1 h2 k (by omega)
  have hs := share_rng h1 h2 (d := ((k + 1 : Nat) : Int)) (by omega) (by omega)
  have hml : ((degL c k).1.map eI).length = k := by rw [List.length_map, i3]
  have nx : ∀ k : Nat, k ≤ 24 → IntKind.i64.wrap (((k + 1 : Nat) : Int) + 1) = ((k + 1 + 1 : Nat) : Int) := fun k hk => by rw [wrap_in _ (by omega) (by omega)]; omega
  have sb : IntKind.i64.wrap ((degL c k).2 - min (share c ((k + 1 : Nat) : Int)) (degL c k).2) = (degL c (k + 1)).2 := wrap_in _ (by omega) (by omega)
  conv => whnf
  split
  · rename_i q
    have q' := of_decide_eq_true q
    have hq1 := quoW (a := 65536) (b := c) (by omega) (by omega) (by omega)
    conv => whnf
    rw [abin_quo (a := _) (b := _) rfl rfl (by omega)]
    conv => whnf
    rw [hq1]
    split
    · rename_i q2
      have q2' := of_decide_eq_true q2
      have e1 : IntKind.i64.wrap (((k + 1 : Nat) : Int) - 1) = ((k + 1 : Nat) : Int) - 1 := wrap_in _ (by omega) (by omega)
      have hb1 : ((k + 1 : Nat) : Int) * (((k + 1 : Nat) : Int) - 1) ≤ 24 * 24 := Int.mul_le_mul (by omega) (by omega) (by omega) (by omega)
      have hb0 : 1 * 1 ≤ ((k + 1 : Nat) : Int) * (((k + 1 : Nat) : Int) - 1) := Int.mul_le_mul (by omega) (by omega) (by omega) (by omega)
      obtain ⟨dd, hdd⟩ : ∃ dd, dd = ((k + 1 : Nat) : Int) * (((k + 1 : Nat) : Int) - 1) := ⟨_, rfl⟩
      rw [← hdd] at hb1 hb0
      have e2 : IntKind.i64.wrap dd = dd := wrap_in _ (by omega) (by omega)
      have hq2 := quoW (a := 65536) (b := dd) (by omega) (by omega) (by omega)
      conv => whnf
      rw [e1, ← hdd, e2]
      rw [abin_quo (a := _) (b := _) rfl rfl (by omega)]
      conv => whnf
      rw [hq2]
      have hsh : share c ((k + 1 : Nat) : Int) = 7 * (65536 / dd) / 8 := by unfold share; rw [if_pos q2', hdd]
      have h6 : 0 ≤ 65536 / dd := Int.ediv_nonneg (by omega) (by omega)
      have h7 : 65536 / dd ≤ 65536 := Int.ediv_le_self _ (by omega)
      have e3 : IntKind.i64.wrap (7 * (65536 / dd)) = 7 * (65536 / dd) := wrap_in _ (by omega) (by omega)
      have e4 := quoW (a := 7 * (65536 / dd)) (b := 8) (by omega) (by omega) (by omega)
      rw [e3, e4, ← hsh, if_min]
      refine ⟨⟨rfl, hml.symm, rfl⟩, Nat.le_refl 1, ?_⟩
      conv => whnf
      refine ⟨(fun q => by cases q), app3 (show ((degL c k).1.map eI).length + 1 ≤ _ by rw [hml]; omega), fun el hel => by cases List.mem_singleton.1 hel; rfl, ?_⟩
      conv => whnf
      exact ⟨_, _, _, _, rfl, rfl, ⟨k + 1, nx k (by omega), by rw [nx k (by omega)]; omega, sb, show ((degL c k).1.map eI).length + 1 = k + 1 by rw [hml], mapS _ _⟩, by rw [nx k (by omega)]; omega⟩
    · rename_i q2
      have q2' := of_decide_eq_false q2
      have hsh : share c ((k + 1 : Nat) : Int) = 65536 / c := by unfold share; rw [if_neg q2']
      conv => whnf
      rw [← hsh, if_min]
      refine ⟨⟨rfl, hml.symm, rfl⟩, Nat.le_refl 1, ?_⟩
      conv => whnf
      refine ⟨(fun q => by cases q), app3 (show ((degL c k).1.map eI).length + 1 ≤ _ by rw [hml]; omega), fun el hel => by cases List.mem_singleton.1 hel; rfl, ?_⟩
      conv => whnf
      exact ⟨_, _, _, _, rfl, rfl, ⟨k + 1, nx k (by omega), by rw [nx k (by omega)]; omega, sb, show ((degL c k).1.map eI).length + 1 = k + 1 by rw [hml], mapS _ _⟩, by rw [nx k (by omega)]; omega⟩
  · rename_i q
    have q' := of_decide_eq_false q
    have ek : k = (c - 1).toNat := by omega
    subst ek
    have hdl : (degs c).length = ((degL c (c - 1).toNat).1.map eI).length + 1 := by unfold degs; rw [List.length_append, List.length_map]; rfl
    conv => whnf
    refine ⟨⟨rfl, hml.symm, rfl⟩, Nat.le_refl 1, ?_⟩
    conv => whnf
    refine ⟨(fun q => by cases q), app3 (show ((degL c (c - 1).toNat).1.map eI).length + 1 ≤ _ by rw [hml]; omega), fun el hel => by cases List.mem_singleton.1 hel; rfl, ?_⟩
    conv => whnf
    refine ⟨trivial, ?_⟩
    conv => whnf
    refine ⟨?_, ?_⟩
    · rw [hdl]; rfl
    · unfold degs
      rw [List.map_append]; rfl
set_option maxHeartbeats 16000000 in
set_option maxRecDepth 100000 in
theorem specDeg_ok (c : Int) (h1 : 1 ≤ c) (h2 : c ≤ 24) : Good Tryz.prog 125 [vint c] [] (.one (.hs 0 0 (degs c).length)) [.arr 1 ((degs c).map eI)] := by
  refine good_e noM Tryz.func125 rfl rfl ?_
  conv => whnf
  refine VLoop.enter [0, 3, 4, 5] ?_
  conv => whnf
  refine VLoop.ind4 (n0 := 1) (α := Int) (β := Int) (γ := Nat) (δ := List (List PV)) noM [0, 3, 4, 5] (fun d left n E => ⟨39, 0, [(0, vint c), (3, .one (.hs 0 0 n)), (4, vint left), (5, vint d)], [(0, some (.arr 1 E))]⟩)
    (fun d left n E => ∃ k : Nat, d = ((k + 1 : Nat) : Int) ∧ d ≤ c ∧ left = (degL c k).2 ∧ n = k ∧ E = (degL c k).1.map eI) (fun d _ _ _ => (c - d).toNat) ?_ 1 65536 0 [] ⟨0, rfl, h1, rfl, rfl, rfl⟩
  rintro _ _ k _ ⟨k', rfl, hk, rfl, hkk, rfl⟩
  subst hkk
  obtain ⟨i1, i2, i3, i4, i5⟩ := degL_rng h1 h2 k (by omega)
  have hs := share_rng h1 h2 (d := ((k + 1 : Nat) : Int)) (by omega) (by omega)
  have hml : ((degL c k).1.map eI).length = k := by rw [List.length_map, i3]
  have nx : ∀ k : Nat, k ≤ 24 → IntKind.i64.wrap (((k + 1 : Nat) : Int) + 1) = ((k + 1 + 1 : Nat) : Int) := fun k hk => by rw [wrap_in _ (by omega) (by omega)]; omega
  have sb : IntKind.i64.wrap ((degL c k).2 - min (share c ((k + 1 : Nat) : Int)) (degL c k).2) = (degL c (k + 1)).2 := wrap_in _ (by omega) (by omega)
  conv => whnf
  split
  · rename_i q
    have q' := of_decide_eq_true q
    have hq1 := quoW (a := 65536) (b := c) (by omega) (by omega) (by omega)
    conv => whnf
    rw [abin_quo (a := _) (b := _) rfl rfl (by omega)]
    conv => whnf
    rw [hq1]
    split
    · rename_i q2
      have q2' := of_decide_eq_true q2
      have e1 : IntKind.i64.wrap (((k + 1 : Nat) : Int) - 1) = ((k + 1 : Nat) : Int) - 1 := wrap_in _ (by omega) (by omega)
      have hb1 : ((k + 1 : Nat) : Int) * (((k + 1 : Nat) : Int) - 1) ≤ 24 * 24 := Int.mul_le_mul (by omega) (by omega) (by omega) (by omega)
      have hb0 : 1 * 1 ≤ ((k + 1 : Nat) : Int) * (((k + 1 : Nat) : Int) - 1) := Int.mul_le_mul (by omega) (by omega) (by omega) (by omega)
      obtain ⟨dd, hdd⟩ : ∃ dd, dd = ((k + 1 : Nat) : Int) * (((k + 1 : Nat) : Int) - 1) := ⟨_, rfl⟩
      rw [← hdd] at hb1 hb0
      have e2 : IntKind.i64.wrap dd = dd := wrap_in _ (by omega) (by omega)
      have hq2 := quoW (a := 65536) (b := dd) (by omega) (by omega) (by omega)
      conv => whnf
      rw [e1, ← hdd, e2]
      rw [abin_quo (a := _) (b := _) rfl rfl (by omega)]
      conv => whnf
      rw [hq2]
      have hsh : share c ((k + 1 : Nat) : Int) = 7 * (65536 / dd) / 8 := by unfold share; rw [if_pos q2', hdd]
      have h6 : 0 ≤ 65536 / dd := Int.ediv_nonneg (by omega) (by omega)
      have h7 : 65536 / dd ≤ 65536 := Int.ediv_le_self _ (by omega)
      have e3 : IntKind.i64.wrap (65536 / dd * 7) = 7 * (65536 / dd) := by rw [Int.mul_comm]; exact wrap_in _ (by omega) (by omega)
      have e4 := quoW (a := 7 * (65536 / dd)) (b := 8) (by omega) (by omega) (by omega)
      rw [e3, e4, ← hsh]
      split
      · rename_i q3
        have q3' := of_decide_eq_true q3
        have hmn : min (share c ((k + 1 : Nat) : Int)) (degL c k).2 = (degL c k).2 := by omega
        rw [hmn] at sb
        have hst : (degL c (k + 1)).1 = (degL c k).1 ++ [(degL c k).2] := by show _ ++ [_] = _; rw [hmn]
        conv => whnf
        refine ⟨⟨rfl, hml.symm, rfl⟩, Nat.le_refl 1, ?_⟩
        conv => whnf
        refine ⟨(fun q => by cases q), app3 (show ((degL c k).1.map eI).length + 1 ≤ _ by rw [hml]; omega), fun el hel => by cases List.mem_singleton.1 hel; rfl, ?_⟩
        conv => whnf
        exact ⟨_, _, _, _, rfl, rfl, ⟨k + 1, nx k (by omega), by rw [nx k (by omega)]; omega, sb, show ((degL c k).1.map eI).length + 1 = k + 1 by rw [hml], by rw [hst]; exact mapS _ _⟩, by rw [nx k (by omega)]; omega⟩
      · rename_i q3
        have q3' := of_decide_eq_false q3
        have hmn : min (share c ((k + 1 : Nat) : Int)) (degL c k).2 = share c ((k + 1 : Nat) : Int) := by omega
        rw [hmn] at sb
        have hst : (degL c (k + 1)).1 = (degL c k).1 ++ [share c ((k + 1 : Nat) : Int)] := by show _ ++ [_] = _; rw [hmn]
        conv => whnf
        refine ⟨⟨rfl, hml.symm, rfl⟩, Nat.le_refl 1, ?_⟩
        conv => whnf
        refine ⟨(fun q => by cases q), app3 (show ((degL c k).1.map eI).length + 1 ≤ _ by rw [hml]; omega), fun el hel => by cases List.mem_singleton.1 hel; rfl, ?_⟩
        conv => whnf
        exact ⟨_, _, _, _, rfl, rfl, ⟨k + 1, nx k (by omega), by rw [nx k (by omega)]; omega, sb, show ((degL c k).1.map eI).length + 1 = k + 1 by rw [hml], by rw [hst]; exact mapS _ _⟩, by rw [nx k (by omega)]; omega⟩
    · rename_i q2
      have q2' := of_decide_eq_false q2
      have hsh : share c ((k + 1 : Nat) : Int) = 65536 / c := by unfold share; rw [if_neg q2']
      conv => whnf
      rw [← hsh]
      split
      · rename_i q3
        have q3' := of_decide_eq_true q3
        have hmn : min (share c ((k + 1 : Nat) : Int)) (degL c k).2 = (degL c k).2 := by omega
        rw [hmn] at sb
        have hst : (degL c (k + 1)).1 = (degL c k).1 ++ [(degL c k).2] := by show _ ++ [_] = _; rw [hmn]
        conv => whnf
        refine ⟨⟨rfl, hml.symm, rfl⟩, Nat.le_refl 1, ?_⟩
        conv => whnf
        refine ⟨(fun q => by cases q), app3 (show ((degL c k).1.map eI).length + 1 ≤ _ by rw [hml]; omega), fun el hel => by cases List.mem_singleton.1 hel; rfl, ?_⟩
        conv => whnf
        exact ⟨_, _, _, _, rfl, rfl, ⟨k + 1, nx k (by omega), by rw [nx k (by omega)]; omega, sb, show ((degL c k).1.map eI).length + 1 = k + 1 by rw [hml], by rw [hst]; exact mapS _ _⟩, by rw [nx k (by omega)]; omega⟩
      · rename_i q3
        have q3' := of_decide_eq_false q3
        have hmn : min (share c ((k + 1 : Nat) : Int)) (degL c k).2 = share c ((k + 1 : Nat) : Int) := by omega
        rw [hmn] at sb
        have hst : (degL c (k + 1)).1 = (degL c k).1 ++ [share c ((k + 1 : Nat) : Int)] := by show _ ++ [_] = _; rw [hmn]
        conv => whnf
        refine ⟨⟨rfl, hml.symm, rfl⟩, Nat.le_refl 1, ?_⟩
        conv => whnf
        refine ⟨(fun q => by cases q), app3 (show ((degL c k).1.map eI).length + 1 ≤ _ by rw [hml]; omega), fun el hel => by cases List.mem_singleton.1 hel; rfl, ?_⟩
        conv => whnf
        exact ⟨_, _, _, _, rfl, rfl, ⟨k + 1, nx k (by omega), by rw [nx k (by omega)]; omega, sb, show ((degL c k).1.map eI).length + 1 = k + 1 by rw [hml], by rw [hst]; exact mapS _ _⟩, by rw [nx k (by omega)]; omega⟩
  · rename_i q
    have q' := of_decide_eq_false q
    have ek : k = (c - 1).toNat := by omega
    subst ek
    have hdl : (degs c).length = ((degL c (c - 1).toNat).1.map eI).length + 1 := by unfold degs; rw [List.length_append, List.length_map]; rfl
    conv => whnf
    refine ⟨⟨rfl, hml.symm, rfl⟩, Nat.le_refl 1, ?_⟩
    conv => whnf
    refine ⟨(fun q => by cases q), app3 (show ((degL c (c - 1).toNat).1.map eI).length + 1 ≤ _ by rw [hml]; omega), fun el hel => by cases List.mem_singleton.1 hel; rfl, ?_⟩
    conv => whnf
    refine ⟨trivial, ?_⟩
    conv => whnf
    refine ⟨?_, ?_⟩
    · rw [hdl]; rfl
    · unfold degs
      rw [List.map_append]; rfl
end Go.Abs.F

set_option linter.unusedSimpArgs false
set_option linter.unusedVariables false
namespace Go.Abs.F
open Go Go.Abs Go.Proofs Go.RowKit
attribute [local irreducible] IntKind.wrap
def nxt (s : Int) : Int := (s * 1103515245 + 12345) % 2147483648
def pck (s n : Int) : Int := s / 256 % n
theorem nxt_rng (s : Int) : 0 ≤ nxt s ∧ nxt s ≤ 2147483647 := by unfold nxt; omega
theorem pck_rng {s n : Int} (h : 0 < n) : 0 ≤ pck s n ∧ pck s n < n := ⟨Int.emod_nonneg _ (by omega), Int.emod_lt_of_pos _ h⟩
theorem nxt_eq {s : Int} (h0 : 0 ≤ s) (h1 : s ≤ 2147483647) : (IntKind.i64.wrap (IntKind.i64.wrap (s * 1103515245) + 12345)).tmod 2147483648 = nxt s := by
  rw [wrap_in (s * 1103515245) (by omega) (by omega), wrap_in _ (by omega) (by omega), Int.tmod_eq_emod_of_nonneg (by omega)]; rfl
theorem pck_eq {s n : Int} (h0 : 0 ≤ s) (h1 : s ≤ 2147483647) : (IntKind.i64.wrap (s.tdiv 256)).tmod n = pck s n := by
  rw [Int.tdiv_eq_ediv_of_nonneg h0, wrap_in _ (by omega) (by omega), Int.tmod_eq_emod_of_nonneg (by omega)]; rfl
set_option maxHeartbeats 16000000 in
set_option maxRecDepth 100000 in
theorem l4Next_ok (s : Int) (h0 : 0 ≤ s) (h1 : s ≤ 2147483647) : Good Tryz.prog 110 [vint s] [] (vint (nxt s)) [] := by
  refine good_e noM Tryz.func110 rfl rfl ?_
  conv => whnf
  rw [nxt_eq h0 h1]
  refine ⟨trivial, ?_⟩
  conv => whnf
  exact ⟨rfl, rfl⟩
set_option maxHeartbeats 16000000 in
set_option maxRecDepth 100000 in
theorem l4Pick_ok (s n : Int) (h0 : 0 ≤ s) (h1 : s ≤ 2147483647) (hn : 0 < n) : Good Tryz.prog 112 [vint s, vint n] [] (vint (pck s n)) [] := by
  refine good_e noM Tryz.func112 rfl rfl ?_
  conv => whnf
  rw [abin_rem (a := _) (b := _) rfl rfl (by omega)]
  conv => whnf
  rw [pck_eq h0 h1]
  refine ⟨trivial, ?_⟩
  conv => whnf
  exact ⟨rfl, rfl⟩
set_option maxHeartbeats 16000000 in
set_option maxRecDepth 100000 in
theorem seedNext_ok (s : Int) (h0 : 0 ≤ s) (h1 : s ≤ 2147483647) : Good Tryz.prog 75 [vint s] [] (vint (nxt s)) [] := by
  have hin : inR s 0 2147483647 = true := inR_iff.2 ⟨h0, h1⟩
  refine good_e noM Tryz.func75 rfl rfl ?_
  conv => whnf
  refine .mk _ _ false Tryz.call29 (within_ok s 0 2147483647) (Nat.le_of_ble_eq_true rfl) (.inl rfl) ?_
  conv => whnf
  rw [hin]
  conv => whnf
  rw [nxt_eq h0 h1]
  refine ⟨trivial, ?_⟩
  conv => whnf
  exact ⟨rfl, rfl⟩
set_option maxHeartbeats 16000000 in
set_option maxRecDepth 100000 in
theorem seedPick_ok (s n : Int) (h0 : 0 ≤ s) (h1 : s ≤ 2147483647) (hn : 0 < n) (hn2 : n ≤ 65536) : Good Tryz.prog 74 [vint s, vint n] [] (vint (pck s n)) [] := by
  have hin : inR s 0 2147483647 = true := inR_iff.2 ⟨h0, h1⟩
  have hin2 : inR n 1 65536 = true := inR_iff.2 ⟨by omega, hn2⟩
  refine good_e noM Tryz.func74 rfl rfl ?_
  conv => whnf
  refine .mk _ _ false Tryz.call29 (within_ok s 0 2147483647) (Nat.le_of_ble_eq_true rfl) (.inl rfl) ?_
  conv => whnf
  rw [hin]
  conv => whnf
  refine .mk _ _ false Tryz.call29 (within_ok n 1 65536) (Nat.le_of_ble_eq_true rfl) (.inl rfl) ?_
  conv => whnf
  rw [hin2]
  conv => whnf
  rw [abin_rem (a := _) (b := _) rfl rfl (by omega)]
  conv => whnf
  rw [pck_eq h0 h1]
  refine ⟨trivial, ?_⟩
  conv => whnf
  exact ⟨rfl, rfl⟩
/-- The first parts up to the d-th reach beyond p, those ahead of it do not. -/
structure DegP (l : List Int) (p : Int) (d : Nat) : Prop where
  h1 : 1 ≤ d
  h2 : d ≤ l.length
  lo : (l.take (d - 1)).sum ≤ p
  hi : p < (l.take d).sum
theorem sum_mono {l : List Int} (h : ∀ x ∈ l, 0 ≤ x) {a b : Nat} (hab : a ≤ b) : (l.take a).sum ≤ (l.take b).sum := by
  have e : l.take b = l.take a ++ (l.drop a).take (b - a) := by
    rw [show b = a + (b - a) by omega, List.take_add]; simp
  rw [e, List.sum_append]
  have : ∀ (m : List Int), (∀ x ∈ m, 0 ≤ x) → 0 ≤ m.sum := fun m => by
    induction m with
    | nil => intro _; decide
    | cons x m ih =>
      intro hm
      rw [List.sum_cons]
      have := ih fun y hy => hm y (List.mem_cons_of_mem _ hy)
      have := hm x List.mem_cons_self
      omega
  have := this ((l.drop a).take (b - a)) fun x hx => h x (List.mem_of_mem_drop (List.mem_of_mem_take hx))
  omega
theorem DegP.uniq {l : List Int} {p : Int} (hl : ∀ x ∈ l, 0 ≤ x) {d e : Nat} (h : DegP l p d) (g : DegP l p e) : d = e := by
  rcases Nat.lt_trichotomy d e with q | q | q
  · have := sum_mono hl (a := d) (b := e - 1) (by omega); have := h.hi; have := g.lo; omega
  · exact q
  · have := sum_mono hl (a := e) (b := d - 1) (by omega); have := g.hi; have := h.lo; omega
theorem DegP.ex {l : List Int} {p : Int} (h0 : 0 ≤ p) (h1 : p < l.sum) : ∃ d, DegP l p d := by
  have key : ∀ k, k ≤ l.length → (l.take k).sum ≤ p ∨ ∃ d, DegP l p d := by
    intro k
    induction k with
    | zero => intro _; exact .inl h0
    | succ k ih =>
      intro hk
      rcases ih (by omega) with q | q
      · rcases Int.lt_or_le p (l.take (k + 1)).sum with r | r
        · exact .inr ⟨k + 1, by omega, hk, q, r⟩
        · exact .inl r
      · exact .inr q
  rcases key l.length (Nat.le_refl _) with q | q
  · rw [List.take_length] at q; omega
  · exact q
theorem sum_snoc {l : List Int} {k : Nat} (h : k < l.length) : (l.take (k + 1)).sum = (l.take k).sum + l.getD k 0 := by
  rw [List.take_succ_eq_append_getElem h, List.sum_append, ← gi_lt h, List.sum_cons, List.sum_nil]; omega
theorem sum_le {l : List Int} (h : ∀ x ∈ l, 0 ≤ x) (k : Nat) : (l.take k).sum ≤ l.sum := by
  have := sum_mono h (a := k) (b := k + l.length) (by omega)
  rwa [List.take_of_length_le (l := l) (i := k + l.length) (by omega)] at this
set_option maxHeartbeats 16000000 in
set_option maxRecDepth 100000 in
theorem degreeOf_ok (c p : Int) (h1 : 1 ≤ c) (h2 : c ≤ 24) (h3 : 0 ≤ p) (h4 : p ≤ 65535) (d : Nat) (hd : DegP (degs c) p d) : Good Tryz.prog 107 [vint c, vint p] [] (vint d) [] := by
  have hin : inR p 0 65535 = true := inR_iff.2 ⟨h3, h4⟩
  obtain ⟨r1, r2, r3⟩ := degs_rng h1 h2
  have gd := implDeg_ok c h1 h2
  obtain ⟨l, hl⟩ : ∃ l, l = degs c := ⟨_, rfl⟩
  rw [← hl] at r1 r2 r3 hd gd
  have hm : (l.map eI).length = l.length := List.length_map ..
  refine good_e noM Tryz.func107 rfl rfl ?_
  conv => whnf
  refine .mk _ _ false Tryz.call29 (within_ok p 0 65535) (Nat.le_of_ble_eq_true rfl) (.inl rfl) ?_
  conv => whnf
  rw [hin]
  conv => whnf
  refine .mk _ _ false Tryz.call122 gd (Nat.le_of_ble_eq_true rfl) (.inl rfl) ?_
  conv => whnf
  refine VLoop.enter [1, 5, 12, 13, 14] ?_
  conv => whnf
  refine VLoop.ind2 (n0 := 1) (α := Int) (β := Int) noM [1, 5, 12, 13, 14] (fun sum i => ⟨28, 0, [(1, vint p), (5, vint sum), (12, .one (.hs 0 0 l.length)), (13, vint l.length), (14, vint i)], [(0, some (.arr 1 (l.map eI)))]⟩)
    (fun sum i => ∃ j : Nat, i = j ∧ j ≤ l.length ∧ sum = (l.take j).sum ∧ sum ≤ p) (fun _ i => ((l.length : Int) - i).toNat) ?_ 0 0 ⟨0, rfl, by omega, rfl, h3⟩
  rintro _ _ ⟨j, rfl, hj, rfl, hp⟩
  have s0 := sum_mono r3 (a := 0) (b := j) (by omega)
  rw [List.take_zero, List.sum_nil] at s0
  conv => whnf
  split
  · rename_i q
    have q' := of_decide_eq_true q
    have hjl : j < l.length := by omega
    have en : (j : Int).toNat = j := Int.toNat_natCast j
    have hw : IntKind.i64.wrap ((j : Int) + 1) = ((j + 1 : Nat) : Int) := by rw [wrap_in _ (by omega) (by omega)]; omega
    have hss := sum_snoc hjl
    have s1 := sum_le r3 (j + 1)
    have hx := r3 _ (gi_mem hjl)
    have hs : IntKind.i64.wrap ((l.take j).sum + l.getD j 0) = (l.take (j + 1)).sum := by rw [← hss]; exact wrap_in _ (by omega) (by omega)
    conv => whnf
    refine ⟨by omega, by omega, by rw [hm]; omega, ?_⟩
    conv => whnf
    refine ⟨_, atI l (by omega) hjl, ?_⟩
    conv => whnf
    rw [hs]
    split
    · rename_i q2
      have q2' := of_decide_eq_true q2
      have e := hd.uniq r3 (e := j + 1) ⟨by omega, hjl, hp, q2'⟩
      conv => whnf
      rw [hw, ← e]
      refine ⟨trivial, ?_⟩
      conv => whnf
      exact ⟨rfl, rfl⟩
    · rename_i q2
      have q2' := of_decide_eq_false q2
      conv => whnf
      rw [hw]
      exact ⟨_, _, rfl, rfl, ⟨j + 1, rfl, hjl, rfl, by omega⟩, by omega⟩
  · rename_i q
    have q' := of_decide_eq_false q
    have e : j = l.length := by omega
    subst e
    rw [List.take_length] at hp
    omega
set_option maxHeartbeats 16000000 in
set_option maxRecDepth 100000 in
theorem l4Degree_ok (c p : Int) (h1 : 1 ≤ c) (h2 : c ≤ 24) (h3 : 0 ≤ p) (h4 : p ≤ 65535) (d : Nat) (hd : DegP (degs c) p d) : Good Tryz.prog 111 [vint c, vint p] [] (vint d) [] := by
  obtain ⟨r1, r2, r3⟩ := degs_rng h1 h2
  have gd := specDeg_ok c h1 h2
  obtain ⟨l, hl⟩ : ∃ l, l = degs c := ⟨_, rfl⟩
  rw [← hl] at r1 r2 r3 hd gd
  have hm : (l.map eI).length = l.length := List.length_map ..
  refine good_e noM Tryz.func111 rfl rfl ?_
  conv => whnf
  refine .mk _ _ false Tryz.call125 gd (Nat.le_of_ble_eq_true rfl) (.inl rfl) ?_
  conv => whnf
  refine VLoop.enter [0, 1, 5, 6] ?_
  conv => whnf
  refine VLoop.ind2 (n0 := 1) (α := Int) (β := Int) noM [0, 1, 5, 6] (fun r i => ⟨31, 0, [(0, vint c), (1, vint r), (5, .one (.hs 0 0 l.length)), (6, vint i)], [(0, some (.arr 1 (l.map eI)))]⟩)
    (fun r i => ∃ j : Nat, i = ((j + 1 : Nat) : Int) ∧ j + 1 ≤ l.length ∧ r = p - (l.take j).sum ∧ (l.take j).sum ≤ p) (fun _ i => ((l.length : Int) - i).toNat) ?_ p 1 ⟨0, rfl, by omega, by rw [List.take_zero, List.sum_nil]; omega, h3⟩
  rintro _ _ ⟨j, rfl, hj, rfl, hp⟩
  have s0 := sum_mono r3 (a := 0) (b := j) (by omega)
  rw [List.take_zero, List.sum_nil] at s0
  have hjl : j < l.length := by omega
  have hss := sum_snoc hjl
  have s1 := sum_le r3 (j + 1)
  have hx := r3 _ (gi_mem hjl)
  conv => whnf
  split
  · rename_i q
    have q' := of_decide_eq_true q
    have hw : IntKind.i64.wrap (((j + 1 : Nat) : Int) + 1) = ((j + 1 + 1 : Nat) : Int) := by rw [wrap_in _ (by omega) (by omega)]; omega
    have hw1 : IntKind.i64.wrap (((j + 1 : Nat) : Int) - 1) = ((j : Nat) : Int) := by rw [wrap_in _ (by omega) (by omega)]; omega
    have en : (j : Int).toNat = j := Int.toNat_natCast j
    have hs : IntKind.i64.wrap (p - (l.take j).sum - l.getD j 0) = p - (l.take (j + 1)).sum := by rw [wrap_in _ (by omega) (by omega)]; omega
    conv => whnf
    rw [hw1]
    refine ⟨by omega, by omega, by rw [hm]; omega, ?_⟩
    conv => whnf
    refine ⟨_, atI l (by omega) hjl, ?_⟩
    conv => whnf
    split
    · rename_i q2
      have q2' := of_decide_eq_true q2
      have e := hd.uniq r3 (e := j + 1) ⟨by omega, hjl, hp, by omega⟩
      rw [← e]
      conv => whnf
      refine ⟨trivial, ?_⟩
      conv => whnf
      exact ⟨rfl, rfl⟩
    · rename_i q2
      have q2' := of_decide_eq_false q2
      conv => whnf
      rw [hw1]
      refine ⟨by omega, by omega, by rw [hm]; omega, ?_⟩
      conv => whnf
      refine ⟨_, atI l (by omega) hjl, ?_⟩
      conv => whnf
      rw [hw, hs]
      exact ⟨_, _, rfl, rfl, ⟨j + 1, rfl, by omega, rfl, by omega⟩, by omega⟩
  · rename_i q
    have q' := of_decide_eq_false q
    have e : j + 1 = l.length := by omega
    have hlast : p < (l.take (j + 1)).sum := by rw [e, List.take_length]; omega
    have e2 := hd.uniq r3 (e := j + 1) ⟨by omega, hjl, hp, hlast⟩
    have e3 : c = (d : Int) := by omega
    rw [e3]
    conv => whnf
    refine ⟨trivial, ?_⟩
    conv => whnf
    exact ⟨rfl, rfl⟩
end Go.Abs.F

set_option linter.unusedSimpArgs false
set_option linter.unusedVariables false
namespace Go.Abs.F
open Go Go.Abs Go.Proofs Go.RowKit
attribute [local irreducible] IntKind.wrap
/-- How many are less: they stand ahead. -/
def lessN (x : Int) (l : List Int) : Nat := (l.takeWhile fun y => decide (y < x)).length
def insI (x : Int) (l : List Int) : List Int := l.take (lessN x l) ++ [x] ++ l.drop (lessN x l)
theorem lessN_at {x : Int} {l : List Int} {j : Nat} (hj : j ≤ l.length) (h1 : ∀ y ∈ l.take j, y < x) (h2 : ∀ h : j < l.length, ¬ l.getD j 0 < x) : lessN x l = j := by
  unfold lessN
  induction l generalizing j with
  | nil => simp at hj; subst hj; rfl
  | cons y l ih =>
    rcases j with _ | j
    · have := h2 (by simp)
      rw [List.takeWhile_cons_of_neg (by simpa using this)]; rfl
    · have hy := h1 y (by simp)
      rw [List.takeWhile_cons_of_pos (by simpa using hy), List.length_cons, ih (j := j) (by simpa using hj) (fun z hz => h1 z (by rw [List.take_succ_cons]; exact List.mem_cons_of_mem _ hz)) (fun h => by
        have := h2 (by simpa using h)
        simpa using this)]
set_option maxHeartbeats 16000000 in
set_option maxRecDepth 100000 in
theorem l4Into_ok (l : List Int) (x : Int) (hl : l.length ≤ 1000) : Good Tryz.prog 113 [.one (.p (slI l)), vint x] [] (.one (.hs 0 0 (l.length + 1))) [.arr 1 ((insI x l).map eI)] := by
  have hm : (l.map eI).length = l.length := List.length_map ..
  refine good_e noM Tryz.func113 rfl rfl ?_
  conv => whnf
  refine VLoop.enter [0, 1, 5] ?_
  conv => whnf
  refine VLoop.ind1 (n0 := 0) (α := Int) noM [0, 1, 5] (fun i => ⟨32, 0, [(0, .one (.p (slI l))), (1, vint x), (5, vint i)], []⟩)
    (fun i => ∃ j : Nat, i = j ∧ j ≤ l.length ∧ ∀ y ∈ l.take j, y < x) (fun i => ((l.length : Int) - i).toNat) ?_ 0 ⟨0, rfl, by omega, fun y h => by cases h⟩
  rintro _ ⟨j, rfl, hj, hp⟩
  have en : (j : Int).toNat = j := Int.toNat_natCast j
  have hw : IntKind.i64.wrap ((j : Int) + 1) = ((j + 1 : Nat) : Int) := by rw [wrap_in _ (by omega) (by omega)]; omega
  conv => whnf
  rw [hm]
  split
  · rename_i q
    have q' := of_decide_eq_true q
    have hjl : j < l.length := by omega
    conv => whnf
    refine ⟨by omega, by rw [hm]; omega, _, atI l en hjl, ?_⟩
    conv => whnf
    split
    · rename_i q2
      have q2' := of_decide_eq_true q2
      conv => whnf
      rw [hw]
      refine ⟨_, rfl, rfl, ⟨j + 1, rfl, hjl, fun y hy => ?_⟩, by omega⟩
      rw [List.take_succ_eq_append_getElem hjl, ← gi_lt hjl] at hy
      rcases List.mem_append.1 hy with hy | hy
      · exact hp y hy
      · rw [List.mem_singleton.1 hy]; exact q2'
    · rename_i q2
      have q2' := of_decide_eq_false q2
      conv => whnf
      have hk := lessN_at hj hp fun _ => q2'
      have c1 : List.take ((j : Int).toNat - Int.toNat 0) (List.drop (Int.toNat 0) (l.map eI)) = (l.take j).map eI := by rw [en, List.map_take]; rfl
      have c2 : List.take ((l.length : Int).toNat - (j : Int).toNat) (List.drop (j : Int).toNat (l.map eI)) = (l.drop j).map eI := by rw [en, List.map_drop, List.take_of_length_le (by rw [List.length_drop, List.length_map]; omega)]
      have l1 : ((l.take j).map eI).length = j := by rw [List.length_map, List.length_take]; omega
      have l2 : ((l.drop j).map eI).length = l.length - j := by rw [List.length_map, List.length_drop]
      refine VDraw.goR [0, 0, 0, 6, 15, 0, 32, 127, 0, 0, 768, 2047, 4095] [0, 4, 6, 7, 11] [(4, [0]), (7, [4]), (11, [7])] [] rfl (by decide +kernel) ?_
      conv => whnf
      refine ⟨⟨by omega, by omega, by rw [hm]; omega, by decide +kernel, fun el hel => by rw [eI_len l el hel]; rfl⟩, ?_⟩
      conv => whnf
      rw [c1]
      refine ⟨⟨rfl, rfl, rfl⟩, trivial, ?_⟩
      conv => whnf
      refine ⟨(fun q => by cases q), app3 (show 0 + ((l.take j).map eI).length ≤ _ by rw [l1]; omega), eI_len _, ?_⟩
      conv => whnf
      refine ⟨⟨rfl, by rw [List.length_append], rfl⟩, Nat.le_refl 1, ?_⟩
      conv => whnf
      refine ⟨(fun q => by cases q), app3 (show (List.replicate 0 _ ++ (l.take j).map eI).length + 1 ≤ _ by rw [List.length_append, l1]; show 0 + j + 1 ≤ _; omega), fun el hel => by cases List.mem_singleton.1 hel; rfl, ?_⟩
      conv => whnf
      rw [hm]
      refine ⟨⟨by omega, by omega, by omega, by decide +kernel, fun el hel => by rw [eI_len l el hel]; rfl⟩, ?_⟩
      conv => whnf
      rw [c2]
      refine ⟨⟨rfl, (List.length_append ..).symm, rfl⟩, trivial, ?_⟩
      conv => whnf
      have l3 : ∀ (A B : List (List PV)), A.length = 0 → B.length = 1 → (A ++ (l.take j).map eI ++ B).length = j + 1 := fun A B hA hB => by rw [List.length_append, List.length_append, l1, hA, hB]; omega
      refine ⟨(fun q => by cases q), app3 (by rw [l3 _ _ rfl rfl, l2]; omega), eI_len _, ?_⟩
      conv => whnf
      refine ⟨trivial, ?_⟩
      conv => whnf
      refine ⟨?_, ?_⟩
      · rw [show l.length + 1 = (List.replicate 0 (zeroEl (Value.int .i64 0).cells) ++ (l.take j).map eI ++ [eI x]).length + ((l.drop j).map eI).length by rw [l3 _ _ rfl rfl, l2]; omega]; rfl
      · unfold insI
        rw [hk, List.map_append, List.map_append]; rfl
  · rename_i q
    have q' := of_decide_eq_false q
    have hk := lessN_at hj hp fun h => by omega
    conv => whnf
    have c1 : List.take ((j : Int).toNat - Int.toNat 0) (List.drop (Int.toNat 0) (l.map eI)) = (l.take j).map eI := by rw [en, List.map_take]; rfl
    have c2 : List.take ((l.length : Int).toNat - (j : Int).toNat) (List.drop (j : Int).toNat (l.map eI)) = (l.drop j).map eI := by rw [en, List.map_drop, List.take_of_length_le (by rw [List.length_drop, List.length_map]; omega)]
    have l1 : ((l.take j).map eI).length = j := by rw [List.length_map, List.length_take]; omega
    have l2 : ((l.drop j).map eI).length = l.length - j := by rw [List.length_map, List.length_drop]
    refine VDraw.goR [0, 0, 0, 6, 15, 0, 32, 127, 0, 0, 768, 2047, 4095] [0, 4, 6, 7, 11] [(4, [0]), (7, [4]), (11, [7])] [] rfl (by decide +kernel) ?_
    conv => whnf
    refine ⟨⟨by omega, by omega, by rw [hm]; omega, by decide +kernel, fun el hel => by rw [eI_len l el hel]; rfl⟩, ?_⟩
    conv => whnf
    rw [c1]
    refine ⟨⟨rfl, rfl, rfl⟩, trivial, ?_⟩
    conv => whnf
    refine ⟨(fun q => by cases q), app3 (show 0 + ((l.take j).map eI).length ≤ _ by rw [l1]; omega), eI_len _, ?_⟩
    conv => whnf
    refine ⟨⟨rfl, by rw [List.length_append], rfl⟩, Nat.le_refl 1, ?_⟩
    conv => whnf
    refine ⟨(fun q => by cases q), app3 (show (List.replicate 0 _ ++ (l.take j).map eI).length + 1 ≤ _ by rw [List.length_append, l1]; show 0 + j + 1 ≤ _; omega), fun el hel => by cases List.mem_singleton.1 hel; rfl, ?_⟩
    conv => whnf
    rw [hm]
    refine ⟨⟨by omega, by omega, by omega, by decide +kernel, fun el hel => by rw [eI_len l el hel]; rfl⟩, ?_⟩
    conv => whnf
    rw [c2]
    refine ⟨⟨rfl, (List.length_append ..).symm, rfl⟩, trivial, ?_⟩
    conv => whnf
    have l3 : ∀ (A B : List (List PV)), A.length = 0 → B.length = 1 → (A ++ (l.take j).map eI ++ B).length = j + 1 := fun A B hA hB => by rw [List.length_append, List.length_append, l1, hA, hB]; omega
    refine ⟨(fun q => by cases q), app3 (by rw [l3 _ _ rfl rfl, l2]; omega), eI_len _, ?_⟩
    conv => whnf
    refine ⟨trivial, ?_⟩
    conv => whnf
    refine ⟨?_, ?_⟩
    · rw [show l.length + 1 = (List.replicate 0 (zeroEl (Value.int .i64 0).cells) ++ (l.take j).map eI ++ [eI x]).length + ((l.drop j).map eI).length by rw [l3 _ _ rfl rfl, l2]; omega]; rfl
    · unfold insI
      rw [hk, List.map_append, List.map_append]; rfl
end Go.Abs.F

set_option linter.unusedSimpArgs false
set_option linter.unusedVariables false
namespace Go.Abs.F
open Go Go.Abs Go.Proofs Go.RowKit
attribute [local irreducible] IntKind.wrap
def rng (c : Nat) : List Int := (List.range c).map Int.ofNat
def drwK (s : Int) (r : List Int) : Nat := (pck (nxt s) r.length).toNat
/-- What i draws leave: the seed, those that are left, those that are drawn. -/
def drw (s : Int) (r : List Int) : Nat → Int × List Int × List Int
  | 0 => (s, r, [])
  | i + 1 => (nxt (drw s r i).1, (drw s r i).2.1.eraseIdx (drwK (drw s r i).1 (drw s r i).2.1), (drw s r i).2.2 ++ [(drw s r i).2.1.getD (drwK (drw s r i).1 (drw s r i).2.1) 0])
theorem rng_len (c : Nat) : (rng c).length = c := by unfold rng; rw [List.length_map, List.length_range]
theorem rng_nodup (c : Nat) : (rng c).Nodup := by
  unfold rng
  refine List.Pairwise.map _ (fun a b (h : a ≠ b) q => h (Int.ofNat.inj q)) List.nodup_range
theorem rng_mem {c : Nat} {x : Int} : x ∈ rng c ↔ 0 ≤ x ∧ x < c := by
  unfold rng
  rw [List.mem_map]
  constructor
  · rintro ⟨i, hi, rfl⟩
    have := List.mem_range.1 hi
    exact ⟨Int.natCast_nonneg i, by show (i : Int) < c; omega⟩
  · rintro ⟨h0, h1⟩
    exact ⟨x.toNat, List.mem_range.2 (by omega), Int.toNat_of_nonneg h0⟩
theorem drwK_lt {s : Int} {r : List Int} (h : 0 < r.length) : drwK s r < r.length ∧ (drwK s r : Int) = pck (nxt s) r.length := by
  unfold drwK
  have := pck_rng (s := nxt s) (n := r.length) (by omega)
  omega
structure DrwP (c : Nat) (i : Nat) (q : Int × List Int × List Int) : Prop where
  s0 : 0 ≤ q.1
  s1 : q.1 ≤ 2147483647
  len : q.2.1.length = c - i
  lo : q.2.2.length = i
  perm : (q.2.2 ++ q.2.1).Perm (rng c)
theorem drw_ok {c : Nat} {s : Int} (h0 : 0 ≤ s) (h1 : s ≤ 2147483647) : ∀ i, i ≤ c → DrwP c i (drw s (rng c) i)
  | 0, _ => ⟨h0, h1, rng_len c, rfl, List.Perm.refl _⟩
  | i + 1, hi => by
    have ih := drw_ok (c := c) h0 h1 i (by omega)
    obtain ⟨q, hq⟩ : ∃ q, q = drw s (rng c) i := ⟨_, rfl⟩
    rw [← hq] at ih
    obtain ⟨i1, i2, i3, i4, i5⟩ := ih
    have hk := (drwK_lt (s := q.1) (r := q.2.1) (by omega)).1
    show DrwP c (i + 1) (nxt (drw s (rng c) i).1, (drw s (rng c) i).2.1.eraseIdx (drwK (drw s (rng c) i).1 (drw s (rng c) i).2.1), (drw s (rng c) i).2.2 ++ [(drw s (rng c) i).2.1.getD (drwK (drw s (rng c) i).1 (drw s (rng c) i).2.1) 0])
    rw [← hq]
    have hn := nxt_rng q.1
    refine ⟨hn.1, hn.2, ?_, ?_, List.Perm.trans ?_ i5⟩
    · show (q.2.1.eraseIdx _).length = _
      rw [List.length_eraseIdx_of_lt hk]; omega
    · show (q.2.2 ++ [_]).length = _
      rw [List.length_append, i4]; rfl
    · show (q.2.2 ++ [_] ++ q.2.1.eraseIdx _).Perm _
      rw [List.append_assoc]
      refine List.Perm.append_left _ ?_
      have e : q.2.1 = q.2.1.take (drwK q.1 q.2.1) ++ q.2.1.getD (drwK q.1 q.2.1) 0 :: q.2.1.drop (drwK q.1 q.2.1 + 1) := by
        rw [gi_lt hk, ← List.drop_eq_getElem_cons hk, List.take_append_drop]
      rw [List.eraseIdx_eq_take_drop_succ]
      conv => rhs; rw [e]
      exact (List.perm_middle (l₁ := q.2.1.take (drwK q.1 q.2.1))).symm
theorem drw_row {c i : Nat} {q : Int × List Int × List Int} (h : DrwP c i q) : q.2.2.Nodup ∧ ∀ x ∈ q.2.2, 0 ≤ x ∧ x < c := by
  have h1 := (List.Perm.nodup_iff h.perm).2 (rng_nodup c)
  refine ⟨(List.nodup_append.1 h1).1, fun x hx => rng_mem.1 ((List.Perm.mem_iff h.perm).1 (List.mem_append_left _ hx))⟩
def srt (l : List Int) : List Int := l.mergeSort fun x y => decide (x ≤ y)
theorem srt_len (l : List Int) : (srt l).length = l.length := List.length_mergeSort _
theorem mem_srt {l : List Int} {x : Int} : x ∈ srt l ↔ x ∈ l := List.mem_mergeSort
theorem srt_asc {l : List Int} (h : l.Nodup) : (srt l).Pairwise (· < ·) := by
  have h1 : (srt l).Pairwise fun x y => decide (x ≤ y) = true := List.pairwise_mergeSort (fun a b c h1 h2 => by simp only [decide_eq_true_eq] at *; omega) (fun a b => by simp only [Bool.or_eq_true, decide_eq_true_eq]; omega) l
  have h2 : (srt l).Nodup := (List.Perm.nodup_iff (List.mergeSort_perm l _)).2 h
  refine (List.Pairwise.and h1 h2).imp fun {a b} hab => ?_
  have := of_decide_eq_true hab.1
  have := hab.2
  omega
theorem srt_row {c i : Nat} {q : Int × List Int × List Int} (h : DrwP c i q) : RowP c (srt q.2.2) := by
  obtain ⟨h1, h2⟩ := drw_row h
  exact ⟨srt_asc h1, fun x hx => (h2 x (mem_srt.1 hx)).1, fun x hx => (h2 x (mem_srt.1 hx)).2⟩
theorem lessN_spec {x : Int} : ∀ {l : List Int}, lessN x l ≤ l.length ∧ (∀ y ∈ l.take (lessN x l), y < x) ∧ (l.Pairwise (· < ·) → x ∉ l → ∀ y ∈ l.drop (lessN x l), x < y)
  | [] => ⟨Nat.le_refl _, fun y h => (by cases h), fun _ _ y h => (by cases h)⟩
  | z :: l => by
    unfold lessN
    by_cases hz : z < x
    · rw [List.takeWhile_cons_of_pos (by simpa using hz)]
      obtain ⟨i1, i2, i3⟩ := lessN_spec (x := x) (l := l)
      unfold lessN at i1 i2 i3
      refine ⟨by simpa using i1, fun y hy => ?_, fun hp hn y hy => ?_⟩
      · rw [List.length_cons, List.take_succ_cons] at hy
        rcases List.mem_cons.1 hy with rfl | hy
        · exact hz
        · exact i2 y hy
      · rw [List.length_cons, List.drop_succ_cons] at hy
        exact i3 (List.pairwise_cons.1 hp).2 (fun q => hn (List.mem_cons_of_mem _ q)) y hy
    · rw [List.takeWhile_cons_of_neg (by simpa using hz)]
      refine ⟨Nat.zero_le _, fun y hy => (by cases hy), fun hp hn y hy => ?_⟩
      have hxz : x < z := by
        have : x ≠ z := fun q => hn (q ▸ List.mem_cons_self)
        omega
      rcases List.mem_cons.1 hy with rfl | hy
      · exact hxz
      · have := (List.pairwise_cons.1 hp).1 y hy; omega
theorem mem_insI {x z : Int} {l : List Int} : z ∈ insI x l ↔ z = x ∨ z ∈ l := by
  unfold insI
  have : z ∈ l ↔ z ∈ l.take (lessN x l) ∨ z ∈ l.drop (lessN x l) := by
    conv => lhs; rw [← List.take_append_drop (lessN x l) l]
    exact List.mem_append
  rw [List.mem_append, List.mem_append, List.mem_singleton, this]
  constructor
  · rintro ((q | q) | q)
    · exact .inr (.inl q)
    · exact .inl q
    · exact .inr (.inr q)
  · rintro (q | q | q)
    · exact .inl (.inr q)
    · exact .inl (.inl q)
    · exact .inr q
theorem insI_asc {x : Int} {l : List Int} (h : l.Pairwise (· < ·)) (hx : x ∉ l) : (insI x l).Pairwise (· < ·) := by
  obtain ⟨_, i2, i3⟩ := lessN_spec (x := x) (l := l)
  have i3 := i3 h hx
  have e := h
  rw [← List.take_append_drop (lessN x l) l] at e
  obtain ⟨e1, e2, e3⟩ := List.pairwise_append.1 e
  unfold insI
  refine List.pairwise_append.2 ⟨List.pairwise_append.2 ⟨e1, List.pairwise_singleton .., fun a ha b hb => by rw [List.mem_singleton.1 hb]; exact i2 a ha⟩, e2, fun a ha b hb => ?_⟩
  rcases List.mem_append.1 ha with ha | ha
  · exact e3 a ha b hb
  · rw [List.mem_singleton.1 ha]; exact i3 b hb
theorem srt_snoc {l : List Int} {x : Int} (h : (l ++ [x]).Nodup) : srt (l ++ [x]) = insI x (srt l) := by
  obtain ⟨h1, _, h3⟩ := List.nodup_append.1 h
  have hx : x ∉ srt l := fun q => h3 x (mem_srt.1 q) x (List.mem_singleton.2 rfl) rfl
  refine asc_ext (srt_asc h) (insI_asc (srt_asc h1) hx) fun z => ?_
  rw [mem_srt, mem_insI, mem_srt, List.mem_append, List.mem_singleton]
  exact Or.comm
end Go.Abs.F

set_option linter.unusedSimpArgs false
set_option linter.unusedVariables false
namespace Go.Abs.F
open Go Go.Abs Go.Proofs Go.RowKit
attribute [local irreducible] IntKind.wrap
def rowD (c : Nat) (seed : Int) (d : Nat) : List Int := srt (drw (nxt (nxt seed)) (rng c) d).2.2
theorem rng_snoc (j : Nat) : (rng j).map eI ++ [eI (j : Int)] = (rng (j + 1)).map eI := by
  unfold rng
  rw [List.range_succ, List.map_append, List.map_append]; rfl
def rM : FuncId → Bool := fun f => [109, 108].contains f
set_option maxHeartbeats 16000000 in
set_option maxRecDepth 100000 in
theorem rowDraw_ok (c : Nat) (seed : Int) (h1 : 1 ≤ c) (h2 : c ≤ 24) (h3 : 0 ≤ seed) (h4 : seed ≤ 2147483647) (d : Nat) (hd : DegP (degs c) (pck (nxt (nxt seed)) 65536) d) : Good Tryz.prog 76 [vint c, vint seed] [] (.one (.hs 0 0 d)) [.arr 1 ((rowD c seed d).map eI)] := by
  have hin : inR (c : Int) 1 24 = true := inR_iff.2 ⟨by omega, by omega⟩
  have hin2 : inR seed 0 2147483647 = true := inR_iff.2 ⟨h3, h4⟩
  have hdc : d ≤ c := by have := hd.h2; have := (degs_rng (c := (c : Int)) (by omega) (by omega)).1; omega
  have n1 := nxt_rng seed
  have n2 := nxt_rng (nxt seed)
  have p1 := pck_rng (s := nxt (nxt seed)) (n := 65536) (by omega)
  refine good_e rM Tryz.func76 rfl rfl ?_
  conv => whnf
  refine .mk _ _ false Tryz.call29 (within_ok c 1 24) (Nat.le_of_ble_eq_true rfl) (.inl rfl) ?_
  conv => whnf
  rw [hin]
  conv => whnf
  refine .mk _ _ false Tryz.call29 (within_ok seed 0 2147483647) (Nat.le_of_ble_eq_true rfl) (.inl rfl) ?_
  conv => whnf
  rw [hin2]
  conv => whnf
  refine .mk _ _ false Tryz.call75 (seedNext_ok seed h3 h4) (Nat.le_of_ble_eq_true rfl) (.inl rfl) ?_
  conv => whnf
  refine .mk _ _ false Tryz.call75 (seedNext_ok (nxt seed) n1.1 n1.2) (Nat.le_of_ble_eq_true rfl) (.inl rfl) ?_
  conv => whnf
  refine VLoop.enter [0, 5, 6, 7, 24, 25] ?_
  conv => whnf
  refine VLoop.ind3 (n0 := 2) (α := Int) (β := Nat) (γ := List (List PV)) rM [0, 5, 6, 7, 24, 25] (fun i n E => ⟨61, 0, [(0, vint c), (5, .one (.hs 0 0 0)), (6, vint (nxt (nxt seed))), (7, .one (.hs 1 0 n)), (24, vint c), (25, vint i)], [(0, some (.arr 1 [])), (1, some (.arr 1 E))]⟩)
    (fun i n E => ∃ j : Nat, i = j ∧ j ≤ c ∧ n = j ∧ E = (rng j).map eI) (fun i _ _ => ((c : Int) - i).toNat) ?_ 0 0 [] ⟨0, rfl, by omega, rfl, rfl⟩
  rintro _ n _ ⟨j, rfl, hj, hn, rfl⟩
  subst hn
  have hw : IntKind.i64.wrap ((n : Int) + 1) = ((n + 1 : Nat) : Int) := by rw [wrap_in _ (by omega) (by omega)]; omega
  have hrl : ((rng n).map eI).length = n := by rw [List.length_map, rng_len]
  conv => whnf
  split
  · rename_i q
    have q' := of_decide_eq_true q
    conv => whnf
    refine ⟨⟨rfl, hrl.symm, rfl⟩, Nat.le_refl 1, ?_⟩
    conv => whnf
    refine ⟨(fun q => by cases q), app3 (show ((rng n).map eI).length + 1 ≤ _ by rw [hrl]; omega), fun el hel => by cases List.mem_singleton.1 hel; rfl, ?_⟩
    conv => whnf
    rw [hw]
    exact ⟨_, _, _, rfl, rfl, ⟨n + 1, rfl, by omega, show ((rng n).map eI).length + 1 = n + 1 by rw [hrl], rng_snoc n⟩, by omega⟩
  · rename_i q
    have q' := of_decide_eq_false q
    have e : n = c := by omega
    subst e
    conv => whnf
    refine .mk _ _ false Tryz.call74 (seedPick_ok (nxt (nxt seed)) 65536 n2.1 n2.2 (by omega) (by omega)) (Nat.le_of_ble_eq_true rfl) (.inl rfl) ?_
    conv => whnf
    refine .mk _ _ false Tryz.call107 (degreeOf_ok n (pck (nxt (nxt seed)) 65536) (by omega) (by omega) p1.1 (by omega) d hd) (Nat.le_of_ble_eq_true rfl) (.inl rfl) ?_
    conv => whnf
    refine VLoop.enter [5, 6, 7, 36, 37] ?_
    conv => whnf
    have hD := fun i hi => drw_ok (c := n) (s := nxt (nxt seed)) n2.1 n2.2 i hi
    refine vloop_indN rM [5, 6, 7, 36, 37] (ι := Int × Int × Nat × List (List PV) × Nat × List (List PV)) (fun _ => 2)
      (fun (i, s, m, E0, k, E1) => ⟨61, 0, [(5, .one (.hs 0 0 m)), (6, vint s), (7, .one (.hs 1 0 k)), (36, vint d), (37, vint i)], [(0, some (.arr 1 E0)), (1, some (.arr 1 E1))]⟩)
      (fun (i, s, m, E0, k, E1) => ∃ j : Nat, i = j ∧ j ≤ d ∧ s = (drw (nxt (nxt seed)) (rng n) j).1 ∧ m = j ∧ E0 = (drw (nxt (nxt seed)) (rng n) j).2.2.map eI ∧ k = n - j ∧ E1 = (drw (nxt (nxt seed)) (rng n) j).2.1.map eI) (fun (i, _) => ((d : Int) - i).toNat) ?_ (0, nxt (nxt seed), 0, [], n, (rng n).map eI) ⟨0, rfl, by omega, rfl, rfl, rfl, rfl, rfl⟩
    rintro ⟨_, _, j, _, _, _⟩ ⟨j', rfl, hj, rfl, hm, rfl, rfl, rfl⟩
    subst hm
    obtain ⟨i1, i2, i3, i4, i5⟩ := hD j (by omega)
    have hnx : drw (nxt (nxt seed)) (rng n) (j + 1) = (nxt (drw (nxt (nxt seed)) (rng n) j).1, (drw (nxt (nxt seed)) (rng n) j).2.1.eraseIdx (drwK (drw (nxt (nxt seed)) (rng n) j).1 (drw (nxt (nxt seed)) (rng n) j).2.1), (drw (nxt (nxt seed)) (rng n) j).2.2 ++ [(drw (nxt (nxt seed)) (rng n) j).2.1.getD (drwK (drw (nxt (nxt seed)) (rng n) j).1 (drw (nxt (nxt seed)) (rng n) j).2.1) 0]) := rfl
    obtain ⟨q, hq⟩ : ∃ q, q = drw (nxt (nxt seed)) (rng n) j := ⟨_, rfl⟩
    rw [← hq] at i1 i2 i3 i4 i5 hnx ⊢
    have hw : IntKind.i64.wrap ((j : Int) + 1) = ((j + 1 : Nat) : Int) := by rw [wrap_in _ (by omega) (by omega)]; omega
    have hl1 : (q.2.1.map eI).length = n - j := by rw [List.length_map, i3]
    have hl2 : (q.2.2.map eI).length = j := by rw [List.length_map, i4]
    show vcode _ rM _ _ 2 _
    conv => whnf
    split
    · rename_i q1
      have q1' := of_decide_eq_true q1
      have hk := drwK_lt (s := q.1) (r := q.2.1) (by omega)
      rw [i3] at hk
      have n3 := nxt_rng q.1
      conv => whnf
      refine .mk _ _ false Tryz.call75 (seedNext_ok q.1 i1 i2) (Nat.le_of_ble_eq_true rfl) (.inl rfl) ?_
      conv => whnf
      refine .mk _ _ false Tryz.call74 (seedPick_ok (nxt q.1) (n - j : Nat) n3.1 n3.2 (by omega) (by omega)) (Nat.le_of_ble_eq_true rfl) (.inl rfl) ?_
      conv => whnf
      rw [← hk.2]
      refine ⟨by omega, by omega, by omega, ?_⟩
      conv => whnf
      refine ⟨_, atI q.2.1 (show 0 + ((drwK q.1 q.2.1 : Nat) : Int).toNat = drwK q.1 q.2.1 by omega) (by omega), ?_⟩
      conv => whnf
      refine ⟨⟨rfl, hl2.symm, rfl⟩, Nat.le_refl 1, ?_⟩
      conv => whnf
      refine ⟨(fun q => by cases q), app3 (show (q.2.2.map eI).length + 1 ≤ _ by rw [hl2]; omega), fun el hel => by cases List.mem_singleton.1 hel; rfl, ?_⟩
      conv => whnf
      refine .mk _ _ false Tryz.call108 (good_delI q.2.1 (n - j) (drwK q.1 q.2.1) i3.symm hk.1 (by omega) _ (show IntKind.i64.wrap (((drwK q.1 q.2.1 : Nat) : Int) + 1) = ((drwK q.1 q.2.1 + 1 : Nat) : Int) by rw [wrap_in _ (by omega) (by omega)]; omega)) (Nat.le_of_ble_eq_true rfl) (.inl rfl) ?_
      conv => whnf
      rw [hw]
      refine ⟨(_, _, _, _, _, _), rfl, rfl, ⟨j + 1, rfl, by omega, by rw [hnx], show (q.2.2.map eI).length + 1 = j + 1 by rw [hl2], by rw [hnx]; exact mapS _ _, show n - j - 1 = n - (j + 1) by omega, by rw [hnx]⟩, by show ((d : Int) - ((j + 1 : Nat) : Int)).toNat < ((d : Int) - (j : Int)).toNat; omega⟩
    · rename_i q1
      have q1' := of_decide_eq_false q1
      have e : j = d := by omega
      subst e
      conv => whnf
      refine .mk _ _ false Tryz.call109 (good_sort q.2.2 j i4.symm (by omega)) (Nat.le_of_ble_eq_true rfl) (.inl rfl) ?_
      conv => whnf
      refine ⟨trivial, ?_⟩
      conv => whnf
      refine ⟨rfl, ?_⟩
      unfold rowD
      rw [← hq]; rfl
end Go.Abs.F

set_option linter.unusedSimpArgs false
set_option linter.unusedVariables false
namespace Go.Abs.F
open Go Go.Abs Go.Proofs Go.RowKit
attribute [local irreducible] IntKind.wrap
set_option maxHeartbeats 16000000 in
set_option maxRecDepth 100000 in
theorem l4Row_ok (c : Nat) (seed : Int) (h1 : 1 ≤ c) (h2 : c ≤ 24) (h3 : 0 ≤ seed) (h4 : seed ≤ 2147483647) (d : Nat) (hd : DegP (degs c) (pck (nxt (nxt seed)) 65536) d) : Good Tryz.prog 84 [vint c, vint seed] [] (.one (.hs 0 0 d)) [.arr 1 ((rowD c seed d).map eI)] := by
  have hdc : d ≤ c := by have := hd.h2; have := (degs_rng (c := (c : Int)) (by omega) (by omega)).1; omega
  have n1 := nxt_rng seed
  have n2 := nxt_rng (nxt seed)
  have p1 := pck_rng (s := nxt (nxt seed)) (n := 65536) (by omega)
  refine good_e noM Tryz.func84 rfl rfl ?_
  conv => whnf
  refine .mk _ _ false Tryz.call110 (l4Next_ok seed h3 h4) (Nat.le_of_ble_eq_true rfl) (.inl rfl) ?_
  conv => whnf
  refine .mk _ _ false Tryz.call110 (l4Next_ok (nxt seed) n1.1 n1.2) (Nat.le_of_ble_eq_true rfl) (.inl rfl) ?_
  conv => whnf
  refine .mk _ _ false Tryz.call112 (l4Pick_ok (nxt (nxt seed)) 65536 n2.1 n2.2 (by omega)) (Nat.le_of_ble_eq_true rfl) (.inl rfl) ?_
  conv => whnf
  refine .mk _ _ false Tryz.call111 (l4Degree_ok c (pck (nxt (nxt seed)) 65536) (by omega) (by omega) p1.1 (by omega) d hd) (Nat.le_of_ble_eq_true rfl) (.inl rfl) ?_
  conv => whnf
  refine VLoop.enter [0, 5, 6, 7, 8] ?_
  conv => whnf
  refine VLoop.ind3 (n0 := 1) (α := Int) (β := Nat) (γ := List (List PV)) noM [0, 5, 6, 7, 8] (fun i n E => ⟨58, 0, [(0, vint c), (5, vint (nxt (nxt seed))), (6, vint d), (7, .one (.hs 0 0 n)), (8, vint i)], [(0, some (.arr 1 E))]⟩)
    (fun i n E => ∃ j : Nat, i = j ∧ j ≤ c ∧ n = j ∧ E = (rng j).map eI) (fun i _ _ => ((c : Int) - i).toNat) ?_ 0 0 [] ⟨0, rfl, by omega, rfl, rfl⟩
  rintro _ n _ ⟨j, rfl, hj, hn, rfl⟩
  subst hn
  have hw : IntKind.i64.wrap ((n : Int) + 1) = ((n + 1 : Nat) : Int) := by rw [wrap_in _ (by omega) (by omega)]; omega
  have hrl : ((rng n).map eI).length = n := by rw [List.length_map, rng_len]
  conv => whnf
  split
  · rename_i q
    have q' := of_decide_eq_true q
    conv => whnf
    refine ⟨⟨rfl, hrl.symm, rfl⟩, Nat.le_refl 1, ?_⟩
    conv => whnf
    refine ⟨(fun q => by cases q), app3 (show ((rng n).map eI).length + 1 ≤ _ by rw [hrl]; omega), fun el hel => by cases List.mem_singleton.1 hel; rfl, ?_⟩
    conv => whnf
    rw [hw]
    exact ⟨_, _, _, rfl, rfl, ⟨n + 1, rfl, by omega, show ((rng n).map eI).length + 1 = n + 1 by rw [hrl], rng_snoc n⟩, by omega⟩
  · rename_i q
    have q' := of_decide_eq_false q
    have e : n = c := by omega
    subst e
    conv => whnf
    refine VLoop.enter [5, 6, 7, 9, 10] ?_
    conv => whnf
    have hD := fun i hi => drw_ok (c := n) (s := nxt (nxt seed)) n2.1 n2.2 i hi
    refine vloop_indN noM [5, 6, 7, 9, 10] (ι := Int × Int × Nat × List (List PV) × Nat × List (List PV)) (fun _ => 2)
      (fun (i, s, m, E0, k, E1) => ⟨58, 0, [(5, vint s), (6, vint d), (7, .one (.hs 0 0 k)), (9, .one (.hs 1 0 m)), (10, vint i)], [(0, some (.arr 1 E1)), (1, some (.arr 1 E0))]⟩)
      (fun (i, s, m, E0, k, E1) => ∃ j : Nat, i = j ∧ j ≤ d ∧ s = (drw (nxt (nxt seed)) (rng n) j).1 ∧ m = j ∧ E0 = (srt (drw (nxt (nxt seed)) (rng n) j).2.2).map eI ∧ k = n - j ∧ E1 = (drw (nxt (nxt seed)) (rng n) j).2.1.map eI) (fun (i, _) => ((d : Int) - i).toNat) ?_ (0, nxt (nxt seed), 0, [], n, (rng n).map eI) ⟨0, rfl, by omega, rfl, rfl, (show [] = (srt []).map eI from by unfold srt; rw [List.mergeSort_nil]; rfl), rfl, rfl⟩
    rintro ⟨_, _, j, _, _, _⟩ ⟨j', rfl, hj, rfl, hm, rfl, rfl, rfl⟩
    subst hm
    obtain ⟨i1, i2, i3, i4, i5⟩ := hD j (by omega)
    have hnx : drw (nxt (nxt seed)) (rng n) (j + 1) = (nxt (drw (nxt (nxt seed)) (rng n) j).1, (drw (nxt (nxt seed)) (rng n) j).2.1.eraseIdx (drwK (drw (nxt (nxt seed)) (rng n) j).1 (drw (nxt (nxt seed)) (rng n) j).2.1), (drw (nxt (nxt seed)) (rng n) j).2.2 ++ [(drw (nxt (nxt seed)) (rng n) j).2.1.getD (drwK (drw (nxt (nxt seed)) (rng n) j).1 (drw (nxt (nxt seed)) (rng n) j).2.1) 0]) := rfl
    have hD1 : j < d → (drw (nxt (nxt seed)) (rng n) (j + 1)).2.2.Nodup := fun h => (drw_row (hD (j + 1) (by omega))).1
    rw [hnx] at hD1
    obtain ⟨q, hq⟩ : ∃ q, q = drw (nxt (nxt seed)) (rng n) j := ⟨_, rfl⟩
    rw [← hq] at i1 i2 i3 i4 i5 hnx hD1 ⊢
    have hw : IntKind.i64.wrap ((j : Int) + 1) = ((j + 1 : Nat) : Int) := by rw [wrap_in _ (by omega) (by omega)]; omega
    have hl1 : (q.2.1.map eI).length = n - j := by rw [List.length_map, i3]
    have hl2 : (srt q.2.2).length = j := by rw [srt_len, i4]
    show vcode _ noM _ _ 2 _
    conv => whnf
    split
    · rename_i q1
      have q1' := of_decide_eq_true q1
      have hk := drwK_lt (s := q.1) (r := q.2.1) (by omega)
      rw [i3] at hk
      have n3 := nxt_rng q.1
      have hsn := srt_snoc (hD1 (by omega))
      have gI := l4Into_ok (srt q.2.2) (q.2.1.getD (drwK q.1 q.2.1) 0) (by omega)
      rw [hl2] at gI
      conv => whnf
      refine .mk _ _ false Tryz.call110 (l4Next_ok q.1 i1 i2) (Nat.le_of_ble_eq_true rfl) (.inl rfl) ?_
      conv => whnf
      refine .mk _ _ false Tryz.call112 (l4Pick_ok (nxt q.1) (n - j : Nat) n3.1 n3.2 (by omega)) (Nat.le_of_ble_eq_true rfl) (.inl rfl) ?_
      conv => whnf
      rw [← hk.2]
      refine ⟨by omega, by omega, by omega, ?_⟩
      conv => whnf
      refine ⟨_, atI q.2.1 (show 0 + ((drwK q.1 q.2.1 : Nat) : Int).toNat = drwK q.1 q.2.1 by omega) (by omega), ?_⟩
      conv => whnf
      have tk : List.take j (List.drop 0 ((srt q.2.2).map eI)) = (srt q.2.2).map eI := by rw [List.drop_zero, List.take_of_length_le (by rw [List.length_map, hl2]; exact Nat.le_refl _)]
      refine ⟨by rw [List.length_map, hl2]; omega, ?_⟩
      conv => whnf
      rw [tk]
      refine .mk _ _ false Tryz.call113 gI (Nat.le_of_ble_eq_true rfl) (.inr ⟨AV.nsB_iff rfl, arr_noSl _⟩) ?_
      conv => whnf
      refine VDraw.goR [0, 0, 0, 6, 15, 0, 0, 64, 224, 511, 1023] [0, 4, 9] [(4, [0]), (9, [4])] [] rfl (by decide +kernel) ?_
      conv => whnf
      refine ⟨⟨by omega, by omega, by omega, by omega, by decide +kernel, by decide +kernel⟩, ?_⟩
      conv => whnf
      obtain ⟨k, hk0⟩ : ∃ k, k = drwK q.1 q.2.1 := ⟨_, rfl⟩
      rw [← hk0] at hk hsn hnx ⊢
      have ek : ((k : Nat) : Int).toNat = k := Int.toNat_natCast k
      have c1 : List.take (((k : Nat) : Int).toNat - Int.toNat 0) (List.drop (0 + Int.toNat 0) (q.2.1.map eI)) = (q.2.1.take k).map eI := by rw [ek, List.map_take]; rfl
      have l1 : ((q.2.1.take k).map eI).length = k := by rw [List.length_map, List.length_take]; omega
      rw [c1]
      refine ⟨⟨rfl, rfl, rfl⟩, by rw [hl1, ek]; show 0 + 0 + (k - 0) ≤ n - j; omega, ?_⟩
      conv => whnf
      refine ⟨(fun q => by cases q), app3 (show 0 + ((q.2.1.take k).map eI).length ≤ _ by rw [l1]; omega), eI_len _, ?_⟩
      conv => whnf
      have hwk : IntKind.i64.wrap (((k : Nat) : Int) + 1) = ((k + 1 : Nat) : Int) := by rw [wrap_in _ (by omega) (by omega)]; omega
      rw [hwk]
      refine ⟨⟨by omega, by omega, by omega, by omega, by decide +kernel, by decide +kernel⟩, ?_⟩
      conv => whnf
      have c2 : List.take (((n - j : Nat) : Int).toNat - ((k + 1 : Nat) : Int).toNat) (List.drop (0 + ((k + 1 : Nat) : Int).toNat) (q.2.1.map eI)) = (q.2.1.drop (k + 1)).map eI := by rw [Int.toNat_natCast, Int.toNat_natCast, Nat.zero_add, List.map_drop, List.take_of_length_le (by rw [List.length_drop, hl1]; exact Nat.le_refl _)]
      have l2 : ((q.2.1.drop (k + 1)).map eI).length = n - j - (k + 1) := by rw [List.length_map, List.length_drop, i3]
      rw [c2]
      refine ⟨⟨rfl, (List.length_append ..).symm, rfl⟩, by rw [hl1]; omega, ?_⟩
      conv => whnf
      have l3 : ∀ (A : List (List PV)), A.length = 0 → (A ++ (q.2.1.take k).map eI).length = k := fun A hA => by rw [List.length_append, l1, hA]; omega
      refine ⟨(fun q => by cases q), app3 (by rw [l3 _ rfl, l2]; omega), eI_len _, ?_⟩
      conv => whnf
      rw [hw]
      refine ⟨(_, _, _, _, _, _), rfl, rfl, ⟨j + 1, rfl, by omega, by rw [hnx], rfl, by rw [hnx]; show (insI _ (srt q.2.2)).map eI = (srt _).map eI; rw [hsn], ?_, ?_⟩, by show ((d : Int) - ((j + 1 : Nat) : Int)).toNat < ((d : Int) - (j : Int)).toNat; omega⟩
      · show (List.replicate 0 _ ++ (q.2.1.take k).map eI).length + ((q.2.1.drop (k + 1)).map eI).length = n - (j + 1)
        rw [l3 _ rfl, l2]; omega
      · rw [hnx]
        show List.replicate 0 _ ++ (q.2.1.take k).map eI ++ (q.2.1.drop (k + 1)).map eI = (q.2.1.eraseIdx k).map eI
        rw [List.eraseIdx_eq_take_drop_succ, List.map_append]; rfl
    · rename_i q1
      have q1' := of_decide_eq_false q1
      have e : j = d := by omega
      subst e
      conv => whnf
      refine ⟨trivial, ?_⟩
      conv => whnf
      refine ⟨rfl, ?_⟩
      unfold rowD
      rw [← hq]; rfl
end Go.Abs.F

set_option linter.unusedSimpArgs false
set_option linter.unusedVariables false
namespace Go.Abs.F
open Go Go.Abs Go.Proofs Go.RowKit
attribute [local irreducible] IntKind.wrap
theorem gs_pos {l s : Int} {ws gs : List Int} (h : POk l s ws gs) : (∀ x ∈ gs, 0 ≤ x) ∧ 1 ≤ gs.sum ∧ gs.sum ≤ 297 ∧ gs.length ≤ 3 := by
  obtain ⟨_, _, _, _, _, _, w1, w2, g, _, _, wt, _⟩ := h
  have h1 : ∀ x ∈ gs, 1 ≤ x ∧ x ≤ 99 := fun x hx => by
    obtain ⟨i, hi, rfl⟩ := List.mem_iff_getElem.1 hx
    have := wt i (by omega)
    rwa [gi_lt hi] at this
  refine ⟨fun x hx => by have := (h1 x hx).1; omega, ?_⟩
  match gs, g, h1 with
  | [], g, _ => simp at g; omega
  | [a], _, h1 => have := h1 a (by simp); simp; omega
  | [a, b], _, h1 => have := h1 a (by simp); have := h1 b (by simp); simp; omega
  | [a, b, c], _, h1 => have := h1 a (by simp); have := h1 b (by simp); have := h1 c (by simp); simp; omega
  | _ :: _ :: _ :: _ :: _, g, _ => simp at g; omega
@[reducible] def planB (l s : Int) (ws gs : List Int) : Blk := .box [.p (.lit (.int .i64 l)), .p (.lit (.int .i64 s)), .p (slI ws), .p (slI gs)]
set_option maxHeartbeats 16000000 in
set_option maxRecDepth 100000 in
theorem l5Window_ok (l s : Int) (ws gs : List Int) (h : POk l s ws gs) (id : Int) (h0 : 0 ≤ id) (h1 : id ≤ 9999) (k : Nat) (hk : DegP gs (pck (nxt id) gs.sum) k) : Good Tryz.prog 85 [planF l s ws gs, vint id] [] (vint (ws.getD (k - 1) 0)) [] := by
  obtain ⟨g1, g2, g3, g4⟩ := gs_pos h
  have hg := h.g
  have hwm : (ws.map eI).length = ws.length := List.length_map ..
  have hgm : (gs.map eI).length = gs.length := List.length_map ..
  have n1 := nxt_rng id
  have p1 := pck_rng (s := nxt id) (n := gs.sum) (by omega)
  refine good_e noM Tryz.func85 rfl rfl ?_
  conv => whnf
  refine VLoop.enter [1, 2, 5, 6] ?_
  conv => whnf
  refine VLoop.ind2 (n0 := 1) (α := Int) (β := Int) noM [1, 2, 5, 6] (fun sum i => ⟨55, 0, [(1, vint id), (2, .one (.hp 0 0 0)), (5, vint sum), (6, vint i)], [(0, some (planB l s ws gs))]⟩)
    (fun sum i => ∃ j : Nat, i = j ∧ j ≤ gs.length ∧ sum = (gs.take j).sum) (fun _ i => ((gs.length : Int) - i).toNat) ?_ 0 0 ⟨0, rfl, by omega, rfl⟩
  rintro _ _ ⟨j, rfl, hj, rfl⟩
  have s0 := sum_mono g1 (a := 0) (b := j) (by omega)
  rw [List.take_zero, List.sum_nil] at s0
  have en : (j : Int).toNat = j := Int.toNat_natCast j
  have hw : IntKind.i64.wrap ((j : Int) + 1) = ((j + 1 : Nat) : Int) := by rw [wrap_in _ (by omega) (by omega)]; omega
  conv => whnf
  rw [hgm]
  split
  · rename_i q
    have q' := of_decide_eq_true q
    have hjl : j < gs.length := by omega
    have hss := sum_snoc hjl
    have s1 := sum_le g1 (j + 1)
    have hs : IntKind.i64.wrap ((gs.take j).sum + gs.getD j 0) = (gs.take (j + 1)).sum := by rw [← hss]; exact wrap_in _ (by have := g1 _ (gi_mem hjl); omega) (by omega)
    conv => whnf
    refine ⟨by omega, by rw [hgm]; omega, _, atI gs en hjl, ?_⟩
    conv => whnf
    rw [hs, hw]
    exact ⟨_, _, rfl, rfl, ⟨j + 1, rfl, hjl, rfl⟩, by omega⟩
  · rename_i q
    have q' := of_decide_eq_false q
    have e : j = gs.length := by omega
    subst e
    rw [List.take_length]
    conv => whnf
    refine .mk _ _ false Tryz.call110 (l4Next_ok id h0 (by omega)) (Nat.le_of_ble_eq_true rfl) (.inl rfl) ?_
    conv => whnf
    refine .mk _ _ false Tryz.call112 (l4Pick_ok (nxt id) gs.sum n1.1 n1.2 (by omega)) (Nat.le_of_ble_eq_true rfl) (.inl rfl) ?_
    conv => whnf
    refine VLoop.enter [1, 2, 7, 8] ?_
    conv => whnf
    refine VLoop.ind2 (n0 := 1) (α := Int) (β := Int) noM [1, 2, 7, 8] (fun r i => ⟨55, 0, [(1, vint id), (2, .one (.hp 0 0 0)), (7, vint r), (8, vint i)], [(0, some (planB l s ws gs))]⟩)
      (fun r i => ∃ j : Nat, i = j ∧ j ≤ gs.length ∧ r = pck (nxt id) gs.sum - (gs.take j).sum ∧ (gs.take j).sum ≤ pck (nxt id) gs.sum) (fun _ i => ((gs.length : Int) - i).toNat) ?_ _ 0 ⟨0, rfl, by omega, by rw [List.take_zero, List.sum_nil]; omega, p1.1⟩
    rintro _ _ ⟨j, rfl, hj, rfl, hp⟩
    have s0 := sum_mono g1 (a := 0) (b := j) (by omega)
    rw [List.take_zero, List.sum_nil] at s0
    have en : (j : Int).toNat = j := Int.toNat_natCast j
    have hw : IntKind.i64.wrap ((j : Int) + 1) = ((j + 1 : Nat) : Int) := by rw [wrap_in _ (by omega) (by omega)]; omega
    conv => whnf
    rw [hgm]
    split
    · rename_i q
      have q' := of_decide_eq_true q
      have hjl : j < gs.length := by omega
      have hss := sum_snoc hjl
      have s1 := sum_le g1 (j + 1)
      have hx := g1 _ (gi_mem hjl)
      have hs : IntKind.i64.wrap (pck (nxt id) gs.sum - (gs.take j).sum - gs.getD j 0) = pck (nxt id) gs.sum - (gs.take (j + 1)).sum := by rw [wrap_in _ (by omega) (by omega)]; omega
      conv => whnf
      refine ⟨by omega, by rw [hgm]; omega, _, atI gs en hjl, ?_⟩
      conv => whnf
      split
      · rename_i q2
        have q2' := of_decide_eq_true q2
        have e := hk.uniq g1 (e := j + 1) ⟨by omega, hjl, hp, by omega⟩
        subst e
        conv => whnf
        refine ⟨by omega, by rw [hwm]; omega, _, atI ws en (by omega), ?_⟩
        conv => whnf
        refine ⟨trivial, ?_⟩
        conv => whnf
        exact ⟨rfl, rfl⟩
      · rename_i q2
        have q2' := of_decide_eq_false q2
        conv => whnf
        refine ⟨by omega, by rw [hgm]; omega, _, atI gs en hjl, ?_⟩
        conv => whnf
        rw [hs, hw]
        exact ⟨_, _, rfl, rfl, ⟨j + 1, rfl, hjl, rfl, by omega⟩, by omega⟩
    · rename_i q
      have q' := of_decide_eq_false q
      have e : j = gs.length := by omega
      subst e
      rw [List.take_length] at hp
      omega
/-- The row of a symbol. -/
def PRow (l s : Int) (ws gs : List Int) (id : Int) (r : List Int) : Prop :=
  (id < cnt l s ∧ r = [id]) ∨ (cnt l s ≤ id ∧ ∃ k c d : Nat, DegP gs (pck (nxt id) gs.sum) k ∧ ws.getD (k - 1) 0 = c ∧ 1 ≤ c ∧ (c : Int) ≤ cnt l s ∧ DegP (degs c) (pck (nxt (nxt id)) 65536) d ∧ r = rowD c id d)
theorem rowD_row {c : Nat} {id : Int} {d : Nat} (hc : 1 ≤ c) (hc2 : c ≤ 24) {p : Int} (hd : DegP (degs c) p d) : RowP c (rowD c id d) ∧ (rowD c id d).length = d := by
  have n2 := nxt_rng (nxt id)
  have hdc : d ≤ c := by have := hd.h2; have := (degs_rng (c := (c : Int)) (by omega) (by omega)).1; omega
  have := drw_ok (c := c) n2.1 n2.2 d hdc
  exact ⟨srt_row this, by unfold rowD; rw [srt_len, this.lo]⟩
theorem prow_ex {l s : Int} {ws gs : List Int} (h : POk l s ws gs) {id : Int} (h0 : 0 ≤ id) : ∃ r, PRow l s ws gs id r := by
  by_cases q : id < cnt l s
  · exact ⟨_, .inl ⟨q, rfl⟩⟩
  · obtain ⟨g1, g2, g3, g4⟩ := gs_pos h
    have p1 := pck_rng (s := nxt id) (n := gs.sum) (by omega)
    have p2 := pck_rng (s := nxt (nxt id)) (n := 65536) (by omega)
    obtain ⟨k, hk⟩ := DegP.ex (l := gs) p1.1 p1.2
    have hk2 := hk.h2
    have hk1 := hk.h1
    have hr := h.rng (k - 1) (by have := h.g; omega)
    have hc2 := h.c2
    have hdg := degs_rng (c := ws.getD (k - 1) 0) (by omega) (by omega)
    obtain ⟨d, hd⟩ := DegP.ex (l := degs (ws.getD (k - 1) 0)) (p := pck (nxt (nxt id)) 65536) p2.1 (by omega)
    have e : ((ws.getD (k - 1) 0).toNat : Int) = ws.getD (k - 1) 0 := by omega
    exact ⟨_, .inr ⟨by omega, k, (ws.getD (k - 1) 0).toNat, d, hk, e.symm, by omega, by omega, by rw [e]; exact hd, rfl⟩⟩
theorem prow_row {l s : Int} {ws gs : List Int} (h : POk l s ws gs) {id : Int} (h0 : 0 ≤ id) {r : List Int} (hr : PRow l s ws gs id r) : RowP (cnt l s) r := by
  rcases hr with ⟨q, rfl⟩ | ⟨q, k, c, d, _, _, h1, h2, h3, rfl⟩
  · exact ⟨List.pairwise_singleton .., fun x hx => by rw [List.mem_singleton.1 hx]; exact h0, fun x hx => by rw [List.mem_singleton.1 hx]; exact q⟩
  · have := h.c2
    exact (rowD_row h1 (by omega) h3).1.mono h2
set_option maxHeartbeats 16000000 in
set_option maxRecDepth 100000 in
theorem l5Row_ok (l s : Int) (ws gs : List Int) (h : POk l s ws gs) (id : Int) (h0 : 0 ≤ id) (h1 : id ≤ 9999) (r : List Int) (hr : PRow l s ws gs id r) : Good Tryz.prog 35 [planF l s ws gs, vint id] [] (.one (.hs 0 0 r.length)) [.arr 1 (r.map eI)] := by
  have hs1 := h.s1
  have hc2 := h.c2
  refine good_e noM Tryz.func35 rfl rfl ?_
  conv => whnf
  refine .mk _ _ false Tryz.call43 (specCount_ok l s ws gs (by omega)) (Nat.le_of_ble_eq_true rfl) (.inl rfl) ?_
  conv => whnf
  rcases hr with ⟨q, rfl⟩ | ⟨q, k, c, d, hk, hw, hc1, hc3, hd, rfl⟩
  · rw [decide_eq_true q]
    conv => whnf
    refine ⟨trivial, ?_⟩
    conv => whnf
    exact ⟨rfl, rfl⟩
  · rw [decide_eq_false (show ¬ id < cnt l s by omega), (rowD_row hc1 (by omega) hd).2]
    have gw := l5Window_ok l s ws gs h id h0 h1 k hk
    rw [hw] at gw
    conv => whnf
    refine .mk _ _ false Tryz.call85 gw (Nat.le_of_ble_eq_true rfl) (.inl rfl) ?_
    conv => whnf
    refine .mk _ _ false Tryz.call84 (l4Row_ok c id hc1 (by omega) h0 (by omega) d hd) (Nat.le_of_ble_eq_true rfl) (.inl rfl) ?_
    conv => whnf
    refine ⟨trivial, ?_⟩
    conv => whnf
    exact ⟨rfl, rfl⟩
end Go.Abs.F

set_option linter.unusedSimpArgs false
set_option linter.unusedVariables false
namespace Go.Abs.F
open Go Go.Abs Go.Proofs Go.RowKit
attribute [local irreducible] IntKind.wrap
set_option maxHeartbeats 16000000 in
set_option maxRecDepth 100000 in
theorem planRow_ok (l s : Int) (ws gs : List Int) (h : POk l s ws gs) (id : Int) (h0 : 0 ≤ id) (h1 : id ≤ 9999) (r : List Int) (hr : PRow l s ws gs id r) : Good Tryz.prog 31 [planF l s ws gs, vint id] [] (.one (.hs 0 0 r.length)) [.arr 1 (r.map eI)] := by
  obtain ⟨g1, g2, g3, g4⟩ := gs_pos h
  have hg := h.g
  have hs1 := h.s1
  have hc2 := h.c2
  have hwm : (ws.map eI).length = ws.length := List.length_map ..
  have hgm : (gs.map eI).length = gs.length := List.length_map ..
  have hin : inR id 0 9999 = true := inR_iff.2 ⟨h0, h1⟩
  refine good_e noM Tryz.func31 rfl rfl ?_
  conv => whnf
  refine .mk _ _ false Tryz.call38 (implPOk_ok l s ws gs (by have := h.w2; omega) true ⟨fun _ => h, fun _ => rfl⟩) (Nat.le_of_ble_eq_true rfl) (.inl rfl) ?_
  conv => whnf
  refine .mk _ _ false Tryz.call29 (within_ok id 0 9999) (Nat.le_of_ble_eq_true rfl) (.inl rfl) ?_
  conv => whnf
  rw [hin]
  conv => whnf
  refine .mk _ _ false Tryz.call40 (implCount_ok l s ws gs (by omega)) (Nat.le_of_ble_eq_true rfl) (.inl rfl) ?_
  conv => whnf
  rcases hr with ⟨q, rfl⟩ | ⟨q, k, c, d, hk, hww, hc1, hc3, hd, rfl⟩
  · rw [decide_eq_true q]
    conv => whnf
    refine ⟨trivial, ?_⟩
    conv => whnf
    exact ⟨rfl, rfl⟩
  · rw [decide_eq_false (show ¬ id < cnt l s by omega), (rowD_row hc1 (by omega) hd).2]
    have n1 := nxt_rng id
    have p1 := pck_rng (s := nxt id) (n := gs.sum) (by omega)
    conv => whnf
    refine VLoop.enter [1, 2, 5, 28, 29, 30] ?_
    conv => whnf
    refine VLoop.ind2 (n0 := 1) (α := Int) (β := Int) noM [1, 2, 5, 28, 29, 30] (fun sum i => ⟨65, 0, [(1, vint id), (2, .one (.hp 0 0 0)), (5, vint sum), (28, .one (.p (slI gs))), (29, vint (gs.map eI).length), (30, vint i)], [(0, some (planB l s ws gs))]⟩)
      (fun sum i => ∃ j : Nat, i = j ∧ j ≤ gs.length ∧ sum = (gs.take j).sum) (fun _ i => ((gs.length : Int) - i).toNat) ?_ 0 0 ⟨0, rfl, by omega, rfl⟩
    rintro _ _ ⟨j, rfl, hj, rfl⟩
    have s0 := sum_mono g1 (a := 0) (b := j) (by omega)
    rw [List.take_zero, List.sum_nil] at s0
    have en : (j : Int).toNat = j := Int.toNat_natCast j
    have hw : IntKind.i64.wrap ((j : Int) + 1) = ((j + 1 : Nat) : Int) := by rw [wrap_in _ (by omega) (by omega)]; omega
    conv => whnf
    rw [hgm]
    split
    · rename_i q
      have q' := of_decide_eq_true q
      have hjl : j < gs.length := by omega
      have hss := sum_snoc hjl
      have s1 := sum_le g1 (j + 1)
      have hs : IntKind.i64.wrap ((gs.take j).sum + gs.getD j 0) = (gs.take (j + 1)).sum := by rw [← hss]; exact wrap_in _ (by have := g1 _ (gi_mem hjl); omega) (by omega)
      conv => whnf
      refine ⟨by omega, by rw [hgm]; omega, _, atI gs en hjl, ?_⟩
      conv => whnf
      rw [hs, hw]
      exact ⟨_, _, rfl, rfl, ⟨j + 1, rfl, hjl, rfl⟩, by omega⟩
    · rename_i q
      have q' := of_decide_eq_false q
      have e : j = gs.length := by omega
      subst e
      rw [List.take_length]
      conv => whnf
      refine .mk _ _ false Tryz.call75 (seedNext_ok id h0 (by omega)) (Nat.le_of_ble_eq_true rfl) (.inl rfl) ?_
      conv => whnf
      refine .mk _ _ false Tryz.call74 (seedPick_ok (nxt id) gs.sum n1.1 n1.2 (by omega) (by omega)) (Nat.le_of_ble_eq_true rfl) (.inl rfl) ?_
      conv => whnf
      refine VLoop.enter [1, 2, 8, 9, 43, 44, 45] ?_
      conv => whnf
      refine VLoop.ind2 (n0 := 1) (α := Int) (β := Int) noM [1, 2, 8, 9, 43, 44, 45] (fun sum i => ⟨65, 0, [(1, vint id), (2, .one (.hp 0 0 0)), (8, vint (pck (nxt id) gs.sum)), (9, vint sum), (43, .one (.p (slI gs))), (44, vint (gs.map eI).length), (45, vint i)], [(0, some (planB l s ws gs))]⟩)
        (fun sum i => ∃ j : Nat, i = j ∧ j ≤ gs.length ∧ sum = (gs.take j).sum ∧ (gs.take j).sum ≤ pck (nxt id) gs.sum) (fun _ i => ((gs.length : Int) - i).toNat) ?_ 0 0 ⟨0, rfl, by omega, rfl, p1.1⟩
      rintro _ _ ⟨j, rfl, hj, rfl, hp⟩
      have s0 := sum_mono g1 (a := 0) (b := j) (by omega)
      rw [List.take_zero, List.sum_nil] at s0
      have en : (j : Int).toNat = j := Int.toNat_natCast j
      have hw : IntKind.i64.wrap ((j : Int) + 1) = ((j + 1 : Nat) : Int) := by rw [wrap_in _ (by omega) (by omega)]; omega
      conv => whnf
      rw [hgm]
      split
      · rename_i q
        have q' := of_decide_eq_true q
        have hjl : j < gs.length := by omega
        have hss := sum_snoc hjl
        have s1 := sum_le g1 (j + 1)
        have hx := g1 _ (gi_mem hjl)
        have hs : IntKind.i64.wrap ((gs.take j).sum + gs.getD j 0) = (gs.take (j + 1)).sum := by rw [← hss]; exact wrap_in _ (by omega) (by omega)
        conv => whnf
        refine ⟨by omega, by rw [hgm]; omega, _, atI gs en hjl, ?_⟩
        conv => whnf
        rw [hs]
        split
        · rename_i q2
          have q2' := of_decide_eq_true q2
          have e := hk.uniq g1 (e := j + 1) ⟨by omega, hjl, hp, by omega⟩
          subst e
          have hww2 : ws.getD j 0 = c := hww
          conv => whnf
          refine ⟨by omega, by rw [hwm]; omega, _, atI ws en (by omega), ?_⟩
          conv => whnf
          rw [hww2]
          refine .mk _ _ false Tryz.call76 (rowDraw_ok c id hc1 (by omega) h0 (by omega) d hd) (Nat.le_of_ble_eq_true rfl) (.inl rfl) ?_
          conv => whnf
          refine ⟨trivial, ?_⟩
          conv => whnf
          exact ⟨rfl, rfl⟩
        · rename_i q2
          have q2' := of_decide_eq_false q2
          conv => whnf
          rw [hw]
          exact ⟨_, _, rfl, rfl, ⟨j + 1, rfl, hjl, rfl, by omega⟩, by omega⟩
      · rename_i q
        have q' := of_decide_eq_false q
        have e : j = gs.length := by omega
        subst e
        rw [List.take_length] at hp
        omega
end Go.Abs.F

set_option linter.unusedSimpArgs false
set_option linter.unusedVariables false
namespace Go.Abs.F
open Go Go.Abs Go.Proofs Go.RowKit
attribute [local irreducible] IntKind.wrap
@[reducible] def getF (l s : Int) (ws gs : List Int) (c z : Int) (es : List Eqn) : AV := .agg [.p (.lit (.int .i64 l)), .p (.lit (.int .i64 s)), .p (slI ws), .p (slI gs), .p (.lit (.int .i64 c)), .p (.lit (.int .i64 z)), .p (.sl (es.map eE))]
/-- What is known of a thing is ok. -/
structure GOk (l s : Int) (ws gs : List Int) (c z : Int) (es : List Eqn) : Prop where
  pl : POk l s ws gs
  so : SOk c z es
  ce : c = cnt l s
  ze : z = s
theorem gok_ex (l s : Int) (ws gs : List Int) (c z : Int) (es : List Eqn) : ∃ b : Bool, b = true ↔ GOk l s ws gs c z es := by
  by_cases h : GOk l s ws gs c z es
  · exact ⟨true, fun _ => h, fun _ => rfl⟩
  · exact ⟨false, fun q => by (cases q), fun q => (h q).elim⟩
theorem gok_f {l s : Int} {ws gs : List Int} {c z : Int} {es : List Eqn} {b : Bool} (hb : b = true ↔ GOk l s ws gs c z es) (h : ¬ GOk l s ws gs c z es) : b = false := by
  cases b with
  | false => rfl
  | true => exact (h (hb.1 rfl)).elim
set_option maxHeartbeats 16000000 in
set_option maxRecDepth 100000 in
theorem implGOk_ok (l s : Int) (ws gs : List Int) (c z : Int) (es : List Eqn) (hw : ws.length ≤ 1100000) (hB : SBd c z es) (b : Bool) (hb : b = true ↔ GOk l s ws gs c z es) : Good Tryz.prog 9 [getF l s ws gs c z es] [] (vbool b) [] := by
  obtain ⟨bp, hbp⟩ := pok_ex l s ws gs
  obtain ⟨bs, hbs⟩ := sok_ex c z es
  refine good_e noM Tryz.func9 rfl rfl ?_
  conv => whnf
  refine VDraw.goR [0, 1, 3, 7, 15, 31, 63, 127, 255, 511, 1023, 2047, 511, 4607, 12799, 32767, 65535, 131071, 262143, 524287, 1048575, 262143, 2359295, 6553599, 16777215, 33554431, 67108863] [2, 6, 14] [] [] rfl (by decide +kernel) ?_
  conv => whnf
  refine .mk _ _ false Tryz.call38 (implPOk_ok l s ws gs hw bp hbp) (Nat.le_of_ble_eq_true rfl) (.inl rfl) ?_
  conv => whnf
  cases bp with
  | false =>
    obtain rfl := gok_f hb fun q => by have := hbp.2 q.pl; cases this
    conv => whnf
    refine ⟨trivial, ?_⟩
    conv => whnf
    exact ⟨rfl, rfl⟩
  | true =>
  have hP := hbp.1 rfl
  have hs1 := hP.s1
  conv => whnf
  refine .mk _ _ false Tryz.call39 (implSOk_ok c z es hB bs hbs) (Nat.le_of_ble_eq_true rfl) (.inl rfl) ?_
  conv => whnf
  cases bs with
  | false =>
    obtain rfl := gok_f hb fun q => by have := hbs.2 q.so; cases this
    conv => whnf
    refine ⟨trivial, ?_⟩
    conv => whnf
    exact ⟨rfl, rfl⟩
  | true =>
  have hS := hbs.1 rfl
  conv => whnf
  refine .mk _ _ false Tryz.call40 (implCount_ok l s ws gs (by omega)) (Nat.le_of_ble_eq_true rfl) (.inl rfl) ?_
  conv => whnf
  cases e1 : (c == cnt l s) with
  | false =>
    have e1' : ¬ c = cnt l s := by simpa using e1
    obtain rfl := gok_f hb fun q => e1' q.ce
    conv => whnf
    refine ⟨trivial, ?_⟩
    conv => whnf
    exact ⟨rfl, rfl⟩
  | true =>
  have e1' : c = cnt l s := by simpa using e1
  conv => whnf
  cases e2 : (z == s) with
  | false =>
    have e2' : ¬ z = s := by simpa using e2
    obtain rfl := gok_f hb fun q => e2' q.ze
    refine ⟨trivial, ?_⟩
    conv => whnf
    exact ⟨rfl, rfl⟩
  | true =>
    have e2' : z = s := by simpa using e2
    obtain rfl := hb.2 ⟨hP, hS, e1', e2'⟩
    refine ⟨trivial, ?_⟩
    conv => whnf
    exact ⟨rfl, rfl⟩
set_option maxHeartbeats 16000000 in
set_option maxRecDepth 100000 in
theorem specGOk_ok (l s : Int) (ws gs : List Int) (c z : Int) (es : List Eqn) (hw : ws.length ≤ 1100000) (hB : SBd c z es) (b : Bool) (hb : b = true ↔ GOk l s ws gs c z es) : Good Tryz.prog 10 [getF l s ws gs c z es] [] (vbool b) [] := by
  obtain ⟨bp, hbp⟩ := pok_ex l s ws gs
  obtain ⟨bs, hbs⟩ := sok_ex c z es
  refine good_e noM Tryz.func10 rfl rfl ?_
  conv => whnf
  refine VDraw.goR [0, 1, 3, 7, 15, 31, 63, 127, 255, 511, 1023, 2047, 511, 4607, 12799, 32767, 65535, 131071, 262143, 524287, 1048575, 262143, 2359295, 6553599, 16777215, 33554431, 67108863] [2, 6, 14] [] [] rfl (by decide +kernel) ?_
  conv => whnf
  refine .mk _ _ false Tryz.call41 (specPOk_ok l s ws gs hw bp hbp) (Nat.le_of_ble_eq_true rfl) (.inl rfl) ?_
  conv => whnf
  cases bp with
  | false =>
    obtain rfl := gok_f hb fun q => by have := hbp.2 q.pl; cases this
    conv => whnf
    refine ⟨trivial, ?_⟩
    conv => whnf
    exact ⟨rfl, rfl⟩
  | true =>
  have hP := hbp.1 rfl
  have hs1 := hP.s1
  conv => whnf
  refine .mk _ _ false Tryz.call42 (specSOk_ok c z es hB bs hbs) (Nat.le_of_ble_eq_true rfl) (.inl rfl) ?_
  conv => whnf
  cases bs with
  | false =>
    obtain rfl := gok_f hb fun q => by have := hbs.2 q.so; cases this
    conv => whnf
    refine ⟨trivial, ?_⟩
    conv => whnf
    exact ⟨rfl, rfl⟩
  | true =>
  have hS := hbs.1 rfl
  conv => whnf
  refine .mk _ _ false Tryz.call43 (specCount_ok l s ws gs (by omega)) (Nat.le_of_ble_eq_true rfl) (.inl rfl) ?_
  conv => whnf
  cases e1 : (c == cnt l s) with
  | false =>
    have e1' : ¬ c = cnt l s := by simpa using e1
    obtain rfl := gok_f hb fun q => e1' q.ce
    conv => whnf
    refine ⟨trivial, ?_⟩
    conv => whnf
    exact ⟨rfl, rfl⟩
  | true =>
  have e1' : c = cnt l s := by simpa using e1
  conv => whnf
  cases e2 : (z == s) with
  | false =>
    have e2' : ¬ z = s := by simpa using e2
    obtain rfl := gok_f hb fun q => e2' q.ze
    refine ⟨trivial, ?_⟩
    conv => whnf
    exact ⟨rfl, rfl⟩
  | true =>
    have e2' : z = s := by simpa using e2
    obtain rfl := hb.2 ⟨hP, hS, e1', e2'⟩
    refine ⟨trivial, ?_⟩
    conv => whnf
    exact ⟨rfl, rfl⟩
end Go.Abs.F

set_option linter.unusedSimpArgs false
set_option linter.unusedVariables false
namespace Go.Abs.F
open Go Go.Abs Go.Proofs Go.RowKit
attribute [local irreducible] IntKind.wrap
@[reducible] def planR (l s : Int) (ws gs : List Int) : AV := .agg [.p (.lit (.int .i64 l)), .p (.lit (.int .i64 s)), .hs 0 0 ws.length, .hs 1 0 gs.length]
set_option maxHeartbeats 16000000 in
set_option maxRecDepth 100000 in
theorem clonePlan_own (l s : Int) (ws gs : List Int) (hw : ws.length ≤ 1100000) (hg : gs.length ≤ 1100000) : Good Tryz.prog 65 [planF l s ws gs] [] (planR l s ws gs) [.arr 1 (ws.map eI), .arr 1 (gs.map eI)] := by
  have hwm : (ws.map eI).length = ws.length := List.length_map ..
  have hgm : (gs.map eI).length = gs.length := List.length_map ..
  refine good_e noM Tryz.func65 rfl rfl ?_
  conv => whnf
  refine VDraw.goR [0, 1, 0, 4, 0, 0, 32, 112, 0, 0, 512, 2032, 4095, 8191] [4, 7, 8, 11, 13] [(7, [4]), (11, [8])] [(13, [8])] rfl (by decide +kernel) ?_
  conv => whnf
  refine ⟨⟨rfl, rfl, rfl⟩, trivial, ?_⟩
  conv => whnf
  refine ⟨(fun q => by cases q), app3 (by rw [List.length_replicate, List.length_map]; omega), eI_len ws, ?_⟩
  conv => whnf
  refine ⟨⟨rfl, rfl, rfl⟩, trivial, ?_⟩
  conv => whnf
  refine ⟨(fun q => by cases q), app3 (by rw [List.length_replicate, List.length_map]; omega), eI_len gs, ?_⟩
  conv => whnf
  refine ⟨⟨⟨by decide +kernel, Nat.le_of_ble_eq_true rfl⟩, trivial⟩, ?_⟩
  conv => whnf
  refine ⟨?_, rfl⟩
  show AV.agg [.p (.lit (.int .i64 l)), .p (.lit (.int .i64 s)), .hs 0 0 (0 + (ws.map eI).length), .hs 1 0 (0 + (gs.map eI).length)] = _
  rw [Nat.zero_add, Nat.zero_add, List.length_map, List.length_map]
theorem plan_fz {f : FuncId} {l s : Int} {ws gs : List Int} (h : Good Tryz.prog f [planF l s ws gs] [] (planR l s ws gs) [.arr 1 (ws.map eI), .arr 1 (gs.map eI)]) : Good Tryz.prog f [planF l s ws gs] [] (planF l s ws gs) [] :=
  good_frz h (.v (.agg (.cons .p (.cons .p (.cons (.sl rfl (List.length_map ..).symm (Nat.zero_le _)) (.cons (.sl rfl (List.length_map ..).symm (Nat.zero_le _)) .nil)))))) rfl (fun _ h => by cases h)
set_option maxHeartbeats 16000000 in
set_option maxRecDepth 100000 in
theorem implClone_fz (l s : Int) (ws gs : List Int) (c z : Int) (es : List Eqn) (hw : ws.length ≤ 1100000) (hg : gs.length ≤ 1100000) (hB : SBd c z es) : Good Tryz.prog 28 [getF l s ws gs c z es] [] (getF l s ws gs c z es) [] := by
  refine good_e noM Tryz.func28 rfl rfl ?_
  conv => whnf
  refine VDraw.goR [0, 1, 3, 0, 8, 31, 63, 127] [2, 5, 7] [] [(7, [8])] rfl (by decide +kernel) ?_
  conv => whnf
  refine .mk _ _ false Tryz.call65 (plan_fz (clonePlan_own l s ws gs hw hg)) (Nat.le_of_ble_eq_true rfl) (.inl rfl) ?_
  conv => whnf
  refine .mk _ _ false Tryz.call66 (implClone_ok c z es hB) (Nat.le_of_ble_eq_true rfl) (.inl rfl) ?_
  conv => whnf
  refine ⟨⟨⟨by decide +kernel, Nat.le_of_ble_eq_true rfl⟩, trivial⟩, ?_⟩
  conv => whnf
  exact ⟨rfl, rfl⟩
set_option maxHeartbeats 16000000 in
set_option maxRecDepth 100000 in
theorem specClone_fz (l s : Int) (ws gs : List Int) (c z : Int) (es : List Eqn) (hw : ws.length ≤ 1100000) (hg : gs.length ≤ 1100000) (hB : SBd c z es) : Good Tryz.prog 32 [getF l s ws gs c z es] [] (getF l s ws gs c z es) [] := by
  refine good_e noM Tryz.func32 rfl rfl ?_
  conv => whnf
  refine VDraw.goR [0, 1, 3, 0, 8, 31, 63, 127] [2, 5, 7] [] [(7, [8])] rfl (by decide +kernel) ?_
  conv => whnf
  refine .mk _ _ false Tryz.call77 (plan_fz (l6Plan_ok l s ws gs hw hg)) (Nat.le_of_ble_eq_true rfl) (.inl rfl) ?_
  conv => whnf
  refine .mk _ _ false Tryz.call78 (l3Copy_ok c z es hB) (Nat.le_of_ble_eq_true rfl) (.inl rfl) ?_
  conv => whnf
  refine ⟨⟨⟨by decide +kernel, Nat.le_of_ble_eq_true rfl⟩, trivial⟩, ?_⟩
  conv => whnf
  exact ⟨rfl, rfl⟩
@[reducible] def getN : AV := .agg [.p (.lit (.int .i64 0)), .p (.lit (.int .i64 0)), nilP, nilP, .p (.lit (.int .i64 0)), .p (.lit (.int .i64 0)), nilP]
/-- What GetAdd answers. -/
inductive GAR (l s : Int) (ws gs : List Int) (c z : Int) (es : List Eqn) (id : Int) (d : ByteArray) : AV → Prop
  | bad (h : ¬ GOk l s ws gs c z es) : GAR l s ws gs c z es id d (.tup [getN, vint 3])
  | out (h : GOk l s ws gs c z es) (ho : ¬ (0 ≤ id ∧ id ≤ 9999 ∧ (d.size : Int) = s)) : GAR l s ws gs c z es id d (.tup [getF l s ws gs c z es, vint 3])
  | new (h : GOk l s ws gs c z es) (h0 : 0 ≤ id) (h1 : id ≤ 9999) (hd : (d.size : Int) = s) (r : List Int) (hr : PRow l s ws gs id r) (A : List Eqn × Int) (hA : A = addR es (red es (r, d)) z.toNat) : GAR l s ws gs c z es id d (.tup [getF l s ws gs c z A.1, vint A.2])
theorem gar_ex (l s : Int) (ws gs : List Int) (c z : Int) (es : List Eqn) (id : Int) (d : ByteArray) : ∃ v, GAR l s ws gs c z es id d v := by
  by_cases h : GOk l s ws gs c z es
  · by_cases ho : 0 ≤ id ∧ id ≤ 9999 ∧ (d.size : Int) = s
    · obtain ⟨r, hr⟩ := prow_ex h.pl ho.1
      exact ⟨_, .new h ho.1 ho.2.1 ho.2.2 r hr _ rfl⟩
    · exact ⟨_, .out h ho⟩
  · exact ⟨_, .bad h⟩
set_option maxHeartbeats 16000000 in
set_option maxRecDepth 100000 in
theorem implGA_ok (l s : Int) (ws gs : List Int) (c z : Int) (es : List Eqn) (hw : ws.length ≤ 1100000) (hg : gs.length ≤ 1100000) (hB : SBd c z es) (id : Int) (d : ByteArray) (hds : d.size ≤ 100000000) (v : AV) (hv : GAR l s ws gs c z es id d v) : Good Tryz.prog 6 [getF l s ws gs c z es, vint id, vstr d] [] v [] := by
  obtain ⟨b, hb⟩ := gok_ex l s ws gs c z es
  refine good_e noM Tryz.func6 rfl rfl ?_
  conv => whnf
  refine .mk _ _ false Tryz.call9 (implGOk_ok l s ws gs c z es (by omega) hB b hb) (Nat.le_of_ble_eq_true rfl) (.inl rfl) ?_
  conv => whnf
  cases hv with
  | bad hn =>
    obtain rfl := gok_f hb hn
    conv => whnf
    refine ⟨⟨⟨by decide +kernel, Nat.le_of_ble_eq_true rfl⟩, trivial⟩, ?_⟩
    conv => whnf
    exact ⟨rfl, rfl⟩
  | out hk ho =>
    obtain rfl := hb.2 hk
    conv => whnf
    refine .mk _ _ false Tryz.call28 (implClone_fz l s ws gs c z es (by omega) (by omega) hB) (Nat.le_of_ble_eq_true rfl) (.inl rfl) ?_
    conv => whnf
    refine .mk _ _ false Tryz.call29 (within_ok id 0 9999) (Nat.le_of_ble_eq_true rfl) (.inl rfl) ?_
    conv => whnf
    cases hi : inR id 0 9999 with
    | false =>
      conv => whnf
      refine ⟨⟨⟨by decide +kernel, Nat.le_of_ble_eq_true rfl⟩, trivial⟩, ?_⟩
      conv => whnf
      exact ⟨rfl, rfl⟩
    | true =>
      have hi' := inR_iff.1 hi
      have hne : ((d.size : Int) != s) = true := bne_iff_ne.2 fun q => ho ⟨hi'.1, hi'.2, q⟩
      conv => whnf
      rw [hne]
      conv => whnf
      refine ⟨⟨⟨by decide +kernel, Nat.le_of_ble_eq_true rfl⟩, trivial⟩, ?_⟩
      conv => whnf
      exact ⟨rfl, rfl⟩
  | new hk h0 h1 hd r hr A hA =>
    obtain rfl := hb.2 hk
    have hin : inR id 0 9999 = true := inR_iff.2 ⟨h0, h1⟩
    have hne : ((d.size : Int) != s) = false := by
      cases q : ((d.size : Int) != s) with
      | false => rfl
      | true => exact absurd hd (bne_iff_ne.1 q)
    have hrow := prow_row hk.pl h0 hr
    rw [← hk.ce] at hrow
    have hc2 := hk.so.c2
    have hz1 := hk.so.z1
    have hze := hk.ze
    have hrl := row_len (hrow.mono hc2)
    have hrm : (r.map eI).length = r.length := List.length_map ..
    obtain ⟨q, hq⟩ : ∃ q, q = red es (r, d) := ⟨_, rfl⟩
    rw [← hq] at hA
    have gA := implAdd_ok c z es hB hk.so r d hrow (by omega) q hq A hA
    conv => whnf
    refine .mk _ _ false Tryz.call28 (implClone_fz l s ws gs c z es (by omega) (by omega) hB) (Nat.le_of_ble_eq_true rfl) (.inl rfl) ?_
    conv => whnf
    refine .mk _ _ false Tryz.call29 (within_ok id 0 9999) (Nat.le_of_ble_eq_true rfl) (.inl rfl) ?_
    conv => whnf
    rw [hin]
    conv => whnf
    rw [hne]
    conv => whnf
    refine VDraw.goR [0, 1, 0, 4, 0, 28, 0, 127, 255, 511, 511, 0, 3071, 8191] [5, 7, 11, 12] [(7, [5]), (12, [11])] [] rfl (by decide +kernel) ?_
    conv => whnf
    refine .mk _ _ false Tryz.call31 (planRow_ok l s ws gs hk.pl id h0 h1 r hr) (Nat.le_of_ble_eq_true rfl) (.inl rfl) ?_
    conv => whnf
    have htk : List.take r.length (List.drop 0 (r.map eI)) = r.map eI := takeI r
    refine ⟨by rw [hrm]; omega, ?_⟩
    conv => whnf
    rw [htk]
    refine .mk _ _ true Tryz.call30 gA (Nat.le_of_ble_eq_true rfl) (fun b hb => by cases List.mem_singleton.1 hb; exact Nat.le_of_ble_eq_true rfl) ?_
    conv => whnf
    refine ⟨⟨⟨by decide +kernel, Nat.le_of_ble_eq_true rfl⟩, trivial⟩, ?_⟩
    conv => whnf
    exact ⟨rfl, rfl⟩
set_option maxHeartbeats 16000000 in
set_option maxRecDepth 100000 in
theorem specGA_ok (l s : Int) (ws gs : List Int) (c z : Int) (es : List Eqn) (hw : ws.length ≤ 1100000) (hg : gs.length ≤ 1100000) (hB : SBd c z es) (id : Int) (d : ByteArray) (hds : d.size ≤ 100000000) (v : AV) (hv : GAR l s ws gs c z es id d v) : Good Tryz.prog 7 [getF l s ws gs c z es, vint id, vstr d] [] v [] := by
  obtain ⟨b, hb⟩ := gok_ex l s ws gs c z es
  refine good_e noM Tryz.func7 rfl rfl ?_
  conv => whnf
  refine .mk _ _ false Tryz.call10 (specGOk_ok l s ws gs c z es (by omega) hB b hb) (Nat.le_of_ble_eq_true rfl) (.inl rfl) ?_
  conv => whnf
  cases hv with
  | bad hn =>
    obtain rfl := gok_f hb hn
    conv => whnf
    refine ⟨⟨⟨by decide +kernel, Nat.le_of_ble_eq_true rfl⟩, trivial⟩, ?_⟩
    conv => whnf
    exact ⟨rfl, rfl⟩
  | out hk ho =>
    obtain rfl := hb.2 hk
    conv => whnf
    refine .mk _ _ false Tryz.call32 (specClone_fz l s ws gs c z es (by omega) (by omega) hB) (Nat.le_of_ble_eq_true rfl) (.inl rfl) ?_
    conv => whnf
    refine .mk _ _ false Tryz.call33 (l1In_ok id 0 9999) (Nat.le_of_ble_eq_true rfl) (.inl rfl) ?_
    conv => whnf
    cases hi : inR id 0 9999 with
    | false =>
      conv => whnf
      refine ⟨⟨⟨by decide +kernel, Nat.le_of_ble_eq_true rfl⟩, trivial⟩, ?_⟩
      conv => whnf
      exact ⟨rfl, rfl⟩
    | true =>
      have hi' := inR_iff.1 hi
      have hne : ((d.size : Int) != s) = true := bne_iff_ne.2 fun q => ho ⟨hi'.1, hi'.2, q⟩
      conv => whnf
      rw [hne]
      conv => whnf
      refine ⟨⟨⟨by decide +kernel, Nat.le_of_ble_eq_true rfl⟩, trivial⟩, ?_⟩
      conv => whnf
      exact ⟨rfl, rfl⟩
  | new hk h0 h1 hd r hr A hA =>
    obtain rfl := hb.2 hk
    have hin : inR id 0 9999 = true := inR_iff.2 ⟨h0, h1⟩
    have hne : ((d.size : Int) != s) = false := by
      cases q : ((d.size : Int) != s) with
      | false => rfl
      | true => exact absurd hd (bne_iff_ne.1 q)
    have hrow := prow_row hk.pl h0 hr
    rw [← hk.ce] at hrow
    have hc2 := hk.so.c2
    have hz1 := hk.so.z1
    have hze := hk.ze
    have hrl := row_len (hrow.mono hc2)
    have hrm : (r.map eI).length = r.length := List.length_map ..
    obtain ⟨q, hq⟩ : ∃ q, q = red es (r, d) := ⟨_, rfl⟩
    rw [← hq] at hA
    have gA := l3Add_ok c z es hB hk.so r d hrow (by omega) q hq A hA
    conv => whnf
    refine .mk _ _ false Tryz.call32 (specClone_fz l s ws gs c z es (by omega) (by omega) hB) (Nat.le_of_ble_eq_true rfl) (.inl rfl) ?_
    conv => whnf
    refine .mk _ _ false Tryz.call33 (l1In_ok id 0 9999) (Nat.le_of_ble_eq_true rfl) (.inl rfl) ?_
    conv => whnf
    rw [hin]
    conv => whnf
    rw [hne]
    conv => whnf
    refine VDraw.goR [0, 1, 0, 4, 0, 28, 0, 127, 255, 511, 511, 0, 3071, 8191] [5, 7, 11, 12] [(7, [5]), (12, [11])] [] rfl (by decide +kernel) ?_
    conv => whnf
    refine .mk _ _ false Tryz.call35 (l5Row_ok l s ws gs hk.pl id h0 h1 r hr) (Nat.le_of_ble_eq_true rfl) (.inl rfl) ?_
    conv => whnf
    have htk : List.take r.length (List.drop 0 (r.map eI)) = r.map eI := takeI r
    refine ⟨by rw [hrm]; omega, ?_⟩
    conv => whnf
    rw [htk]
    refine .mk _ _ true Tryz.call34 gA (Nat.le_of_ble_eq_true rfl) (fun b hb => by cases List.mem_singleton.1 hb; exact Nat.le_of_ble_eq_true rfl) ?_
    conv => whnf
    refine ⟨⟨⟨by decide +kernel, Nat.le_of_ble_eq_true rfl⟩, trivial⟩, ?_⟩
    conv => whnf
    exact ⟨rfl, rfl⟩
end Go.Abs.F
