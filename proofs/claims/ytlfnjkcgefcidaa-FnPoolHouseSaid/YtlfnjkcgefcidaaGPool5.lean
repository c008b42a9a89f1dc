import Derived.Test.YtlfnjkcgefcidaaGPool4
set_option linter.unusedSimpArgs false
set_option linter.unusedVariables false
namespace Go.Abs.B
open Go Go.Abs Go.Proofs
attribute [local irreducible] IntKind.wrap
/-- The hand goes round. -/
def victim (own : Bool) (house : Int) : Nat → Fs → Nat → Fs × Nat × Int
  | 0, l, h => (l, h, -1)
  | n + 1, l, h => match own && ((at' l h).b == 0 || (at' l h).a != house) with
    | true => victim own house n l ((h + 1) % 8)
    | false => match decide ((at' l h).d > 0) with
      | true => victim own house n l ((h + 1) % 8)
      | false => match (at' l h).e with
        | true => victim own house n (l.set h { at' l h with e := false }) ((h + 1) % 8)
        | false => (l, (h + 1) % 8, h)
theorem sub_all {l : Fs} {n : Nat} (hn : n = l.length) : List.take n (List.drop 0 (l.map encFrame)) = l.map encFrame := by
  rw [List.drop_zero, List.take_of_length_le (by simp; omega)]
theorem l10Of_ok' {l : Fs} {n : Nat} (hn : n = l.length) (hand house : Int) (hl : l.length < 1000) : Good Try.prog 43 [.agg [.p (.sl (List.take n (List.drop 0 (l.map encFrame)))), .p (.lit (.int .i64 hand))], vint house] [] (vint (cnt house l)) [] := by
  rw [sub_all hn]; exact l10Of_ok l hand house hl
theorem getD_at (l : Fs) {j i : Nat} (e : j = i) (h : i < l.length) : (l.map encFrame).getD j [] = encFrame (at' l i) := by rw [e]; exact getD_map encFrame l _ zFrame h
theorem rem8 {h : Nat} (hh : h < 8) : (IntKind.i64.wrap ((h : Int) + 1)).tmod 8 = ((h + 1) % 8 : Nat) := by
  rw [wrap_in _ (by omega) (by omega), Int.tmod_eq_emod_of_nonneg (by omega)]; omega
theorem set_enc (l : Fs) (h : Nat) (x : RFrame) : (l.map encFrame).set h (encFrame x) = (l.set h x).map encFrame := by rw [List.map_set]
def vM : FuncId → Bool := fun f => [77].contains f
set_option maxHeartbeats 4000000 in
set_option maxRecDepth 100000 in
theorem victim_ok (l : Fs) (h : Nat) (house : Int) (hl : l.length = 8) (hh : h < 8) :
    Good Try.prog 77 [.agg [.hs 0 0 8, .p (.lit (.int .i64 h))], vint house] [.arr 5 (l.map encFrame)]
      (.tup [.agg [.hs 0 0 8, .p (.lit (.int .i64 (victim (decide (cnt house l ≥ 5)) house 17 l h).2.1))], vint (victim (decide (cnt house l ≥ 5)) house 17 l h).2.2]) [.arr 5 ((victim (decide (cnt house l ≥ 5)) house 17 l h).1.map encFrame)] := by
  refine good_e noM Try.func77 rfl rfl ?_
  conv => whnf
  refine ⟨by simp; omega, ?_⟩
  conv => whnf
  refine .mk _ _ false Try.call43 (l10Of_ok' hl.symm _ _ (by omega)) (Nat.le_of_ble_eq_true rfl) (.inr ⟨AV.nsB_iff rfl, fun k hk => by cases hk⟩) ?_
  conv => whnf
  have hown : (decide ((cnt house l : Int) ≥ 5)) = decide (cnt house l ≥ 5) := decide_eq_decide.2 (by omega)
  refine VLoop.enter [1, 2, 4, 6, 7] ?_
  conv => whnf
  generalize hO : decide (cnt house l ≥ 5) = O
  refine VLoop.ind3 (n0 := 3) (α := Int) (β := List (List PV)) (γ := Int) noM [1, 2, 4, 6, 7] (fun a E k => ⟨57, 1, [(1, vint house), (2, .one (.hp 1 0 0)), (4, .one (.hp 2 0 0)), (6, vbool (decide ((cnt house l : Int) ≥ 5))), (7, vint a)],
      [(0, some (.arr 5 E)), (1, some (.box [.hs 0 0 8, .p (.lit (.int .i64 k))])), (2, some (.box [.p (.lit (.slice none 0 0)), .p (.lit (.int .i64 0))]))]⟩)
    (fun a E k => ∃ (i : Nat) (L : Fs) (hk : Nat), a = i ∧ i ≤ 17 ∧ k = hk ∧ hk < 8 ∧ L.length = 8 ∧ E = L.map encFrame ∧ victim O house (17 - i) L hk = victim O house 17 l h) (fun a _ _ => (17 - a).toNat) ?_ 0 _ _ ⟨0, l, h, rfl, by omega, rfl, hh, hl, rfl, rfl⟩
  rintro _ _ _ ⟨i, L, k, rfl, hi, rfl, hk, hL, rfl, hv⟩
  conv => whnf
  split
  · rename_i h1
    have h1' := of_decide_eq_true h1
    have w : ∀ x : Int, 0 ≤ x → x < 200000 → IntKind.i64.wrap x = x := fun x h1 h2 => wrap_in _ (by omega) (by omega)
    have hstep : 17 - i = (17 - (i + 1)) + 1 := by omega
    have fin : ∀ (L' : Fs) (E : List (List PV)), L'.length = 8 → E = L'.map encFrame → victim O house (17 - i) L k = victim O house (17 - (i + 1)) L' ((k + 1) % 8) →
        ∃ (j : Nat) (L : Fs) (hk : Nat), IntKind.i64.wrap ((i : Int) + 1) = j ∧ j ≤ 17 ∧ (IntKind.i64.wrap ((k : Int) + 1)).tmod 8 = hk ∧ hk < 8 ∧ L.length = 8 ∧ E = L.map encFrame ∧ victim O house (17 - j) L hk = victim O house 17 l h :=
      fun L' E g1 g2 g3 => ⟨i + 1, L', (k + 1) % 8, by rw [w _ (by omega) (by omega)]; simp, by omega, rem8 hk, by omega, g1, g2, by rw [← g3, hv]⟩
    have hm : (17 - IntKind.i64.wrap ((i : Int) + 1)).toNat < (17 - (i : Int)).toNat := by rw [w _ (by omega) (by omega)]; omega
    conv => whnf
    refine ⟨by omega, by omega, by simp; omega, ?_⟩
    conv => whnf
    have ek : 0 + (k : Int).toNat = k := by simp
    refine ⟨_, getD_at L ek (by omega), ?_⟩
    conv => whnf
    have hcond : ∀ c : Bool, (O && ((at' L k).b == 0 || (at' L k).a != house)) = c → victim O house (17 - i) L k = match c with
      | true => victim O house (17 - (i + 1)) L ((k + 1) % 8)
      | false => match decide ((at' L k).d > 0) with
        | true => victim O house (17 - (i + 1)) L ((k + 1) % 8)
        | false => match (at' L k).e with
          | true => victim O house (17 - (i + 1)) (L.set k { at' L k with e := false }) ((k + 1) % 8)
          | false => (L, (k + 1) % 8, k) := by
      intro c hc
      rw [hstep, victim, hc]
    split
    · rename_i h2
      have hO1 : O = true := by rw [← hO, ← hown]; exact h2
      conv => whnf
      split
      · rename_i h3
        conv => whnf
        have hc := hcond true (by rw [hO1]; have h3' : ((at' L k).b == 0) = true := h3; rw [h3']; rfl)
        exact ⟨_, _, _, rfl, rfl, fin L _ hL rfl hc, hm⟩
      rename_i h3
      conv => whnf
      split
      · rename_i h4
        conv => whnf
        have hc := hcond true (by rw [hO1]; have h4' : ((at' L k).a != house) = true := h4; rw [h4']; simp)
        exact ⟨_, _, _, rfl, rfl, fin L _ hL rfl hc, hm⟩
      rename_i h4
      have hc := hcond false (by rw [hO1]; have h3' : ((at' L k).b == 0) = false := h3; have h4' : ((at' L k).a != house) = false := h4; rw [h3', h4']; rfl)
      conv => whnf
      split
      · rename_i h5
        conv => whnf
        have h5' : decide ((at' L k).d > 0) = true := h5
        exact ⟨_, _, _, rfl, rfl, fin L _ hL rfl (by rw [hc, h5']), hm⟩
      rename_i h5
      have h5' : decide ((at' L k).d > 0) = false := h5
      conv => whnf
      split
      · rename_i h6
        have h6' : (at' L k).e = true := h6
        conv => whnf
        refine ⟨by omega, by omega, by simp; omega, ?_⟩
        conv => whnf
        refine ⟨_, getD_at L ek (by omega), by simp; omega, ?_⟩
        conv => whnf
        refine ⟨_, _, _, rfl, rfl, fin (L.set k { at' L k with e := false }) _ (by simpa using hL) ?_ (by rw [hc, h5', h6']), hm⟩
        rw [ek]
        exact set_enc L k { at' L k with e := false }
      rename_i h6
      have h6' : (at' L k).e = false := h6
      conv => whnf
      refine ⟨⟨⟨by decide +kernel, Nat.le_of_ble_eq_true rfl⟩, trivial⟩, ?_⟩
      conv => whnf
      rw [← hv, hc, h5', h6']
      rw [show (IntKind.i64.wrap ((k : Int) + 1)).tmod 8 = ((k + 1) % 8 : Nat) from rem8 hk]
      exact ⟨rfl, rfl⟩
    · rename_i h2
      have hO1 : O = false := by rw [← hO, ← hown]; exact h2
      have hc := hcond false (by rw [hO1]; rfl)
      conv => whnf
      split
      · rename_i h5
        conv => whnf
        have h5' : decide ((at' L k).d > 0) = true := h5
        exact ⟨_, _, _, rfl, rfl, fin L _ hL rfl (by rw [hc, h5']), hm⟩
      rename_i h5
      have h5' : decide ((at' L k).d > 0) = false := h5
      conv => whnf
      split
      · rename_i h6
        have h6' : (at' L k).e = true := h6
        conv => whnf
        refine ⟨by omega, by omega, by simp; omega, ?_⟩
        conv => whnf
        refine ⟨_, getD_at L ek (by omega), by simp; omega, ?_⟩
        conv => whnf
        refine ⟨_, _, _, rfl, rfl, fin (L.set k { at' L k with e := false }) _ (by simpa using hL) ?_ (by rw [hc, h5', h6']), hm⟩
        rw [ek]
        exact set_enc L k { at' L k with e := false }
      rename_i h6
      have h6' : (at' L k).e = false := h6
      conv => whnf
      refine ⟨⟨⟨by decide +kernel, Nat.le_of_ble_eq_true rfl⟩, trivial⟩, ?_⟩
      conv => whnf
      rw [← hv, hc, h5', h6']
      rw [show (IntKind.i64.wrap ((k : Int) + 1)).tmod 8 = ((k + 1) % 8 : Nat) from rem8 hk]
      exact ⟨rfl, rfl⟩
  · rename_i h1
    have h1' := of_decide_eq_false h1
    obtain rfl : i = 17 := by omega
    conv => whnf
    refine ⟨⟨⟨by decide +kernel, Nat.le_of_ble_eq_true rfl⟩, trivial⟩, ?_⟩
    conv => whnf
    rw [← hv]
    exact ⟨rfl, rfl⟩
end Go.Abs.B
