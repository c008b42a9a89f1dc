import Derived.Test.YtlfnjkcgefcidaaGPool7
set_option linter.unusedSimpArgs false
set_option linter.unusedVariables false
namespace Go.Abs.B
open Go Go.Abs Go.Proofs
attribute [local irreducible] IntKind.wrap
theorem PoolOkP.cnt5 {l : Fs} {h ho : Int} (p : PoolOkP l h) (hr : inR ho 0 1 = true) : cnt ho l ≤ 5 := by
  unfold inR at hr
  simp only [Bool.and_eq_true, decide_eq_true_eq] at hr
  rcases (show ho = 0 ∨ ho = 1 by omega) with rfl | rfl
  · exact p.c0
  · exact p.c1
theorem remA {h i : Nat} (hh : h < 8) (hi : i ≤ 17) : (IntKind.i64.wrap ((h : Int) + i)).tmod 8 = ((h + i) % 8 : Nat) := by
  rw [wrap_in _ (by omega) (by omega), Int.tmod_eq_emod_of_nonneg (by omega)]; omega
set_option maxHeartbeats 16000000 in
set_option maxRecDepth 100000 in
theorem take_ok (l : Fs) (h : Nat) (ho e b : Int) (hp : PoolOkP l h) : Good Try.prog 59 [pool l h, vint ho, vint e, vint b] [] (tookR (takeP l h ho e b)) (tookB (takeP l h ho e b)) := by
  have hlen := hp.len
  have hh := hp.hand8
  have hl := hp.room
  refine good_e noM Try.func59 rfl rfl ?_
  conv => whnf
  refine .mk _ _ false Try.call53 (clone8 hlen _) (Nat.le_of_ble_eq_true rfl) (.inl rfl) ?_
  conv => whnf
  refine .mk _ _ false Try.call46 (house_ok _) (Nat.le_of_ble_eq_true rfl) (.inl rfl) ?_
  conv => whnf
  have bad : (inR ho 0 1 && inR e 1 99999 && inR b 0 23) = false → takeP l h ho e b = (l, h, 0, 3) := fun q => by unfold takeP; rw [q]
  have good : (inR ho 0 1 && inR e 1 99999 && inR b 0 23) = true → takeP l h ho e b = takeS l h ho e b := fun q => by unfold takeP; rw [q]
  generalize takeP l h ho e b = T at bad good ⊢
  split
  · rename_i h1
    have h1' : (!inR ho 0 1) = true := h1
    conv => whnf
    refine ⟨⟨⟨by decide +kernel, Nat.le_of_ble_eq_true rfl⟩, trivial⟩, ?_⟩
    conv => whnf
    rw [bad (by rw [Bool.not_eq_true'] at h1'; rw [h1']; rfl)]
    exact ⟨rfl, rfl⟩
  rename_i h1
  have h1' : (!inR ho 0 1) = false := h1
  rw [Bool.not_eq_false'] at h1'
  conv => whnf
  refine .mk _ _ false Try.call45 (within_ok _ _ _) (Nat.le_of_ble_eq_true rfl) (.inl rfl) ?_
  conv => whnf
  split
  · rename_i h2
    have h2' : (!inR e 1 99999) = true := h2
    conv => whnf
    refine ⟨⟨⟨by decide +kernel, Nat.le_of_ble_eq_true rfl⟩, trivial⟩, ?_⟩
    conv => whnf
    rw [bad (by rw [Bool.not_eq_true'] at h2'; rw [h1', h2']; rfl)]
    exact ⟨rfl, rfl⟩
  rename_i h2
  have h2' : (!inR e 1 99999) = false := h2
  rw [Bool.not_eq_false'] at h2'
  conv => whnf
  refine .mk _ _ false Try.call45 (within_ok _ _ _) (Nat.le_of_ble_eq_true rfl) (.inl rfl) ?_
  conv => whnf
  split
  · rename_i h3
    have h3' : (!inR b 0 23) = true := h3
    conv => whnf
    refine ⟨⟨⟨by decide +kernel, Nat.le_of_ble_eq_true rfl⟩, trivial⟩, ?_⟩
    conv => whnf
    rw [bad (by rw [Bool.not_eq_true'] at h3'; rw [h1', h2', h3']; rfl)]
    exact ⟨rfl, rfl⟩
  rename_i h3
  have h3' : (!inR b 0 23) = false := h3
  rw [Bool.not_eq_false'] at h3'
  have hT := (good (by rw [h1', h2', h3']; rfl)).symm
  clear bad good
  unfold takeS at hT
  conv => whnf
  refine .mk _ _ false Try.call47 (find_ok l h e b (by omega)) (Nat.le_of_ble_eq_true rfl) (.inl rfl) ?_
  conv => whnf
  have hlt := find_lt (e := e) (b := b) (l := l)
  generalize hF : find e b l = F at hT hlt ⊢
  split
  · rename_i g1
    have g1' := of_decide_eq_true g1
    have ek : 0 + F.toNat = F.toNat := by omega
    have hd := hl.held F.toNat (by omega)
    rw [g1] at hT
    simp only at hT
    conv => whnf
    refine ⟨by omega, by omega, by rw [List.length_map]; omega, ?_⟩
    conv => whnf
    refine ⟨_, getD_at l ek (by omega), ?_⟩
    conv => whnf
    split
    · rename_i g2
      have g2' : ((at' l F.toNat).a != ho) = true := g2
      rw [g2', Bool.or_true] at hT
      conv => whnf
      refine ⟨⟨⟨by decide +kernel, Nat.le_of_ble_eq_true rfl⟩, trivial⟩, ?_⟩
      conv => whnf
      rw [← hT]
      exact ⟨rfl, rfl⟩
    rename_i g2
    have g2' : ((at' l F.toNat).a != ho) = false := g2
    rw [g2', Bool.or_false] at hT
    conv => whnf
    refine ⟨_, getD_at l ek (by omega), ?_⟩
    conv => whnf
    split
    · rename_i g3
      have g3' : ((at' l F.toNat).d == 99999) = true := g3
      rw [decide_eq_true (by have := eq_of_beq g3'; omega)] at hT
      conv => whnf
      refine ⟨⟨⟨by decide +kernel, Nat.le_of_ble_eq_true rfl⟩, trivial⟩, ?_⟩
      conv => whnf
      rw [← hT]
      exact ⟨rfl, rfl⟩
    rename_i g3
    have g3' : ((at' l F.toNat).d == 99999) = false := g3
    rw [decide_eq_false (by have := ne_of_beq_false g3'; omega)] at hT
    conv => whnf
    refine ⟨_, getD_at l ek (by omega), ?_⟩
    conv => whnf
    refine ⟨_, getD_at l ek (by omega), by rw [List.length_map]; omega, ?_⟩
    conv => whnf
    refine ⟨_, getD_set_self _ _ _ _ (by rw [List.length_map]; omega), by rw [List.length_set, List.length_map]; omega, ?_⟩
    conv => whnf
    refine ⟨⟨⟨by decide +kernel, Nat.le_of_ble_eq_true rfl⟩, trivial⟩, ?_⟩
    conv => whnf
    rw [← hT]
    refine ⟨rfl, ?_⟩
    show [Blk.arr 5 (((l.map encFrame).set _ _).set _ _)] = [Blk.arr 5 ((l.set F.toNat (held (at' l F.toNat))).map encFrame)]
    rw [List.set_set, ek, ← set_enc]
    congr 3
    show ([.lit (.int .i64 _), .lit (.int .i64 _), .lit (.int .i64 _), .lit (.int .i64 (IntKind.i64.wrap ((at' l F.toNat).d + 1))), .lit (.bool _)] : List PV) = _
    have := ne_of_beq_false g3'
    rw [wrap_in _ (by omega) (by omega)]
    rfl
  · rename_i g1
    rw [g1] at hT
    simp only at hT
    conv => whnf
    refine .mk _ _ false Try.call48 (of_ok l h ho (by omega)) (Nat.le_of_ble_eq_true rfl) (.inl rfl) ?_
    conv => whnf
    have hc5 := hp.cnt5 h1'
    have hown : ((cnt ho l : Int) == 5) = decide (cnt ho l ≥ 5) := by
      by_cases q : cnt ho l ≥ 5
      · rw [decide_eq_true q, beq_iff_eq]; omega
      · rw [decide_eq_false q, beq_eq_false_iff_ne]; omega
    generalize hO : decide (cnt ho l ≥ 5) = O at hown hT
    refine VLoop.enter [1, 2, 3, 4, 8, 11, 14, 74] ?_
    conv => whnf
    refine VLoop.ind2 (n0 := 4) (α := Int) (β := List (List PV)) noM [1, 2, 3, 4, 8, 11, 14, 74] (fun a E => ⟨132, 0, [(1, vint ho), (2, vint e), (3, vint b), (4, .one (.hp 0 0 0)), (8, .one (.hp 1 0 0)), (11, .one (.hp 2 0 0)), (14, vbool ((cnt ho l : Int) == 5)), (74, vint a)],
        [(0, some (.box [.p (.sl (l.map encFrame)), .p (.lit (.int .i64 h))])), (1, some (.box [.p (.lit (.slice none 0 0)), .p (.lit (.int .i64 0))])), (2, some (.box [.hs 3 0 8, .p (.lit (.int .i64 h))])), (3, some (.arr 5 E))]⟩)
      (fun a E => ∃ (i : Nat) (L : Fs), a = i ∧ i ≤ 17 ∧ L.length = 8 ∧ E = L.map encFrame ∧ victim O ho (17 - i) L ((h + i) % 8) = victim O ho 17 l h) (fun a _ => (17 - a).toNat) ?_ 0 _ ⟨0, l, rfl, by omega, hlen, rfl, by rw [Nat.add_zero, Nat.mod_eq_of_lt hh]⟩
    rintro _ _ ⟨i, L, rfl, hi, hL, rfl, hv⟩
    conv => whnf
    split
    · rename_i k1
      have k1' := of_decide_eq_true k1
      have hstep : 17 - i = (17 - (i + 1)) + 1 := by omega
      have w : ∀ x : Int, 0 ≤ x → x < 200000 → IntKind.i64.wrap x = x := fun x h1 h2 => wrap_in _ (by omega) (by omega)
      have hmod : (h + (i + 1)) % 8 = ((h + i) % 8 + 1) % 8 := by omega
      have fin : ∀ (L' : Fs) (E : List (List PV)), L'.length = 8 → E = L'.map encFrame → victim O ho (17 - i) L ((h + i) % 8) = victim O ho (17 - (i + 1)) L' (((h + i) % 8 + 1) % 8) →
          ∃ (j : Nat) (L : Fs), IntKind.i64.wrap ((i : Int) + 1) = j ∧ j ≤ 17 ∧ L.length = 8 ∧ E = L.map encFrame ∧ victim O ho (17 - j) L ((h + j) % 8) = victim O ho 17 l h :=
        fun L' E q1 q2 q3 => ⟨i + 1, L', by rw [w _ (by omega) (by omega)]; simp, by omega, q1, q2, by rw [hmod, ← q3, hv]⟩
      have hm : (17 - IntKind.i64.wrap ((i : Int) + 1)).toNat < (17 - (i : Int)).toNat := by rw [w _ (by omega) (by omega)]; omega
      have hat := remA hh (show i ≤ 17 by omega)
      have hk8 : (h + i) % 8 < 8 := by omega
      generalize hk : (h + i) % 8 = k at hat hk8 fin hmod hv
      conv => whnf
      rw [hat]
      refine ⟨by omega, by omega, by rw [List.length_map]; omega, ?_⟩
      conv => whnf
      have ek : 0 + (k : Int).toNat = k := by simp
      have hcond : ∀ c : Bool, (O && ((at' L k).b == 0 || (at' L k).a != ho)) = c → victim O ho (17 - i) L k = match c with
        | true => victim O ho (17 - (i + 1)) L ((k + 1) % 8)
        | false => match decide ((at' L k).d > 0) with
          | true => victim O ho (17 - (i + 1)) L ((k + 1) % 8)
          | false => match (at' L k).e with
            | true => victim O ho (17 - (i + 1)) (L.set k { at' L k with e := false }) ((k + 1) % 8)
            | false => (L, (k + 1) % 8, k) := by
        intro c hc
        rw [hstep, victim, hc]; rfl
      split
      · rename_i j2
        have hO1 : O = true := by rw [← hown]; exact j2
        conv => whnf
        refine ⟨_, getD_at L ek (by omega), ?_⟩
        conv => whnf
        split
        · rename_i j3
          conv => whnf
          have hc := hcond true (by rw [hO1]; have j3' : ((at' L k).b == 0) = true := j3; rw [j3']; rfl)
          exact ⟨_, _, rfl, rfl, fin L _ hL rfl hc, hm⟩
        rename_i j3
        conv => whnf
        refine ⟨_, getD_at L ek (by omega), ?_⟩
        conv => whnf
        split
        · rename_i j4
          conv => whnf
          have hc := hcond true (by rw [hO1]; have j4' : ((at' L k).a != ho) = true := j4; rw [j4']; simp)
          exact ⟨_, _, rfl, rfl, fin L _ hL rfl hc, hm⟩
        rename_i j4
        have hc := hcond false (by rw [hO1]; have j3' : ((at' L k).b == 0) = false := j3; have j4' : ((at' L k).a != ho) = false := j4; rw [j3', j4']; rfl)
        conv => whnf
        refine ⟨_, getD_at L ek (by omega), ?_⟩
        conv => whnf
        split
        · rename_i h5
          conv => whnf
          have h5' : decide ((at' L k).d > 0) = true := h5
          exact ⟨_, _, rfl, rfl, fin L _ hL rfl (by rw [hc, h5']), hm⟩
        rename_i h5
        have h5' : decide ((at' L k).d > 0) = false := h5
        conv => whnf
        refine ⟨_, getD_at L ek (by omega), ?_⟩
        conv => whnf
        split
        · rename_i h6
          have h6' : (at' L k).e = true := h6
          conv => whnf
          refine ⟨_, getD_at L ek (by omega), by rw [List.length_map]; omega, ?_⟩
          conv => whnf
          refine ⟨_, _, rfl, rfl, fin (L.set k { at' L k with e := false }) _ (by simpa using hL) ?_ (by rw [hc, h5', h6']), hm⟩
          rw [ek]
          exact set_enc L k { at' L k with e := false }
        rename_i h6
        have h6' : (at' L k).e = false := h6
        have hvv : victim O ho 17 l h = (L, (k + 1) % 8, (k : Int)) := by rw [← hv, hc, h5', h6']
        rw [hvv] at hT
        simp only at hT
        rw [decide_eq_false (by omega)] at hT
        conv => whnf
        refine ⟨_, getD_at L ek (by omega), by rw [List.length_map]; omega, ?_⟩
        conv => whnf
        refine ⟨⟨⟨by decide +kernel, Nat.le_of_ble_eq_true rfl⟩, trivial⟩, ?_⟩
        conv => whnf
        rw [← hT]
        rw [show (IntKind.i64.wrap ((k : Int) + 1)).tmod 8 = ((k + 1) % 8 : Nat) from rem8 hk8]
        refine ⟨rfl, ?_⟩
        show [Blk.arr 5 ((L.map encFrame).set (0 + (k : Int).toNat) (encFrame ⟨ho, e, b, 1, true⟩))] = [Blk.arr 5 ((L.set (k : Int).toNat ⟨ho, e, b, 1, true⟩).map encFrame)]
        rw [Nat.zero_add, set_enc]
      · rename_i j2
        have hO1 : O = false := by rw [← hown]; exact j2
        have hc := hcond false (by rw [hO1]; rfl)
        conv => whnf
        refine ⟨_, getD_at L ek (by omega), ?_⟩
        conv => whnf
        split
        · rename_i h5
          conv => whnf
          have h5' : decide ((at' L k).d > 0) = true := h5
          exact ⟨_, _, rfl, rfl, fin L _ hL rfl (by rw [hc, h5']), hm⟩
        rename_i h5
        have h5' : decide ((at' L k).d > 0) = false := h5
        conv => whnf
        refine ⟨_, getD_at L ek (by omega), ?_⟩
        conv => whnf
        split
        · rename_i h6
          have h6' : (at' L k).e = true := h6
          conv => whnf
          refine ⟨_, getD_at L ek (by omega), by rw [List.length_map]; omega, ?_⟩
          conv => whnf
          refine ⟨_, _, rfl, rfl, fin (L.set k { at' L k with e := false }) _ (by simpa using hL) ?_ (by rw [hc, h5', h6']), hm⟩
          rw [ek]
          exact set_enc L k { at' L k with e := false }
        rename_i h6
        have h6' : (at' L k).e = false := h6
        have hvv : victim O ho 17 l h = (L, (k + 1) % 8, (k : Int)) := by rw [← hv, hc, h5', h6']
        rw [hvv] at hT
        simp only at hT
        rw [decide_eq_false (by omega)] at hT
        conv => whnf
        refine ⟨_, getD_at L ek (by omega), by rw [List.length_map]; omega, ?_⟩
        conv => whnf
        refine ⟨⟨⟨by decide +kernel, Nat.le_of_ble_eq_true rfl⟩, trivial⟩, ?_⟩
        conv => whnf
        rw [← hT]
        rw [show (IntKind.i64.wrap ((k : Int) + 1)).tmod 8 = ((k + 1) % 8 : Nat) from rem8 hk8]
        refine ⟨rfl, ?_⟩
        show [Blk.arr 5 ((L.map encFrame).set (0 + (k : Int).toNat) (encFrame ⟨ho, e, b, 1, true⟩))] = [Blk.arr 5 ((L.set (k : Int).toNat ⟨ho, e, b, 1, true⟩).map encFrame)]
        rw [Nat.zero_add, set_enc]
    · rename_i k1
      have k1' := of_decide_eq_false k1
      obtain rfl : i = 17 := by omega
      have : (victim O ho 17 l h).2.2 = -1 := by rw [← hv]; rfl
      rw [this] at hT
      rw [decide_eq_true (by omega)] at hT
      conv => whnf
      refine .mk _ _ false Try.call53 (clone8 hlen _) (Nat.le_of_ble_eq_true rfl) (.inl rfl) ?_
      conv => whnf
      refine ⟨⟨⟨by decide +kernel, Nat.le_of_ble_eq_true rfl⟩, trivial⟩, ?_⟩
      conv => whnf
      rw [← hT]
      exact ⟨rfl, rfl⟩
end Go.Abs.B
