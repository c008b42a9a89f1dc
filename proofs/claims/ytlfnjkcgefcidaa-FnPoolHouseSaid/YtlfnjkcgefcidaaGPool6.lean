import Derived.Test.YtlfnjkcgefcidaaGPool5
set_option linter.unusedSimpArgs false
set_option linter.unusedVariables false
namespace Go.Abs.B
open Go Go.Abs Go.Proofs
attribute [local irreducible] IntKind.wrap
theorem find_lt {e b : Int} {l : Fs} : find e b l < l.length := by
  unfold find
  cases hq : l.findIdx? (hit e b) with
  | none => simp only; omega
  | some j =>
    rw [List.findIdx?_eq_some_iff_getElem] at hq
    obtain ⟨h1, _⟩ := hq
    simp only
    omega
def held (x : RFrame) : RFrame := { x with d := x.d + 1, e := true }
/-- What a pool that is ok does with what is ok. -/
def takeS (l : Fs) (h : Nat) (ho e b : Int) : Fs × Nat × Int × Int := match decide (find e b l ≥ 0) with
  | true => match decide ((at' l (find e b l).toNat).d ≥ 99999) || (at' l (find e b l).toNat).a != ho with
    | true => (l, h, 0, 3)
    | false => (l.set (find e b l).toNat (held (at' l (find e b l).toNat)), h, find e b l, 0)
  | false => match decide ((victim (decide (cnt ho l ≥ 5)) ho 17 l h).2.2 < 0) with
    | true => (l, h, 0, 2)
    | false => ((victim (decide (cnt ho l ≥ 5)) ho 17 l h).1.set (victim (decide (cnt ho l ≥ 5)) ho 17 l h).2.2.toNat ⟨ho, e, b, 1, true⟩, (victim (decide (cnt ho l ≥ 5)) ho 17 l h).2.1, (victim (decide (cnt ho l ≥ 5)) ho 17 l h).2.2, 1)
theorem victim_len {own : Bool} {ho : Int} : ∀ {n : Nat} {l : Fs} {h : Nat}, (victim own ho n l h).1.length = l.length
  | 0, l, h => rfl
  | n + 1, l, h => by
    unfold victim
    split
    · exact victim_len
    · split
      · exact victim_len
      · split
        · rw [victim_len]; simp
        · rfl
theorem victim_lt {own : Bool} {ho : Int} : ∀ {n : Nat} {l : Fs} {h : Nat}, h < 8 → (victim own ho n l h).2.2 < 8 ∧ (victim own ho n l h).2.1 < 8
  | 0, l, h, hh => ⟨by show (-1 : Int) < 8; omega, hh⟩
  | n + 1, l, h, hh => by
    unfold victim
    split
    · exact victim_lt (by omega)
    · split
      · exact victim_lt (by omega)
      · split
        · exact victim_lt (by omega)
        · exact ⟨by show (h : Int) < 8; omega, by show (h + 1) % 8 < 8; omega⟩
@[reducible] def own8 (h : Int) : AV := .agg [.hs 0 0 8, .p (.lit (.int .i64 h))]
@[reducible] def tookR (q : Fs × Nat × Int × Int) : AV := .tup [own8 q.2.1, vint q.2.2.1, vint q.2.2.2]
@[reducible] def tookB (q : Fs × Nat × Int × Int) : List Blk := [.arr 5 (q.1.map encFrame)]
theorem l10Copy8 {l : Fs} (hl : l.length = 8) (h : Int) : Good Try.prog 54 [pool l h] [] (own8 h) [.arr 5 (l.map encFrame)] := by
  have := l10Copy_ok l h (by omega); unfold own at this; rwa [hl] at this
theorem clone8 {l : Fs} (hl : l.length = 8) (h : Int) : Good Try.prog 53 [pool l h] [] (own8 h) [.arr 5 (l.map encFrame)] := by
  have := clone_ok l h (by omega); unfold own at this; rwa [hl] at this
theorem l10Find' {l : Fs} {n : Nat} (hn : n = l.length) (hand e b : Int) (hl : l.length < 1000) : Good Try.prog 76 [.agg [.p (.sl (List.take n (List.drop 0 (l.map encFrame)))), .p (.lit (.int .i64 hand))], vint e, vint b] [] (vint (find e b l)) [] := by
  rw [sub_all hn]; exact l10Find_ok l hand e b hl
structure Room (l : Fs) : Prop where
  len : l.length = 8
  held : ∀ k, k < 8 → 0 ≤ (at' l k).d ∧ (at' l k).d ≤ 99999
set_option maxHeartbeats 8000000 in
set_option maxRecDepth 100000 in
theorem l10Take_ok (l : Fs) (h : Nat) (ho e b : Int) (hl : Room l) (hh : h < 8) :
    Good Try.prog 60 [pool l h, vint ho, vint e, vint b] [] (tookR (takeS l h ho e b)) (tookB (takeS l h ho e b)) := by
  refine good_e vM Try.func60 rfl rfl ?_
  conv => whnf
  refine .mk _ _ false Try.call54 (l10Copy8 hl.len _) (Nat.le_of_ble_eq_true rfl) (.inl rfl) ?_
  conv => whnf
  refine ⟨by rw [List.length_map, hl.len]; exact Nat.le_refl _, ?_⟩
  conv => whnf
  refine .mk _ _ false Try.call76 (l10Find' hl.len.symm _ _ _ (by rw [hl.len]; omega)) (Nat.le_of_ble_eq_true rfl) (.inr ⟨AV.nsB_iff rfl, fun k hk => by cases hk⟩) ?_
  conv => whnf
  have hlt := find_lt (e := e) (b := b) (l := l)
  have hlen := hl.len
  generalize hT : takeS l h ho e b = T
  unfold takeS at hT
  generalize hF : find e b l = F at hT hlt ⊢
  split
  · rename_i h1
    have h1' := of_decide_eq_true h1
    have ek : 0 + F.toNat = F.toNat := by omega
    rw [h1] at hT
    simp only at hT
    conv => whnf
    refine ⟨by omega, by omega, by rw [List.length_map]; omega, ?_⟩
    conv => whnf
    refine ⟨_, getD_at l ek (by omega), ?_⟩
    conv => whnf
    split
    · rename_i h2
      have h2' : decide ((at' l F.toNat).d ≥ 99999) = true := h2
      rw [h2'] at hT
      conv => whnf
      refine .mk _ _ false Try.call54 (l10Copy8 hl.len _) (Nat.le_of_ble_eq_true rfl) (.inl rfl) ?_
      conv => whnf
      refine ⟨⟨⟨by decide +kernel, Nat.le_of_ble_eq_true rfl⟩, trivial⟩, ?_⟩
      conv => whnf
      rw [← hT]
      exact ⟨rfl, rfl⟩
    rename_i h2
    have h2' : decide ((at' l F.toNat).d ≥ 99999) = false := h2
    conv => whnf
    refine ⟨by omega, by omega, by rw [List.length_map]; omega, ?_⟩
    conv => whnf
    refine ⟨_, getD_at l ek (by omega), ?_⟩
    conv => whnf
    split
    · rename_i h3
      have h3' : ((at' l F.toNat).a != ho) = true := h3
      rw [h2', h3'] at hT
      conv => whnf
      refine .mk _ _ false Try.call54 (l10Copy8 hl.len _) (Nat.le_of_ble_eq_true rfl) (.inl rfl) ?_
      conv => whnf
      refine ⟨⟨⟨by decide +kernel, Nat.le_of_ble_eq_true rfl⟩, trivial⟩, ?_⟩
      conv => whnf
      rw [← hT]
      exact ⟨rfl, rfl⟩
    rename_i h3
    have h3' : ((at' l F.toNat).a != ho) = false := h3
    rw [h2', h3'] at hT
    conv => whnf
    refine VDraw.go ⟨256, [0, 1, 0, 0, 8, 0, 56, 120, 248, 504, 1023, 2047, 4095], [12], [(12, [40])]⟩ rfl rfl (by decide +kernel) ?_
    conv => whnf
    refine ⟨by omega, by omega, by rw [List.length_map]; omega, ?_⟩
    conv => whnf
    refine ⟨_, getD_at l ek (by omega), ?_⟩
    conv => whnf
    refine ⟨by omega, by omega, by rw [List.length_map]; omega, ?_⟩
    conv => whnf
    refine ⟨_, getD_at l ek (by omega), by rw [List.length_map]; omega, ?_⟩
    conv => whnf
    refine ⟨by omega, by omega, by rw [List.length_set, List.length_map]; omega, ?_⟩
    conv => whnf
    refine ⟨_, getD_set_self _ _ _ _ (by rw [List.length_map]; omega), by rw [List.length_set, List.length_map]; omega, ?_⟩
    conv => whnf
    refine ⟨⟨⟨by decide +kernel, Nat.le_of_ble_eq_true rfl⟩, trivial⟩, ?_⟩
    conv => whnf
    rw [← hT]
    refine ⟨rfl, ?_⟩
    have hd := hl.held F.toNat (by omega)
    show [Blk.arr 5 (((l.map encFrame).set _ _).set _ _)] = [Blk.arr 5 ((l.set F.toNat (held (at' l F.toNat))).map encFrame)]
    rw [List.set_set, ek, ← set_enc]
    congr 3
    show ([.lit (.int .i64 _), .lit (.int .i64 _), .lit (.int .i64 _), .lit (.int .i64 (IntKind.i64.wrap ((at' l F.toNat).d + 1))), .lit (.bool _)] : List PV) = _
    rw [wrap_in _ (by omega) (by omega)]
    rfl
  · rename_i h1
    rw [h1] at hT
    simp only at hT
    conv => whnf
    refine .mk _ _ false Try.call77 (victim_ok l h ho hlen hh) (Nat.le_of_ble_eq_true rfl) (.inl rfl) ?_
    conv => whnf
    have hvl := victim_len (own := decide (cnt ho l ≥ 5)) (ho := ho) (n := 17) (l := l) (h := h)
    have hvh := victim_lt (own := decide (cnt ho l ≥ 5)) (ho := ho) (n := 17) (l := l) (h := h) hh
    generalize hV : victim (decide (cnt ho l ≥ 5)) ho 17 l h = V at hT hvl hvh ⊢
    obtain ⟨L, k, v⟩ := V
    simp only at hvl hvh hT
    split
    · rename_i h2
      have h2' : decide (v < 0) = true := h2
      rw [h2'] at hT
      conv => whnf
      refine .mk _ _ false Try.call54 (l10Copy8 hl.len _) (Nat.le_of_ble_eq_true rfl) (.inl rfl) ?_
      conv => whnf
      refine ⟨⟨⟨by decide +kernel, Nat.le_of_ble_eq_true rfl⟩, trivial⟩, ?_⟩
      conv => whnf
      rw [← hT]
      exact ⟨rfl, rfl⟩
    rename_i h2
    have h2' : decide (v < 0) = false := h2
    have h2'' := of_decide_eq_false h2'
    rw [h2'] at hT
    conv => whnf
    have ek : 0 + v.toNat = v.toNat := by omega
    refine ⟨by show (0 : Int) ≤ v; omega, by show v < 8; omega, by show 0 + 8 ≤ (L.map encFrame).length; rw [List.length_map]; omega, ?_⟩
    conv => whnf
    refine ⟨_, getD_at L ek (by omega), by show 0 + v.toNat < (L.map encFrame).length; rw [List.length_map]; omega, ?_⟩
    conv => whnf
    refine ⟨⟨⟨by decide +kernel, Nat.le_of_ble_eq_true rfl⟩, trivial⟩, ?_⟩
    conv => whnf
    rw [← hT]
    refine ⟨rfl, ?_⟩
    show [Blk.arr 5 ((L.map encFrame).set (0 + v.toNat) (encFrame ⟨ho, e, b, 1, true⟩))] = [Blk.arr 5 ((L.set v.toNat ⟨ho, e, b, 1, true⟩).map encFrame)]
    rw [ek, set_enc]
end Go.Abs.B
