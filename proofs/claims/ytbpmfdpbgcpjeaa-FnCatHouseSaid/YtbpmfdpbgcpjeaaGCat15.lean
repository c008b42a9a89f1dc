import Derived.Test.YtbpmfdpbgcpjeaaGCat14
set_option linter.unusedSimpArgs false
set_option linter.unusedVariables false
namespace Go.Abs.C
open Go Go.Abs Go.Proofs
attribute [local irreducible] IntKind.wrap

/-- What is told of a drawn catalogue: it is short, and its texts are. -/
structure Small (l : Is) : Prop where
  len : l.length ≤ 9
  nm : ∀ x ∈ l, x.b.size ≤ 1000
  tx : ∀ x ∈ l, x.d.size ≤ 200000
theorem CatP.sml {l : Is} {last : Int} (p : CatP l last) : Small l := ⟨Nat.le_trans p.len (by decide), fun x hx => Nat.le_trans (p.names x hx) (by decide), fun x hx => Nat.le_trans (p.small x hx) (by decide)⟩
theorem Small.set {l : Is} (h : Small l) {i : Nat} {x : RItem} (h1 : x.b.size ≤ 1000) (h2 : x.d.size ≤ 200000) : Small (l.set i x) := by
  refine ⟨by rw [List.length_set]; exact h.len, fun y hy => ?_, fun y hy => ?_⟩
  · rcases List.mem_or_eq_of_mem_set hy with hy | rfl
    · exact h.nm y hy
    · exact h1
  · rcases List.mem_or_eq_of_mem_set hy with hy | rfl
    · exact h.tx y hy
    · exact h2
theorem Small.at_ {l : Is} (h : Small l) {i : Nat} (hi : i < l.length) : (ia l i).b.size ≤ 1000 ∧ (ia l i).d.size ≤ 200000 := by
  rw [ia_lt hi]; exact ⟨h.nm _ (List.getElem_mem hi), h.tx _ (List.getElem_mem hi)⟩
theorem set_enc (l : Is) (h : Nat) (x : RItem) : (l.map encItem).set h (encItem x) = (l.set h x).map encItem := by rw [List.map_set]
@[reducible] def encI (n : Int) : List PV := [.lit (.int .i64 n)]
theorem getD_int (L : List Int) {j i : Nat} (e : j = i) (h : i < L.length) : (L.map encI).getD j [] = encI (L.getD i 0) := by rw [e]; exact getD_map encI L i 0 h
def AnyR (bs : List Int) (b : Int) (r : AV) (out : List Blk) : Prop :=
  (∃ q, 0 ≤ q ∧ q ≤ b ∧ r = noCat ∧ out = [rdB bs q]) ∨ (∃ (l : Is) (last q : Int) (n : Nat), Small l ∧ n = l.length ∧ 0 ≤ q ∧ q ≤ b ∧ r = .agg [.p (.lit (.int .i64 last)), .hs 1 0 n] ∧ out = [rdB bs q, .arr 4 (l.map encItem)])
set_option maxHeartbeats 16000000 in
set_option maxRecDepth 100000 in
theorem l15AnyCat_ok (bs : List Int) (p0 : Int) (hb : Bytes bs) (h0 : 0 ≤ p0) (h1 : p0 < 1000) :
    ∃ r out, AnyR bs (p0 + 5000) r out ∧ Good Try.prog 51 [.one (.hp 0 0 0)] [rdB bs p0] r out := by
  refine good_v noM Try.func51 rfl rfl ?_
  conv => whnf
  obtain ⟨_, _, h, hg⟩ := l15Cat_ok bs p0 hb h0 h1
  rcases h with ⟨q, hq0, hq1, rfl, rfl⟩ | ⟨l, last, q, p, hq0, hq1, rfl, rfl⟩
  · refine .mk _ _ false Try.call73 hg (Nat.le_of_ble_eq_true rfl) (.inl rfl) ?_
    conv => whnf
    refine ⟨⟨⟨by decide +kernel, Nat.le_of_ble_eq_true rfl⟩, trivial⟩, ?_⟩
    conv => whnf
    exact .inl ⟨q, hq0, by omega, rfl, rfl⟩
  · refine .mk _ _ false Try.call73 hg (Nat.le_of_ble_eq_true rfl) (.inl rfl) ?_
    have hl8 := p.len
    have sm := p.sml
    have hm : (l.map encItem).length = l.length := by rw [List.length_map]
    have fin : ∀ (l' : Is) (E : List (List PV)) (k q' : Int) (n : Nat), Small l' → n = l'.length → 0 ≤ q' → q' ≤ p0 + 5000 → E = l'.map encItem → AnyR bs (p0 + 5000) (.agg [.p (.lit (.int .i64 k)), .hs 1 0 n]) [rdB bs q', .arr 4 E] :=
      fun l' E k q' n g1 g2 g3 g4 g5 => .inr ⟨l', k, q', n, g1, g2, g3, g4, rfl, by rw [g5]⟩
    conv => whnf
    split
    · conv => whnf
      refine ⟨⟨⟨by decide +kernel, Nat.le_of_ble_eq_true rfl⟩, trivial⟩, ?_⟩
      conv => whnf
      exact fin l _ last q _ sm rfl hq0 (by omega) rfl
    rename_i z
    simp only [beq_eq_false_iff_ne] at z
    conv => whnf
    obtain ⟨_, _, ⟨v1, hv10, hv11, rfl, rfl⟩, hg1⟩ := pick_ok bs q 12 hb.rng hb.len hq0 (by omega) (by omega) (by omega)
    refine .mk _ _ false Try.call52 hg1 (Nat.le_of_ble_eq_true rfl) (.inl rfl) ?_
    conv => whnf
    split
    · conv => whnf
      refine ⟨⟨⟨by decide +kernel, Nat.le_of_ble_eq_true rfl⟩, trivial⟩, ?_⟩
      conv => whnf
      exact fin l _ last (q + 1) _ sm rfl (by omega) (by omega) rfl
    conv => whnf
    refine ⟨(show 0 + l.length ≤ (l.map encItem).length by omega), ?_⟩
    conv => whnf
    refine .mk _ _ false Try.call53 (by have := l9Copy_ok l last (by omega); rw [← sub_cat (l := l) (n := l.length) rfl] at this; exact this) (Nat.le_of_ble_eq_true rfl) (.inr ⟨AV.nsB_iff rfl, arr_noSl _⟩) ?_
    conv => whnf
    obtain ⟨_, _, ⟨k, hk0, hk1, rfl, rfl⟩, hg2⟩ := pick_ok bs (q + 1) l.length hb.rng hb.len (by omega) (by omega) (by omega) (by omega)
    refine .mk _ _ false Try.call52 hg2 (Nat.le_of_ble_eq_true rfl) (.inl rfl) ?_
    conv => whnf
    obtain ⟨_, _, ⟨v3, hv30, hv31, rfl, rfl⟩, hg3⟩ := pick_ok bs (q + 1 + 1) 6 hb.rng hb.len (by omega) (by omega) (by omega) (by omega)
    refine .mk _ _ false Try.call52 hg3 (Nat.le_of_ble_eq_true rfl) (.inl rfl) ?_
    conv => whnf
    have ek : 0 + k.toNat = k.toNat := by omega
    have e0 : 0 + (0 : Int).toNat = 0 := rfl
    have hkl : k.toNat < l.length := by omega
    have hat := sm.at_ hkl
    split
    · conv => whnf
      refine ⟨by omega, by omega, by omega, ?_⟩
      conv => whnf
      refine ⟨_, ia_at l ek hkl, by omega, ?_⟩
      conv => whnf
      refine ⟨⟨⟨by decide +kernel, Nat.le_of_ble_eq_true rfl⟩, trivial⟩, ?_⟩
      conv => whnf
      exact fin (l.set k.toNat { ia l k.toNat with a := 2 }) _ last _ _ (sm.set hat.1 hat.2) (by rw [List.length_set]) (by omega) (by omega) (by rw [← set_enc]; rw [ek]; rfl)
    conv => whnf
    split
    · conv => whnf
      refine VDraw.go ⟨241, [0, 1, 0, 0, 0, 24, 63, 127, 255], [4, 5, 8], [(5, [0, 273]), (8, [121])]⟩ rfl rfl (by decide +kernel) ?_
      conv => whnf
      refine ⟨Nat.le_refl 2, ?_⟩
      conv => whnf
      obtain ⟨_, _, ⟨s, hs, rfl, rfl⟩, hg4⟩ := of_ok bs (q + 1 + 1 + 1) [ByteArray.empty, ⟨#[122, 122]⟩] hb (by omega) (by omega) (by decide) (by decide)
      have hs2 : s.size ≤ 1000 := by
        simp only [List.mem_cons, List.not_mem_nil, or_false] at hs
        rcases hs with rfl | rfl <;> decide
      refine .mk _ _ true Try.call58 hg4 (Nat.le_of_ble_eq_true rfl) (fun b hb => by cases List.mem_singleton.1 hb; exact Nat.le_of_ble_eq_true rfl) ?_
      conv => whnf
      refine ⟨by omega, by omega, by omega, ?_⟩
      conv => whnf
      refine ⟨_, ia_at l ek hkl, by omega, ?_⟩
      conv => whnf
      refine ⟨⟨⟨by decide +kernel, Nat.le_of_ble_eq_true rfl⟩, trivial⟩, ?_⟩
      conv => whnf
      exact fin (l.set k.toNat { ia l k.toNat with b := s }) _ last _ _ (sm.set hs2 hat.2) (by rw [List.length_set]) (by omega) (by omega) (by rw [← set_enc]; rw [ek]; rfl)
    conv => whnf
    split
    · conv => whnf
      refine VDraw.go ⟨257, [0, 1, 0, 0, 8, 24, 0, 64, 192, 448, 960, 2040, 0, 4096, 16376, 32760, 65535, 131071, 262143], [11, 13, 18], [(13, [0]), (18, [121])]⟩ rfl rfl (by decide +kernel) ?_
      conv => whnf
      refine ⟨by omega, by omega, by omega, ?_⟩
      conv => whnf
      refine ⟨_, ia_at l e0 (by omega), ?_⟩
      conv => whnf
      obtain ⟨_, _, ⟨v5, hv50, hv51, rfl, rfl⟩, hg5⟩ := pick_ok bs (q + 1 + 1 + 1) 3 hb.rng hb.len (by omega) (by omega) (by omega) (by omega)
      refine .mk _ _ false Try.call52 hg5 (Nat.le_of_ble_eq_true rfl) (.inl rfl) ?_
      conv => whnf
      have ei : 0 + v5.toNat = v5.toNat := by omega
      refine ⟨by omega, by omega, Nat.le_refl 3, ?_⟩
      conv => whnf
      refine ⟨_, getD_int [0, IntKind.i64.wrap (last + 1), (ia l 0).c] ei (by simp; omega), ?_⟩
      conv => whnf
      refine ⟨by omega, by omega, by omega, ?_⟩
      conv => whnf
      refine ⟨_, ia_at l ek hkl, by omega, ?_⟩
      conv => whnf
      refine ⟨⟨⟨by decide +kernel, Nat.le_of_ble_eq_true rfl⟩, trivial⟩, ?_⟩
      conv => whnf
      exact fin (l.set k.toNat { ia l k.toNat with c := [0, IntKind.i64.wrap (last + 1), (ia l 0).c].getD v5.toNat 0 }) _ last _ _ (sm.set hat.1 hat.2) (by rw [List.length_set]) (by omega) (by omega) (by rw [← set_enc]; rw [ek]; rfl)
    conv => whnf
    split
    · conv => whnf
      refine VDraw.go ⟨273, [0, 1, 0, 0, 0, 16, 56, 120, 248, 511, 1023, 2047], [3, 5, 8, 11], [(5, [0]), (11, [121])]⟩ rfl rfl (by decide +kernel) ?_
      conv => whnf
      obtain ⟨_, _, ⟨v5, hv50, hv51, rfl, rfl⟩, hg5⟩ := pick_ok bs (q + 1 + 1 + 1) 3 hb.rng hb.len (by omega) (by omega) (by omega) (by omega)
      refine .mk _ _ false Try.call52 hg5 (Nat.le_of_ble_eq_true rfl) (.inl rfl) ?_
      conv => whnf
      have ei : 0 + v5.toNat = v5.toNat := by omega
      refine ⟨by omega, by omega, Nat.le_refl 3, ?_⟩
      conv => whnf
      refine ⟨_, getD_int [0, 301, 300] ei (by simp; omega), ?_⟩
      conv => whnf
      have hle : ([0, 301, 300] : List Int).getD v5.toNat 0 ≤ 1000 := by
        have : v5.toNat = 0 ∨ v5.toNat = 1 ∨ v5.toNat = 2 := by omega
        rcases this with h | h | h <;> rw [h] <;> decide
      obtain ⟨_, _, ⟨t, rfl, ht, rfl⟩, hg6⟩ := l1Many_ok ⟨#[116]⟩ (([0, 301, 300] : List Int).getD v5.toNat 0) hle (by decide)
      refine .mk _ _ false Try.call59 hg6 (Nat.le_of_ble_eq_true rfl) (.inl rfl) ?_
      conv => whnf
      refine ⟨by omega, by omega, by omega, ?_⟩
      conv => whnf
      refine ⟨_, ia_at l ek hkl, by omega, ?_⟩
      conv => whnf
      refine ⟨⟨⟨by decide +kernel, Nat.le_of_ble_eq_true rfl⟩, trivial⟩, ?_⟩
      conv => whnf
      exact fin (l.set k.toNat { ia l k.toNat with d := t }) _ last _ _ (sm.set hat.1 (Nat.le_trans ht (by decide))) (by rw [List.length_set]) (by omega) (by omega) (by rw [← set_enc]; rw [ek]; rfl)
    conv => whnf
    split
    · conv => whnf
      refine ⟨⟨⟨by decide +kernel, Nat.le_of_ble_eq_true rfl⟩, trivial⟩, ?_⟩
      conv => whnf
      exact fin l _ 0 _ _ sm rfl (by omega) (by omega) rfl
    conv => whnf
    refine VDraw.go ⟨289, [0, 1, 0, 4, 0, 28, 60, 124, 255, 511, 1023], [7, 8, 10], [(8, [121]), (10, [129])]⟩ rfl rfl (by decide +kernel) ?_
    conv => whnf
    refine ⟨by omega, by omega, by omega, ?_⟩
    conv => whnf
    refine ⟨_, ia_at l ek hkl, ?_⟩
    conv => whnf
    refine ⟨⟨rfl, hm.symm, rfl⟩, Nat.le_refl 1, ?_⟩
    conv => whnf
    refine ⟨(fun q => by cases q), appB (show (l.map encItem).length + 1 ≤ 1100000 by omega), fun el hel => by cases List.mem_singleton.1 hel; rfl, ?_⟩
    conv => whnf
    refine ⟨⟨⟨by decide +kernel, Nat.le_of_ble_eq_true rfl⟩, trivial⟩, ?_⟩
    conv => whnf
    refine fin (l ++ [ia l k.toNat]) _ last _ _ ⟨by rw [List.length_append]; show l.length + 1 ≤ 9; omega, fun x hx => ?_, fun x hx => ?_⟩ (by rw [List.length_append]; show (l.map encItem).length + 1 = l.length + 1; omega) (by omega) (by omega) (by rw [List.map_append]; rfl)
    · rcases List.mem_append.1 hx with h | h
      · exact sm.nm x h
      · cases List.mem_singleton.1 h; exact hat.1
    · rcases List.mem_append.1 hx with h | h
      · exact sm.tx x h
      · cases List.mem_singleton.1 h; exact hat.2
end Go.Abs.C
