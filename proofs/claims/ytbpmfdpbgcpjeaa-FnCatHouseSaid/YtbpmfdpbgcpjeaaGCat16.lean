import Derived.Test.YtbpmfdpbgcpjeaaGCat15
set_option linter.unusedSimpArgs false
set_option linter.unusedVariables false
namespace Go.Abs.C
open Go Go.Abs Go.Proofs
attribute [local irreducible] IntKind.wrap

/-- A drawn catalogue, as a value with its blocks (block 0 first). -/
def DrawR (r : AV) (rest : List AV) (out : List Blk) : Prop :=
  (r = .tup (noCat :: rest) ∧ out = []) ∨ (∃ (l : Is) (last : Int) (n : Nat), Small l ∧ n = l.length ∧ r = .tup (.agg [.p (.lit (.int .i64 last)), .hs 0 0 n] :: rest) ∧ out = [.arr 4 (l.map encItem)])
set_option maxHeartbeats 16000000 in
set_option maxRecDepth 100000 in
theorem drawPut_ok (bs : List Int) (hb : ∀ x ∈ bs, 0 ≤ x ∧ x ≤ 255) (hl : bs.length ≤ 9223372036854775807) :
    ∃ r out, (∃ (h : Int) (n t : ByteArray), n.size ≤ 1000 ∧ t.size ≤ 200000 ∧ DrawR r [vint h, vstr n, vstr t] out) ∧ Good Try.prog 30 [.one (.p (.sl (bs.map encU)))] [] r out := by
  refine good_v noM Try.func30 rfl rfl ?_
  conv => whnf
  obtain ⟨_, _, ⟨bs', hb', rfl, rfl⟩, hg⟩ := l1Open_ok bs hb hl
  refine .mk _ _ true Try.call50 hg (Nat.le_of_ble_eq_true rfl) (fun b hb => Nat.zero_le _) ?_
  conv => whnf
  obtain ⟨_, _, h, hg⟩ := l15AnyCat_ok bs' 0 hb' (by omega) (by omega)
  rcases h with ⟨q, hq0, hq1, rfl, rfl⟩ | ⟨l, last, q, n, sm, hn, hq0, hq1, rfl, rfl⟩
  all_goals
    refine .mk _ _ false Try.call51 hg (Nat.le_of_ble_eq_true rfl) (.inl rfl) ?_
    conv => whnf
    refine VDraw.go ⟨88, [0, 0, 0, 4, 12, 28, 62, 126, 0, 0, 780, 0, 0, 7948, 0, 32524, 65292, 130828, 0, 327436, 851724, 1900300, 4194060, 8388364, 16776972, 33554189, 67108863, 134217727, 268435455], [1, 3, 9, 10, 12, 13, 15, 17, 19, 24, 25], [(3, [40]), (10, [40, 160]), (13, [40, 184]), (15, [40]), (19, [40]), (25, [0])]⟩ rfl rfl (by decide +kernel) ?_
    conv => whnf
    obtain ⟨_, _, ⟨v1, hv10, hv11, rfl, rfl⟩, hg1⟩ := pick_ok bs' q 18 hb'.rng hb'.len hq0 (by omega) (by omega) (by omega)
    refine .mk _ _ false Try.call52 hg1 (Nat.le_of_ble_eq_true rfl) (.inl rfl) ?_
    conv => whnf
    have hd1 : IntKind.i64.wrap ((IntKind.i64.wrap (v1 * 6)).tdiv 18) = v1 * 6 / 18 := by
      rw [wi (v1 * 6) (by omega) (by omega), Int.tdiv_eq_ediv_of_nonneg (by omega), wi _ (by omega) (by omega)]
    rw [hd1]
    have ei1 : 0 + (v1 * 6 / 18).toNat = (v1 * 6 / 18).toNat := by omega
    refine ⟨by omega, by omega, Nat.le_refl 6, ?_⟩
    conv => whnf
    refine ⟨_, getD_int [0, 1, 0, 1, 2, -1] ei1 (by simp; omega), ?_⟩
    conv => whnf
    refine ⟨Nat.le_refl 6, ?_⟩
    conv => whnf
    obtain ⟨_, _, ⟨s, hs, rfl, rfl⟩, hg2⟩ := of_ok bs' (q + 1) [⟨#[97]⟩, ⟨#[98]⟩, ⟨#[99, 99]⟩, ⟨#[101]⟩, ⟨#[102]⟩, ⟨#[116, 111, 111, 108, 111, 110, 103]⟩] hb' (by omega) (by omega) (by decide) (by decide)
    have hs2 : s.size ≤ 1000 := by
      simp only [List.mem_cons, List.not_mem_nil, or_false] at hs
      rcases hs with rfl | rfl | rfl | rfl | rfl | rfl <;> decide
    refine .mk _ _ true Try.call58 hg2 (Nat.le_of_ble_eq_true rfl) (fun b hb => by cases List.mem_singleton.1 hb; exact Nat.le_of_ble_eq_true rfl) ?_
    conv => whnf
    refine ⟨Nat.le_refl 2, ?_⟩
    conv => whnf
    obtain ⟨_, _, ⟨s2, hs2', rfl, rfl⟩, hg3⟩ := of_ok bs' (q + 1 + 1) [⟨#[120]⟩, ⟨#[121]⟩] hb' (by omega) (by omega) (by decide) (by decide)
    have hs3 : s2.size ≤ 100 := by
      simp only [List.mem_cons, List.not_mem_nil, or_false] at hs2'
      rcases hs2' with rfl | rfl <;> decide
    refine .mk _ _ true Try.call58 hg3 (Nat.le_of_ble_eq_true rfl) (fun b hb => by cases List.mem_singleton.1 hb; exact Nat.le_of_ble_eq_true rfl) ?_
    conv => whnf
    obtain ⟨_, _, ⟨v4, hv40, hv41, rfl, rfl⟩, hg4⟩ := pick_ok bs' (q + 1 + 1 + 1) 256 hb'.rng hb'.len (by omega) (by omega) (by omega) (by omega)
    refine .mk _ _ false Try.call52 hg4 (Nat.le_of_ble_eq_true rfl) (.inl rfl) ?_
    conv => whnf
    obtain ⟨_, _, ⟨v5, hv50, hv51, rfl, rfl⟩, hg5⟩ := pick_ok bs' (q + 1 + 1 + 1 + 1) 10 hb'.rng hb'.len (by omega) (by omega) (by omega) (by omega)
    refine .mk _ _ false Try.call52 hg5 (Nat.le_of_ble_eq_true rfl) (.inl rfl) ?_
    conv => whnf
    have hd2 : IntKind.i64.wrap ((IntKind.i64.wrap (v5 * 4)).tdiv 10) = v5 * 4 / 10 := by
      rw [wi (v5 * 4) (by omega) (by omega), Int.tdiv_eq_ediv_of_nonneg (by omega), wi _ (by omega) (by omega)]
    rw [hd2]
    have ei2 : 0 + (v5 * 4 / 10).toNat = (v5 * 4 / 10).toNat := by omega
    refine ⟨by omega, by omega, Nat.le_refl 4, ?_⟩
    conv => whnf
    refine ⟨_, getD_int [IntKind.i64.wrap (1 + v4), 0, 300, 301] ei2 (by simp; omega), ?_⟩
    conv => whnf
    have hle : ([IntKind.i64.wrap (1 + v4), 0, 300, 301] : List Int).getD (v5 * 4 / 10).toNat 0 ≤ 1000 := by
      rw [wi (1 + v4) (by omega) (by omega)]
      have : (v5 * 4 / 10).toNat = 0 ∨ (v5 * 4 / 10).toNat = 1 ∨ (v5 * 4 / 10).toNat = 2 ∨ (v5 * 4 / 10).toNat = 3 := by omega
      rcases this with h | h | h | h <;> rw [h] <;> simp <;> omega
    obtain ⟨_, _, ⟨t, rfl, ht, rfl⟩, hg6⟩ := l1Many_ok s2 (([IntKind.i64.wrap (1 + v4), 0, 300, 301] : List Int).getD (v5 * 4 / 10).toNat 0) hle hs3
    refine .mk _ _ false Try.call59 hg6 (Nat.le_of_ble_eq_true rfl) (.inl rfl) ?_
    conv => whnf
    refine ⟨⟨⟨by decide +kernel, Nat.le_of_ble_eq_true rfl⟩, trivial⟩, ?_⟩
    conv => whnf
    refine ⟨([0, 1, 0, 1, 2, -1] : List Int).getD (v1 * 6 / 18).toNat 0, s, t, hs2, Nat.le_trans ht (by decide), ?_⟩
    first
    | exact .inl ⟨rfl, rfl⟩
    | exact .inr ⟨l, last, n, sm, hn, rfl, rfl⟩
end Go.Abs.C
