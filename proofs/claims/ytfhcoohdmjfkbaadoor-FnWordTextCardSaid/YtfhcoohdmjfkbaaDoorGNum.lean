import Derived.Test.YtfhcoohdmjfkbaaDoorGW2
import Derived.Test.YtfhcoohdmjfkbaaDoorGAtoi
import Derived.Test.YtfhcoohdmjfkbaaDoorGAbs26
set_option linter.unusedSimpArgs false
set_option linter.unusedVariables false
namespace Go.Abs.D
open Go Go.Abs Go.Proofs Go.RowKit
attribute [local irreducible] IntKind.wrap
theorem dec_eq (n : Nat) : dec (n : Int) = ⟨(Lib.decDigits n).toArray⟩ := by unfold dec; rw [Lib.itoa_nonneg]
theorem atoi_ok (s : ByteArray) (hs : s.size ≤ 281474976710656) (v : Int) (h : Lib.atoiAll s.data.toList = .ok v) : Good Tryd.prog 62 [vstr s] [] (.tup [vint v, lit .nilIface]) [] :=
  good_tupB (vs := [.string s]) (rs := [.int .i64 v, .nilIface]) fun w hg => by
    have hc : Calls Tryd.prog 62 #[.string s] w _ := Any.strconv_Atoi_ok Tryd.laysAtoiC s (by omega) v h w
    refine Calls.mono hc ?_
    rintro e w' ⟨rfl, rfl | ⟨t, rfl⟩⟩
    · exact ⟨rfl, Below.refl _ _⟩
    · exact ⟨rfl, Lib.bytesWorld_below _ _ _⟩
theorem cell_of {w : World} {g : Nat} {v : Value} {ty : TypeId} {fr : Nat × Nat} (h : w.heap[g]? = some (.cells #[v] ty fr)) : w.cell? ⟨g, 0, none⟩ = some v := by
  simp [World.cell?, h]
set_option maxHeartbeats 4000000 in
theorem number_fail (s : ByteArray) (hs : s.size ≤ 281474976710656) (h : ∀ v, Lib.atoiAll s.data.toList ≠ .ok v) (w : World) (hg : GlobH w) :
    Calls Tryd.prog 37 #[.string s] w fun e w' => e = .returned (.tuple #[.int .i64 0, .bool false]) ∧ Below w.heap.size w w' := by
  have hc : Calls Tryd.prog 62 #[.string s] w fun e w' => (∃ n N, e = .returned (.tuple #[.int .i64 n, .iface 110 (.pointer (some ⟨N, 0, none⟩))])) ∧ Below w.heap.size w w' := by
    rcases ha : Lib.atoiAll s.data.toList with v | _ | _
    · exact absurd ha (h v)
    · obtain ⟨t, p, ty, fr, e⟩ := hg.2 2 (by decide)
      have hc : Calls Tryd.prog 62 #[.string s] w _ := Any.strconv_Atoi_syntax Tryd.laysAtoiC s hs ha (.iface t p) w (cell_of e) (.inr ⟨_, _, rfl⟩)
      refine Calls.mono hc ?_
      rintro e w' ⟨N, rfl, _, _, hb⟩
      exact ⟨⟨_, N, rfl⟩, hb⟩
    · obtain ⟨t, p, ty, fr, e⟩ := hg.2 3 (by decide)
      have hc : Calls Tryd.prog 62 #[.string s] w _ := Any.strconv_Atoi_range Tryd.laysAtoiC s hs ha (.iface t p) w (cell_of e) (.inr ⟨_, _, rfl⟩)
      refine Calls.mono hc ?_
      rintro e w' ⟨N, rfl, _, _, hb⟩
      exact ⟨⟨_, N, rfl⟩, hb⟩
  go_enter Tryd.func37, Tryd.ntmps37
  go_wp2_with (go_at_call 62; refine hc.mono ?_; rintro e w' ⟨⟨n, N, rfl⟩, hb⟩)
  go_ret2
  exact ⟨rfl, hb⟩
/-- The number of at most six figures that a text is. -/
def num (s : ByteArray) : Option Nat := numOf s.data.toList
def numI (s : ByteArray) : Int := match num s with
  | some v => (v : Int)
  | none => 0
def numS (s : ByteArray) : Int := match num s with
  | some v => (v : Int)
  | none => -1
def numOk (s : ByteArray) : Bool := (num s).isSome
set_option maxHeartbeats 16000000 in
set_option maxRecDepth 100000 in
theorem number_ok (s : ByteArray) (hs : s.size ≤ 281474976710656) : Good Tryd.prog 37 [vstr s] [] (.tup [vint (numI s), vbool (numOk s)]) [] := by
  by_cases h : ∃ v, Lib.atoiAll s.data.toList = .ok v
  · obtain ⟨v, ha⟩ := h
    have hb := Lib.atoiAll_bounds ha
    refine good_e noM Tryd.func37 rfl rfl ?_
    conv => whnf
    refine .mk _ _ false Tryd.call62 (atoi_ok s hs v ha) (Nat.le_of_ble_eq_true rfl) (.inl rfl) ?_
    conv => whnf
    have none_of : (v < 0 ∨ ¬ s.size ≤ 6) → num s = none := fun hv => by
      cases q : num s with
      | none => rfl
      | some u =>
        obtain ⟨hp, hl, e, _⟩ := numOf_some (l := s.data.toList) q
        rw [atoi_plain hp (by omega)] at ha
        cases ha
        have : s.data.toList.length = s.size := by simp
        omega
    split
    · rename_i q
      have q' : v < 0 := of_decide_eq_true q
      have hn := none_of (.inl q')
      unfold numI numOk
      rw [hn]
      conv => whnf
      refine ⟨trivial, ?_⟩
      conv => whnf
      exact ⟨rfl, rfl⟩
    · rename_i q
      have q' : ¬ v < 0 := of_decide_eq_false q
      conv => whnf
      split
      · rename_i q2
        have q2' : 6 < (s.size : Int) := of_decide_eq_true q2
        have hn := none_of (.inr (by omega))
        unfold numI numOk
        rw [hn]
        conv => whnf
        refine ⟨trivial, ?_⟩
        conv => whnf
        exact ⟨rfl, rfl⟩
      · rename_i q2
        have q2' : ¬ 6 < (s.size : Int) := of_decide_eq_false q2
        conv => whnf
        refine .mk _ _ false Tryd.call30 (itoa_ok v hb.1 hb.2) (Nat.le_of_ble_eq_true rfl) (.inl rfl) ?_
        conv => whnf
        by_cases e : dec v = s
        · have hd : s.data.toList = Lib.decDigits v.toNat := by
            obtain ⟨n, rfl⟩ := Int.eq_ofNat_of_zero_le (show 0 ≤ v by omega)
            rw [← e, dec_eq]; rfl
          have hn : num s = some v.toNat := by
            show numOf s.data.toList = _
            have hl : s.data.toList.length = s.size := by simp
            rw [hd] at hl ⊢
            exact numOf_dec (by omega)
          have hv : ((v.toNat : Nat) : Int) = v := Int.toNat_of_nonneg (by omega)
          unfold numI numOk
          rw [hn, str_t e]
          simp only [Option.isSome, hv]
          conv => whnf
          refine ⟨trivial, ?_⟩
          conv => whnf
          exact ⟨rfl, rfl⟩
        · have hn : num s = none := by
            cases q : num s with
            | none => rfl
            | some u =>
              obtain ⟨hp, hl, e1, e2⟩ := numOf_some (l := s.data.toList) q
              rw [atoi_plain hp (by omega)] at ha
              cases ha
              exfalso
              apply e
              unfold dec
              rw [e1, e2]
          unfold numI numOk
          rw [hn, str_f e]
          conv => whnf
          refine ⟨trivial, ?_⟩
          conv => whnf
          exact ⟨rfl, rfl⟩
  · have hn : ∀ v, Lib.atoiAll s.data.toList ≠ .ok v := fun v q => h ⟨v, q⟩
    have hnum : num s = none := by
      cases q : num s with
      | none => rfl
      | some v =>
        obtain ⟨hp, hl, e, _⟩ := numOf_some (l := s.data.toList) q
        exact absurd (atoi_plain hp (by omega)) (hn _)
    unfold numI numOk
    rw [hnum]
    exact good_tupB (vs := [.string s]) (rs := [.int .i64 0, .bool false]) fun w hg => number_fail s hs hn w hg
end Go.Abs.D
