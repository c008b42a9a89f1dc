/-
Names consist of letters: for every code the law FnNameOk returns true: NameOk is the reference's, and each letter of a name is a name.
Conditions: none beyond the form's own reach.
-/
import Derived.Test.YtdigjaphfpfbaaaPFnNameOkx0
import Derived.Test.YtdigjaphfpfbaaaPFnNameOkx1
import Derived.Test.YtdigjaphfpfbaaaPFnNameOkx2
import Derived.Test.YtdigjaphfpfbaaaPureC
namespace Go.Proofs.Ytdigjaphfpfbaaa.Pure
open Go.RowKit Go.Proofs.Ytdigjaphfpfbaaa.PFnNameOk Go.Proofs.Ytdigjaphfpfbaaa.C Go.Proofs.YtdigjaphfpfbaaaW.PrintWords Go.Proofs.YtdigjaphfpfbaaaW.PrintLast
set_option linter.unusedVariables false
set_option linter.unusedSimpArgs false

/-- A name: letters, one to six of them. -/
def nameF (s : ByteArray) : Nat → Bool
  | 0 => decide (1 ≤ s.size) && decide (s.size ≤ 6)
  | d + 1 => if bt s ((s.size : Int) - (d + 1)) < 97 then false else if bt s ((s.size : Int) - (d + 1)) > 122 then false else nameF s d
def nameB (s : ByteArray) : Bool := nameF s s.size

theorem l1In_f (a b c : Int) : spec_l1In.f a b c = some (decide (b ≤ a) && decide (a ≤ c)) := by
  unfold spec_l1In.f
  by_cases h : b ≤ a <;> simp [h]
theorem within_f (a b c : Int) : impl_within.f a b c = some (decide (b ≤ a) && decide (a ≤ c)) := by
  unfold impl_within.f
  by_cases h : b ≤ a <;> simp [h]

theorem specName_l0 (s : ByteArray) (hs : s.size ≤ 140737488351232) : ∀ (d : Nat), d ≤ s.size → Ev (fun k => spec_NameOk.l0 k s ((s.size : Int) - d)) (nameF s d) := by
  intro d
  induction d with
  | zero =>
    intro _
    refine up ?_
    have h : ¬ ((s.size : Int) - ((0 : Nat) : Int) < s.size) := by omega
    simp only [spec_NameOk.l0, if_neg h, l1In_f, Option.bind_some, nameF]
    rw [show decide (1 ≤ (s.size : Int)) = decide (1 ≤ s.size) from decide_eq_decide.2 (by omega), show decide ((s.size : Int) ≤ 6) = decide (s.size ≤ 6) from decide_eq_decide.2 (by omega)]
    exact Ev.now _
  | succ d ih =>
    intro hd
    refine up ?_
    have h1 : (s.size : Int) - ((d + 1 : Nat) : Int) < s.size := by omega
    have h2 : 0 ≤ (s.size : Int) - ((d + 1 : Nat) : Int) := by omega
    have h3 : wrap64 ((s.size : Int) - ((d + 1 : Nat) : Int) + 1) = (s.size : Int) - (d : Int) := by rw [wz (by omega)]; omega
    have e : ((d + 1 : Nat) : Int) = (d : Int) + 1 := by omega
    simp only [spec_NameOk.l0, if_pos h1, if_pos h2, h3, nameF]
    rw [e]
    by_cases h4 : bt s ((s.size : Int) - ((d : Int) + 1)) < 97
    · simp only [if_pos h4]; exact Ev.now _
    · simp only [if_neg h4]
      by_cases h5 : bt s ((s.size : Int) - ((d : Int) + 1)) > 122
      · simp only [if_pos h5]; exact Ev.now _
      · simp only [if_neg h5]; exact ih (by omega)
theorem specName (s : ByteArray) (hs : s.size ≤ 140737488351232) : Ev (fun k => spec_NameOk.f k s) (nameB s) := by
  have h := specName_l0 s hs s.size (Nat.le_refl _)
  have e : (s.size : Int) - (s.size : Int) = 0 := by omega
  rw [e] at h
  exact h

theorem implName_l0 (s : ByteArray) (hs : s.size ≤ 140737488351232) : ∀ (d : Nat), d ≤ s.size → Ev (fun k => impl_NameOk.l0 k s (s.size : Int) ((s.size : Int) - d)) (nameF s d) := by
  intro d
  induction d with
  | zero =>
    intro _
    refine up ?_
    have h : ¬ ((s.size : Int) - ((0 : Nat) : Int) < s.size) := by omega
    simp only [impl_NameOk.l0, if_neg h, within_f, Option.bind_some, nameF]
    rw [show decide (1 ≤ (s.size : Int)) = decide (1 ≤ s.size) from decide_eq_decide.2 (by omega), show decide ((s.size : Int) ≤ 6) = decide (s.size ≤ 6) from decide_eq_decide.2 (by omega)]
    exact Ev.now _
  | succ d ih =>
    intro hd
    refine up ?_
    have h1 : (s.size : Int) - ((d + 1 : Nat) : Int) < s.size := by omega
    have h2 : 0 ≤ (s.size : Int) - ((d + 1 : Nat) : Int) := by omega
    have h3 : wrap64 ((s.size : Int) - ((d + 1 : Nat) : Int) + 1) = (s.size : Int) - (d : Int) := by rw [wz (by omega)]; omega
    have e : ((d + 1 : Nat) : Int) = (d : Int) + 1 := by omega
    simp only [impl_NameOk.l0, if_pos h1, if_pos h2, h3, nameF]
    rw [e]
    by_cases h4 : bt s ((s.size : Int) - ((d : Int) + 1)) < 97
    · simp only [if_pos h4]; exact Ev.now _
    · simp only [if_neg h4]
      by_cases h5 : bt s ((s.size : Int) - ((d : Int) + 1)) > 122
      · simp only [if_pos h5]; exact Ev.now _
      · simp only [if_neg h5]; exact ih (by omega)
theorem implName (s : ByteArray) (hs : s.size ≤ 140737488351232) : Ev (fun k => impl_NameOk.f k s) (nameB s) := by
  have h := implName_l0 s hs s.size (Nat.le_refl _)
  have e : (s.size : Int) - (s.size : Int) = 0 := by omega
  rw [e] at h
  exact h

theorem bt_lt (s : ByteArray) {i : Nat} (h : i < s.size) : bt s (i : Int) = (s[i].toNat : Int) := by
  unfold bt
  simp [h]
theorem nameF_iff (s : ByteArray) : ∀ d, d ≤ s.size → (nameF s d = true ↔ ((∀ j : Nat, s.size - d ≤ j → j < s.size → 97 ≤ bt s j ∧ bt s j ≤ 122) ∧ 1 ≤ s.size ∧ s.size ≤ 6))
  | 0, _ => by
    simp only [nameF, Bool.and_eq_true, decide_eq_true_eq]
    exact ⟨fun h => ⟨fun j h1 h2 => by omega, h⟩, fun h => h.2⟩
  | d + 1, hd => by
    have ih := nameF_iff s d (by omega)
    have e : (s.size : Int) - ((d : Int) + 1) = ((s.size - (d + 1) : Nat) : Int) := by omega
    simp only [nameF, e]
    by_cases h1 : bt s ((s.size - (d + 1) : Nat) : Int) < 97
    · simp only [if_pos h1]
      refine ⟨fun h => by simp at h, fun h => ?_⟩
      have := h.1 (s.size - (d + 1)) (Nat.le_refl _) (by omega)
      omega
    · simp only [if_neg h1]
      by_cases h2 : bt s ((s.size - (d + 1) : Nat) : Int) > 122
      · simp only [if_pos h2]
        refine ⟨fun h => by simp at h, fun h => ?_⟩
        have := h.1 (s.size - (d + 1)) (Nat.le_refl _) (by omega)
        omega
      · simp only [if_neg h2, ih]
        refine ⟨fun h => ⟨fun j a b => ?_, h.2⟩, fun h => ⟨fun j a b => h.1 j (by omega) b, h.2⟩⟩
        by_cases e2 : j = s.size - (d + 1)
        · subst e2; omega
        · exact h.1 j (by omega) b
theorem nameB_iff (s : ByteArray) : nameB s = true ↔ ((∀ j : Nat, j < s.size → 97 ≤ bt s j ∧ bt s j ≤ 122) ∧ 1 ≤ s.size ∧ s.size ≤ 6) := by
  unfold nameB
  rw [nameF_iff s s.size (Nat.le_refl _)]
  exact ⟨fun h => ⟨fun j b => h.1 j (by omega) b, h.2⟩, fun h => ⟨fun j _ b => h.1 j b, h.2⟩⟩

theorem open_f (l : List Int) : spec_l1Open.f l = some (l.take 2000, 0) := by
  unfold spec_l1Open.f
  by_cases h : (l.length : Int) > 2000
  · have h2 : 2000 ≤ (l.length : Int) := by omega
    rw [if_pos h, if_pos h2]
  · rw [if_neg h, List.take_of_length_le (by omega)]
/-- The bytes of a code that is read. -/
structure Code (b : List Int) : Prop where
  byte : ∀ x ∈ b, 0 ≤ x ∧ x ≤ 255
  len : b.length ≤ 2000
theorem Code.of {l : List Int} (h : ∀ x ∈ l, (Lit.int .u8 x).wf = true) : Code (l.take 2000) :=
  ⟨fun x hx => wf_u8 (h x (List.mem_of_mem_take hx)), by rw [List.length_take]; omega⟩
theorem tmod_range {a n : Int} (ha : 0 ≤ a) (hn : 1 ≤ n) : 0 ≤ Int.tmod a n ∧ Int.tmod a n < n := ⟨Int.tmod_nonneg n ha, Int.tmod_lt_of_pos a (by omega)⟩
theorem pick_main (b : List Int) (hb : Code b) (p n : Int) (hp : 0 ≤ p ∧ p ≤ 1000000000000) (hn : 1 ≤ n) (hl : 1 ≤ (b.length : Int)) :
    ∃ v, Ev (fun k => spec_l1Rd_pick.j0 k n false b (p + 1)) (v, p + 1) ∧ 0 ≤ v ∧ v < n := by
  have hl2 : (b.length : Int) ≤ 2000 := by have := hb.len; omega
  have e1 : wrap64 (p + 1 - 1) = p := by rw [wz (by omega)]; omega
  have n0 : ¬ n = 0 := by omega
  by_cases h1 : p < (b.length : Int)
  · have hr := rd_mem (P := fun x => 0 ≤ x ∧ x ≤ 255) hb.byte p hp.1 h1
    have t := tmod_range hr.1 hn
    refine ⟨Int.tmod (rd b p) n, up ?_, t.1, t.2⟩
    have e2 : wrap64 (rd b p) = rd b p := wz (by omega)
    simp only [spec_l1Rd_pick.j0, Bool.false_eq_true, if_false, e1, if_pos h1, if_pos hp.1, if_neg n0, e2]
    exact Ev.now _
  · have l0 : ¬ (b.length : Int) = 0 := by omega
    have t1 := tmod_range hp.1 hl
    have e7 : wrap64 (wrap64 (p * 7) + 3) = p * 7 + 3 := by rw [wz (n := p * 7) (by omega), wz (by omega)]
    have t2 := tmod_range (a := p * 7 + 3) (by omega) hl
    have r1 := rd_mem (P := fun x => 0 ≤ x ∧ x ≤ 255) hb.byte (Int.tmod p b.length) t1.1 t1.2
    have r2 := rd_mem (P := fun x => 0 ≤ x ∧ x ≤ 255) hb.byte (Int.tmod (p * 7 + 3) b.length) t2.1 t2.2
    have d0 : 0 ≤ Int.tdiv p b.length ∧ Int.tdiv p b.length ≤ p := by
      rw [Int.tdiv_eq_ediv_of_nonneg hp.1]
      exact ⟨Int.ediv_nonneg hp.1 (by omega), Int.ediv_le_self _ hp.1⟩
    generalize hx1 : rd b (Int.tmod p b.length) = x1 at *
    generalize hx2 : rd b (Int.tmod (p * 7 + 3) b.length) = x2 at *
    generalize hq : Int.tdiv p b.length = q at *
    have w1 : wrap64 x1 = x1 := wz (by omega)
    have w2 : wrap64 x2 = x2 := wz (by omega)
    have w3 : wrap64 (x1 * 131) = x1 * 131 := wz (by omega)
    have w4 : wrap64 (x2 * 1117) = x2 * 1117 := wz (by omega)
    have w5 : wrap64 (x1 * 131 + x2 * 1117) = x1 * 131 + x2 * 1117 := wz (by omega)
    have w6 : wrap64 (p * 29) = p * 29 := wz (by omega)
    have w7 : wrap64 (x1 * 131 + x2 * 1117 + p * 29) = x1 * 131 + x2 * 1117 + p * 29 := wz (by omega)
    have w8 : wrap64 q = q := wz (by omega)
    have w9 : wrap64 (q * 53) = q * 53 := wz (by omega)
    have wA : wrap64 (x1 * 131 + x2 * 1117 + p * 29 + q * 53) = x1 * 131 + x2 * 1117 + p * 29 + q * 53 := wz (by omega)
    generalize hz : x1 * 131 + x2 * 1117 + p * 29 + q * 53 = z at *
    have z0 : 0 ≤ z ∧ z < 9223372036854775808 := by omega
    have d1 : 0 ≤ Int.tdiv z 64 ∧ Int.tdiv z 64 ≤ z := by
      rw [Int.tdiv_eq_ediv_of_nonneg z0.1]
      omega
    have wB : wrap64 (Int.tdiv z 64) = Int.tdiv z 64 := wz (by omega)
    have hX := xor_nonneg z (Int.tdiv z 64) z0.1 d1.1 z0.2 (by omega)
    have t := tmod_range hX hn
    refine ⟨_, up ?_, t.1, t.2⟩
    simp only [spec_l1Rd_pick.j0, Bool.false_eq_true, if_false, e1, if_neg h1, if_neg l0, if_pos t1.1, if_pos t1.2, e7, if_pos t2.1, if_pos t2.2, if_neg n0, hx1, hx2, hq, w1, w2, w3, w4, w5, w6, w7, w8, w9, hz, wA, wB]
    exact Ev.now _
/-- One number is read: below n; nought where there is none. -/
theorem pick (b : List Int) (hb : Code b) (p n : Int) (hp : 0 ≤ p ∧ p ≤ 1000000000000) :
    ∃ v, Ev (fun k => spec_l1Rd_pick.f k b p n) (v, p + 1) ∧ 0 ≤ v ∧ (1 ≤ n → v < n) := by
  have e0 : wrap64 (p + 1) = p + 1 := wz (by omega)
  unfold spec_l1Rd_pick.f
  by_cases hn : n < 1
  · refine ⟨0, ?_, by omega, by omega⟩
    simp only [if_pos hn, e0]
    refine up ?_
    simp only [spec_l1Rd_pick.j0, if_true]
    exact Ev.now _
  · simp only [if_neg hn, e0]
    by_cases hl : (b.length : Int) = 0
    · refine ⟨0, ?_, by omega, by omega⟩
      have e : ((b.length : Int) == 0) = true := by simpa using hl
      simp only [e]
      refine up ?_
      simp only [spec_l1Rd_pick.j0, if_true]
      exact Ev.now _
    · have e : ((b.length : Int) == 0) = false := by simpa using hl
      simp only [e]
      obtain ⟨v, h1, h2, h3⟩ := pick_main b hb p n hp (by omega) (by omega)
      exact ⟨v, h1, h2, fun _ => h3⟩

theorem rdOf_mem {α : Type} (d : α) (xs : List α) (i : Int) (h0 : 0 ≤ i) (h1 : i < xs.length) : rdOf d xs i ∈ xs := by
  unfold rdOf
  have : i.toNat < xs.length := by omega
  rw [List.getD_eq_getElem?_getD, List.getElem?_eq_getElem this]
  exact List.getElem_mem this
theorem of_ev (b : List Int) (hb : Code b) (p : Int) (hp : 0 ≤ p ∧ p ≤ 1000000000000) (l : List ByteArray) (hl : 1 ≤ l.length) :
    ∃ s, s ∈ l ∧ Ev (fun k => spec_l1Rd_of.f k b p l) (s, p + 1) := by
  obtain ⟨v, h1, h2, h3⟩ := pick b hb p l.length hp
  have h4 := h3 (by omega)
  refine ⟨rdOf ByteArray.empty l v, rdOf_mem _ _ _ h2 h4, ?_⟩
  unfold spec_l1Rd_of.f
  refine bd h1 ?_
  simp only [if_pos h2, if_pos h4]
  exact Ev.now _

theorem name_letter (s : ByteArray) (h : nameB s = true) (i : Nat) (hi : i < s.size) : nameB (s.extract i (i + 1)) = true := by
  obtain ⟨h1, h2, h3⟩ := (nameB_iff s).1 h
  have hs : (s.extract i (i + 1)).size = 1 := by simp; omega
  refine (nameB_iff _).2 ⟨fun j hj => ?_, by omega, by omega⟩
  have hj0 : j = 0 := by omega
  subst hj0
  have := h1 i hi
  rw [bt_lt _ hi] at this
  rw [bt_lt _ (by omega), ByteArray.getElem_extract]
  simpa using this
theorem FnNameOk (l0 : List (Int)) (h0 : l0.length ≤ 9223372036854775807 ∧ ∀ x ∈ l0, (Lit.int .u8 x).wf = true) :
    ∃ k, laws_FnNameOk.f k l0 = some true := by
  have hw := h0.2
  refine ex ?_
  unfold laws_FnNameOk.f
  by_cases hl : (l0.length : Int) > 1048576
  · simp only [if_pos hl]; exact Ev.now _
  · simp only [if_neg hl]
    have hb := Code.of hw
    obtain ⟨s, hs, h1⟩ := of_ev (l0.take 2000) hb 0 (by omega) [(⟨#[97]⟩ : ByteArray), (⟨#[97, 98, 99, 100, 101, 102]⟩ : ByteArray), (⟨#[97, 98, 99, 100, 101, 102, 103]⟩ : ByteArray), (⟨#[]⟩ : ByteArray), (⟨#[65]⟩ : ByteArray), (⟨#[97, 49]⟩ : ByteArray), (⟨#[122, 122]⟩ : ByteArray)] (by simp)
    have hsz : s.size ≤ 140737488351232 := by
      simp only [List.mem_cons, List.not_mem_nil, or_false] at hs
      rcases hs with rfl | rfl | rfl | rfl | rfl | rfl | rfl <;> decide
    have hd : Ev (fun k => spec_DrawNameOk.f k l0) s := by
      unfold spec_DrawNameOk.f
      simp only [open_f, Option.bind_some]
      refine bd h1 ?_
      exact Ev.now _
    refine bd hd ?_
    refine bd (implName s hsz) ?_
    refine bd (specName s hsz) ?_
    simp only [bne_self_eq_false, Bool.false_eq_true, if_false]
    have main : ∀ (d i : Nat), i + d = s.size → Ev (fun k => laws_FnNameOk.l0 k s (nameB s) (i : Int)) true := by
      intro d
      have hend : ∀ i : Int, Ev (fun k => laws_FnNameOk.j1 k s (nameB s) i false) true := by
        intro i
        refine up ?_
        simp only [laws_FnNameOk.j1, Bool.false_eq_true, if_false, laws_whIn.f]
        by_cases h : nameB s = true
        · obtain ⟨_, h2, h3⟩ := (nameB_iff s).1 h
          have h2' : (s.size : Int) ≥ 1 := by omega
          have h3' : (s.size : Int) ≤ 6 := by omega
          simp only [if_pos h, if_pos h2', yesB h3', Option.bind_some]
          exact Ev.now _
        · simp only [if_neg h]; exact Ev.now _
      induction d with
      | zero =>
        intro i hi
        have h1 : ¬ (i : Int) < (s.size : Int) := by omega
        refine up ?_
        simp only [laws_FnNameOk.l0, if_neg h1]
        exact hend i
      | succ d ih =>
        intro i hi
        have h1 : (i : Int) < (s.size : Int) := by omega
        refine up ?_
        simp only [laws_FnNameOk.l0, if_pos h1]
        by_cases h : nameB s = true
        · have h2 : 0 ≤ (i : Int) := by omega
          have h4 : wrap64 ((i : Int) + 1) = ((i + 1 : Nat) : Int) := by rw [wz (by omega)]; omega
          have h5 : (i : Int) ≤ ((i + 1 : Nat) : Int) := by omega
          have h6 : ((i + 1 : Nat) : Int) ≤ (s.size : Int) := by omega
          rw [h]
          have ih' := ih (i + 1) (by omega)
          rw [h] at ih'
          refine up ?_
          simp only [laws_FnNameOk.j1, if_true, if_pos h2, h4, if_pos h5, if_pos h6, Int.toNat_natCast]
          have hx := implName (s.extract i (i + 1)) (by simp; omega)
          rw [name_letter s h i (by omega)] at hx
          refine bd hx ?_
          simp only [if_true]
          exact ih'
        · have h' : nameB s = false := by simpa using h
          have := hend i
          rw [h'] at this ⊢
          exact this
    exact main s.size 0 (by omega)

end Go.Proofs.Ytdigjaphfpfbaaa.Pure
