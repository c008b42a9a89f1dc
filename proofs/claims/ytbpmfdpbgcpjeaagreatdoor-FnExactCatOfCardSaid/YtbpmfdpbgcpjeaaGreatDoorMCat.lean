import Derived.Test.YtbpmfdpbgcpjeaaGreatDoorGAbs24
import Derived.Test.YtbpmfdpbgcpjeaaGreatDoorProg
set_option linter.unusedSimpArgs false
set_option linter.unusedVariables false
namespace Go.Abs.C
open Go Go.Abs Go.Proofs
attribute [local irreducible] IntKind.wrap
set_option maxHeartbeats 8000000 in
set_option maxRecDepth 100000 in
theorem markText_ex (n : Int) (h0 : 0 ≤ n) (h1 : n < 20000000) : ∃ r out, (∃ s, r = vstr s ∧ out = []) ∧ Good Tryz.prog 20 [vint n] [] r out := by
  refine good_v noM Tryz.func20 rfl rfl ?_
  conv => whnf
  split
  · conv => whnf
    refine ⟨trivial, ?_⟩
    conv => whnf
    exact ⟨_, rfl, rfl⟩
  · conv => whnf
    refine VLoop.enter [0, 3] ?_
    conv => whnf
    refine VLoop.ind2 (n0 := 0) (α := Int) (β := ByteArray) noM [0, 3] (fun a s => ⟨20, 0, [(0, vint a), (3, vstr s)], []⟩) (fun a s => 0 ≤ a ∧ a < 20000000 ∧ s.size + a.toNat ≤ 20000000) (fun a _ => a.toNat) ?_ n _ ⟨h0, h1, by show 0 + n.toNat ≤ _; omega⟩
    rintro a s ⟨ha0, ha1, ha2⟩
    conv => whnf
    split
    · rename_i q
      have q' := of_decide_eq_true q
      conv => whnf
      refine ⟨trivial, ?_⟩
      conv => whnf
      refine ⟨⟨Nat.le_refl 1, fun el hel => by cases List.mem_singleton.1 hel; exact isByte_mk⟩, ?_⟩
      conv => whnf
      rw [abin_cat (a := _) (b := _) rfl rfl (by rw [elsBytes_size]; show 1 + s.size ≤ _; omega)]
      conv => whnf
      have hw : IntKind.i64.wrap (a.tdiv 10) = a / 10 := by rw [Int.tdiv_eq_ediv_of_nonneg ha0]; exact wrap_in _ (by omega) (by omega)
      refine ⟨_, _, rfl, rfl, ⟨by rw [hw]; omega, by rw [hw]; omega, ?_⟩, by rw [hw]; omega⟩
      rw [hw, ByteArray.size_append, elsBytes_size]
      show 1 + s.size + (a / 10).toNat ≤ _
      omega
    · conv => whnf
      rw [abin_cat (a := _) (b := _) rfl rfl (by show 1 + s.size ≤ _; omega)]
      conv => whnf
      refine ⟨trivial, ?_⟩
      conv => whnf
      exact ⟨_, rfl, rfl⟩
open Classical in
/-- The text that markText gives for a number. -/
noncomputable def mtext (n : Int) : ByteArray := if h : ∃ s, Good Tryz.prog 20 [vint n] [] (vstr s) [] then h.choose else ByteArray.empty
theorem markText_ok (n : Int) (h0 : 0 ≤ n) (h1 : n < 20000000) : Good Tryz.prog 20 [vint n] [] (vstr (mtext n)) [] := by
  obtain ⟨_, _, ⟨s, rfl, rfl⟩, hg⟩ := markText_ex n h0 h1
  have h : ∃ s, Good Tryz.prog 20 [vint n] [] (vstr s) [] := ⟨s, hg⟩
  unfold mtext; rw [dif_pos h]; exact h.choose_spec
structure RItem where
  a : Int
  b : ByteArray
  c : Int
  d : ByteArray
def encItem (x : RItem) : List PV := [.lit (.int .i64 x.a), .lit (.string x.b), .lit (.int .i64 x.c), .lit (.string x.d)]
def zItem : RItem := ⟨0, ByteArray.empty, 0, ByteArray.empty⟩
noncomputable def mrowItem (n : Int) : RItem := ⟨n, mtext (n + 1), (n + 2), mtext (n + 3)⟩
set_option maxHeartbeats 8000000 in
set_option maxRecDepth 100000 in
theorem eqItem_ok (x : RItem) : Good Tryz.prog 42 [.agg ((encItem x).map .p), .agg ((encItem x).map .p)] [] (vbool true) [] := by
  refine good_e noM Tryz.func42 rfl rfl ?_
  conv => whnf
  split
  · rename_i h; simp at h
  conv => whnf
  split
  · rename_i h; simp at h
  conv => whnf
  split
  · rename_i h; simp at h
  conv => whnf
  split
  · rename_i h; simp at h
  conv => whnf
  refine ⟨trivial, ?_⟩
  conv => whnf
  exact ⟨rfl, rfl⟩
set_option maxHeartbeats 8000000 in
set_option maxRecDepth 100000 in
theorem eqItemS_ok (l : List RItem) (hl : l.length ≤ 9223372036854775807) : Good Tryz.prog 19 [.one (.p (.sl (l.map encItem))), .one (.p (.sl (l.map encItem)))] [] (vbool true) [] := by
  refine good_e noM Tryz.func19 rfl rfl ?_
  conv => whnf
  split
  · rename_i h; simp at h
  conv => whnf
  refine VLoop.enter [0, 1, 5] ?_
  conv => whnf
  refine VLoop.ind1 (n0 := 0) (α := Int) noM [0, 1, 5] (fun a => ⟨27, 0, [(0, .one (.p (.sl (l.map encItem)))), (1, .one (.p (.sl (l.map encItem)))), (5, vint a)], []⟩)
    (fun a => ∃ i : Nat, a = i ∧ i ≤ l.length) (fun a => (l.length - a).toNat) ?_ 0 ⟨0, rfl, by omega⟩
  rintro _ ⟨i, rfl, hi⟩
  conv => whnf
  split
  · rename_i h
    conv => whnf
    simp only [List.length_map, decide_eq_true_eq] at h
    refine VDraw.go ⟨_, [0, 0, 3, 7, 0, 0, 48, 112, 255, 511], [8], []⟩ rfl rfl (by decide +kernel) ?_
    conv => whnf
    refine ⟨by omega, by simp; omega, _, getD_map encItem l _ zItem (by omega), ?_⟩
    conv => whnf
    refine ⟨by omega, by simp; omega, _, getD_map encItem l _ zItem (by omega), ?_⟩
    conv => whnf
    refine .mk _ _ false Tryz.call42 (eqItem_ok _) (Nat.le_of_ble_eq_true rfl) (.inl rfl) ?_
    conv => whnf
    refine ⟨_, rfl, rfl, ⟨i + 1, ?_, by omega⟩, ?_⟩
    · rw [wrap_in _ (by omega) (by omega)]; simp
    · show (_ - IntKind.i64.wrap _).toNat < _
      rw [wrap_in _ (by omega) (by omega)]; omega
  · conv => whnf
    refine ⟨trivial, ?_⟩
    conv => whnf
    exact ⟨rfl, rfl⟩
set_option maxHeartbeats 8000000 in
set_option maxRecDepth 100000 in
theorem markItemS_ok (l : List RItem) (n : Int) (hl : l.length < 1100000) (h0 : 0 ≤ n) (h1 : n < 10000000) : Good Tryz.prog 21 [.one (.hs 0 0 l.length), vint n] [.arr 4 (l.map encItem)] (vint (n + 4 * l.length)) [.arr 4 (tab l.length fun k => encItem (mrowItem (n + 4 * k)))] := by
  refine good_e (fun f => [21].contains f) Tryz.func21 rfl rfl ?_
  conv => whnf
  refine VLoop.enter [0, 1, 5] ?_
  conv => whnf
  refine VLoop.ind3 (n0 := 1) (α := Int) (β := Int) (γ := List (List PV)) (fun f => [21].contains f) [0, 1, 5] (fun a b L => ⟨43, 1, [(0, .one (.hs 0 0 l.length)), (1, vint b), (5, vint a)], [(0, some (.arr 4 L))]⟩)
    (fun a b L => ∃ i : Nat, a = i ∧ i ≤ l.length ∧ b = n + 4 * i ∧ L = mid l.length i (fun k => encItem (mrowItem (n + 4 * k))) (fun k => encItem (l.getD k zItem))) (fun a _ _ => (l.length - a).toNat) ?_ 0 n _ ⟨0, rfl, by omega, by simp, by rw [mid_zero]; exact tab_of l encItem zItem⟩
  rintro _ _ _ ⟨i, rfl, hi, rfl, rfl⟩
  conv => whnf
  split
  · rename_i h
    conv => whnf
    simp only [decide_eq_true_eq] at h
    have e0 : 0 + (i : Int).toNat = i := by simp
    have w : ∀ x : Int, 0 ≤ x → x < 20000000 → IntKind.i64.wrap x = x := fun x h1 h2 => wrap_in _ (by omega) (by omega)
    refine ⟨by omega, by omega, by simp [mid_length], ?_⟩
    conv => whnf
    refine ⟨_, mid_getD [] e0 (by omega), by simp [mid_length]; omega, ?_⟩
    conv => whnf
    refine .mk _ _ false Tryz.call20 (markText_ok _ (by simp (disch := omega) only [w]; omega) (by simp (disch := omega) only [w]; omega)) (Nat.le_of_ble_eq_true rfl) (.inl rfl) ?_
    conv => whnf
    refine ⟨by omega, by omega, by simp [mid_length], ?_⟩
    conv => whnf
    refine ⟨_, getD_set_self _ _ _ _ (by simp [mid_length]; omega), by simp [mid_length]; omega, ?_⟩
    conv => whnf
    refine ⟨by omega, by omega, by simp [mid_length], ?_⟩
    conv => whnf
    refine ⟨_, getD_set_self _ _ _ _ (by simp [mid_length]; omega), by simp [mid_length]; omega, ?_⟩
    conv => whnf
    refine .mk _ _ false Tryz.call20 (markText_ok _ (by simp (disch := omega) only [w]; omega) (by simp (disch := omega) only [w]; omega)) (Nat.le_of_ble_eq_true rfl) (.inl rfl) ?_
    conv => whnf
    refine ⟨by omega, by omega, by simp [mid_length], ?_⟩
    conv => whnf
    refine ⟨_, getD_set_self _ _ _ _ (by simp [mid_length]; omega), by simp [mid_length]; omega, ?_⟩
    conv => whnf
    refine ⟨_, _, _, rfl, rfl, ⟨i + 1, ?_, by omega, ?_, ?_⟩, ?_⟩
    · rw [w _ (by omega) (by omega)]; simp
    · simp (disch := omega) only [w]; omega
    · simp only [List.set_set]
      refine mid_set e0 ?_ (by omega)
      show ([.lit (.int .i64 (n + 4 * i)), .lit (.string (mtext _)), .lit (.int .i64 _), .lit (.string (mtext _))] : List PV) = _
      simp (disch := omega) only [w]
      simp only [encItem, mrowItem, Int.add_assoc]
      rfl
    · show (_ - IntKind.i64.wrap _).toNat < _
      rw [w _ (by omega) (by omega)]; omega
  · conv => whnf
    rename_i h
    simp at h
    obtain rfl : i = l.length := by omega
    refine ⟨trivial, ?_⟩
    conv => whnf
    exact ⟨rfl, by rw [mid_all]; rfl⟩
set_option maxHeartbeats 8000000 in
set_option maxRecDepth 100000 in
theorem heldItemS_ok (len : Nat) (n : Int) (hl : len < 1100000) (h0 : 0 ≤ n) (h1 : n < 10000000) : Good Tryz.prog 22 [.one (.p (.sl (tab len fun k => encItem (mrowItem (n + 4 * k))))), vint n] [] (vint (n + 4 * len)) [] := by
  refine good_e noM Tryz.func22 rfl rfl ?_
  conv => whnf
  refine VLoop.enter [0, 1, 5] ?_
  conv => whnf
  refine VLoop.ind2 (n0 := 0) (α := Int) (β := Int) noM [0, 1, 5] (fun a b => ⟨51, 0, [(0, .one (.p (.sl (tab len fun k => encItem (mrowItem (n + 4 * k)))))), (1, vint b), (5, vint a)], []⟩)
    (fun a b => ∃ i : Nat, a = i ∧ i ≤ len ∧ b = n + 4 * i) (fun a _ => (len - a).toNat) ?_ 0 n ⟨0, rfl, by omega, by simp⟩
  rintro _ _ ⟨i, rfl, hi, rfl⟩
  conv => whnf
  split
  · rename_i h
    simp [tab_length] at h
    have w : ∀ x : Int, 0 ≤ x → x < 20000000 → IntKind.i64.wrap x = x := fun x h1 h2 => wrap_in _ (by omega) (by omega)
    conv => whnf
    refine ⟨by omega, by simp [tab_length]; omega, _, tab_getD [] (by simp; omega), ?_⟩
    conv => whnf
    split
    · rename_i h; exfalso; simp (disch := omega) [w, mrowItem, Int.add_assoc] at h <;> omega
    conv => whnf
    refine VDraw.go ⟨_, [0, 0, 3, 7, 15, 0, 32, 127], [6], []⟩ rfl rfl (by decide +kernel) ?_
    conv => whnf
    refine ⟨by omega, by simp [tab_length]; omega, _, tab_getD [] (by simp; omega), ?_⟩
    conv => whnf
    refine .mk _ _ false Tryz.call20 (markText_ok _ (by simp (disch := omega) only [w]; omega) (by simp (disch := omega) only [w]; omega)) (Nat.le_of_ble_eq_true rfl) (.inl rfl) ?_
    conv => whnf
    split
    · rename_i h; exfalso; simp (disch := omega) [w, mrowItem, Int.add_assoc] at h <;> omega
    conv => whnf
    refine ⟨by omega, by simp [tab_length]; omega, _, tab_getD [] (by simp; omega), ?_⟩
    conv => whnf
    split
    · rename_i h; exfalso; simp (disch := omega) [w, mrowItem, Int.add_assoc] at h <;> omega
    conv => whnf
    refine VDraw.go ⟨_, [0, 0, 3, 7, 15, 0, 32, 127], [6], []⟩ rfl rfl (by decide +kernel) ?_
    conv => whnf
    refine ⟨by omega, by simp [tab_length]; omega, _, tab_getD [] (by simp; omega), ?_⟩
    conv => whnf
    refine .mk _ _ false Tryz.call20 (markText_ok _ (by simp (disch := omega) only [w]; omega) (by simp (disch := omega) only [w]; omega)) (Nat.le_of_ble_eq_true rfl) (.inl rfl) ?_
    conv => whnf
    split
    · rename_i h; exfalso; simp (disch := omega) [w, mrowItem, Int.add_assoc] at h <;> omega
    conv => whnf
    refine ⟨_, _, rfl, rfl, ⟨i + 1, ?_, by omega, ?_⟩, ?_⟩
    · rw [w _ (by omega) (by omega)]; simp
    · simp (disch := omega) only [w]; omega
    · show (_ - IntKind.i64.wrap _).toNat < _
      rw [w _ (by omega) (by omega)]; omega
  · rename_i h
    simp [tab_length] at h
    conv => whnf
    obtain rfl : i = len := by omega
    refine ⟨trivial, ?_⟩
    conv => whnf
    exact ⟨rfl, rfl⟩
end Go.Abs.C

set_option linter.unusedSimpArgs false
set_option linter.unusedVariables false
namespace Go.Abs.C
open Go Go.Abs Go.Proofs
/-! ### a catalogue, without the program -/
abbrev Is := List RItem
@[reducible] def enI := encItem
def inR (n lo hi : Int) : Bool := decide (lo ≤ n) && decide (n ≤ hi)
theorem inR_iff {n lo hi : Int} : inR n lo hi = true ↔ lo ≤ n ∧ n ≤ hi := by unfold inR; simp
def ia (l : Is) (i : Nat) : RItem := l.getD i zItem
theorem ia_lt {l : Is} {i : Nat} (h : i < l.length) : ia l i = l[i] := by unfold ia; rw [List.getD_eq_getElem?_getD, List.getElem?_eq_getElem h]; rfl
/-! texts in order -/
def bl (x y : ByteArray) : Bool := Op.bytesLess x.toList y.toList
theorem bless_irrefl : ∀ l, Op.bytesLess l l = false
  | [] => rfl
  | a :: l => by simp only [Op.bytesLess]; rw [bless_irrefl l]; simp
theorem bless_trans : ∀ a b c, Op.bytesLess a b = true → Op.bytesLess b c = true → Op.bytesLess a c = true
  | _, [], _, h, _ => by simp [Op.bytesLess] at h
  | _, _ :: _, [], _, h => by simp [Op.bytesLess] at h
  | [], _ :: _, _ :: _, _, _ => rfl
  | a :: x, b :: y, c :: z, h1, h2 => by
    simp only [Op.bytesLess, Bool.or_eq_true, decide_eq_true_eq, Bool.and_eq_true, beq_iff_eq] at h1 h2 ⊢
    rcases h1 with h1 | ⟨rfl, h1⟩
    · rcases h2 with h2 | ⟨rfl, h2⟩
      · exact .inl (UInt8.lt_trans h1 h2)
      · exact .inl h1
    · rcases h2 with h2 | ⟨rfl, h2⟩
      · exact .inl h2
      · exact .inr ⟨rfl, bless_trans x y z h1 h2⟩
theorem bless_tri : ∀ a b, Op.bytesLess a b = false → Op.bytesLess b a = false → a = b
  | [], [], _, _ => rfl
  | [], _ :: _, h, _ => by simp [Op.bytesLess] at h
  | _ :: _, [], _, h => by simp [Op.bytesLess] at h
  | a :: x, b :: y, h1, h2 => by
    simp only [Op.bytesLess, Bool.or_eq_false_iff, decide_eq_false_iff_not] at h1 h2
    have e : a = b := UInt8.le_antisymm (UInt8.not_lt.1 h2.1) (UInt8.not_lt.1 h1.1)
    subst e
    have := h1.2; have h3 := h2.2
    simp only [beq_self_eq_true, Bool.true_and] at this h3
    rw [bless_tri x y this h3]
theorem bl_tri {x y : ByteArray} (h1 : bl x y = false) (h2 : bl y x = false) : x.toList = y.toList := bless_tri _ _ h1 h2
/-- Does an item stand ahead of a house and a name? -/
def less (x : RItem) (h : Int) (n : ByteArray) : Bool := decide (x.a < h) || (x.a == h && bl x.b n)
theorem less_irrefl (x : RItem) : less x x.a x.b = false := by
  unfold less bl; rw [bless_irrefl]; simp
theorem less_trans {x y z : RItem} (h1 : less x y.a y.b = true) (h2 : less y z.a z.b = true) : less x z.a z.b = true := by
  unfold less bl at h1 h2 ⊢
  simp only [Bool.or_eq_true, decide_eq_true_eq, Bool.and_eq_true, beq_iff_eq] at h1 h2 ⊢
  rcases h1 with h1 | ⟨e1, h1⟩
  · rcases h2 with h2 | ⟨e2, h2⟩
    · exact .inl (by omega)
    · exact .inl (by omega)
  · rcases h2 with h2 | ⟨e2, h2⟩
    · exact .inl (by omega)
    · exact .inr ⟨e1.trans e2, bless_trans _ _ _ h1 h2⟩
theorem less_asymm {x y : RItem} (h : less x y.a y.b = true) : less y x.a x.b = false := by
  cases q : less y x.a x.b with
  | false => rfl
  | true => have := less_trans h q; rw [less_irrefl] at this; cases this
/-- The same house and the same name. -/
def same (x : RItem) (h : Int) (n : ByteArray) : Bool := x.a == h && x.b.toList == n.toList
theorem less_tri {x y : RItem} (h1 : less x y.a y.b = false) (h2 : less y x.a x.b = false) : same x y.a y.b = true := by
  unfold less at h1 h2
  simp only [Bool.or_eq_false_iff, decide_eq_false_iff_not] at h1 h2
  have e : x.a = y.a := by omega
  have h3 := h1.2; have h4 := h2.2
  rw [e] at h3 h4
  simp only [beq_self_eq_true, Bool.true_and] at h3 h4
  unfold same
  rw [e, bl_tri h3 h4]; simp
def bytesOf : Is → Int → Nat
  | [], _ => 0
  | x :: xs, h => (if x.a = h then x.d.size else 0) + bytesOf xs h
theorem bytesOf_app (h : Int) : ∀ (a b : Is), bytesOf (a ++ b) h = bytesOf a h + bytesOf b h
  | [], b => by simp [bytesOf]
  | x :: a, b => by simp only [List.cons_append, bytesOf, bytesOf_app h a b]; omega
theorem bytesOf_snoc (h : Int) (l : Is) (i : Nat) (hi : i < l.length) : bytesOf (l.take (i + 1)) h = bytesOf (l.take i) h + (if (ia l i).a = h then (ia l i).d.size else 0) := by
  rw [List.take_succ_eq_append_getElem hi, bytesOf_app, ← ia_lt hi]; simp [bytesOf]
theorem bytesOf_le (h : Int) (n : Nat) : ∀ (l : Is), (∀ x ∈ l, x.d.size ≤ n) → bytesOf l h ≤ l.length * n
  | [], _ => by simp [bytesOf]
  | x :: xs, hx => by
    have h1 := hx x (List.mem_cons_self ..)
    have h2 := bytesOf_le h n xs fun y hy => hx y (List.mem_cons_of_mem _ hy)
    simp only [bytesOf, List.length_cons, Nat.succ_mul]
    split <;> omega
def findI (p : RItem → Bool) (l : Is) : Int := match l.findIdx? p with
  | some i => i
  | none => -1
theorem findI_at {p : RItem → Bool} {l : Is} {i : Nat} (hi : i < l.length) (h0 : ∀ k, k < i → p (ia l k) = false) (h1 : p (ia l i) = true) : findI p l = i := by
  have : l.findIdx? p = some i := by
    rw [List.findIdx?_eq_some_iff_getElem]
    refine ⟨hi, by rw [← ia_lt hi]; exact h1, fun j hj => ?_⟩
    rw [← ia_lt (by omega), h0 j hj]; simp
  unfold findI; rw [this]
theorem findI_no {p : RItem → Bool} {l : Is} (h0 : ∀ k, k < l.length → p (ia l k) = false) : findI p l = -1 := by
  have : l.findIdx? p = none := by
    rw [List.findIdx?_eq_none_iff]
    intro x hx
    obtain ⟨k, hk, rfl⟩ := List.mem_iff_getElem.1 hx
    rw [← ia_lt hk]; exact h0 k hk
  unfold findI; rw [this]
theorem findI_pos {p : RItem → Bool} {l : Is} (h : 0 ≤ findI p l) : (findI p l).toNat < l.length ∧ p (ia l (findI p l).toNat) = true ∧ ∀ k, k < (findI p l).toNat → p (ia l k) = false := by
  unfold findI at h ⊢
  cases hq : l.findIdx? p with
  | none => simp [hq] at h
  | some j =>
    simp only [Int.toNat_natCast]
    rw [List.findIdx?_eq_some_iff_getElem] at hq
    obtain ⟨h1, h2, h3⟩ := hq
    refine ⟨h1, by rw [ia_lt h1]; exact h2, fun k hk => ?_⟩
    have := h3 k hk
    rw [ia_lt (by omega)]; simpa using this
theorem findI_neg {p : RItem → Bool} {l : Is} (h : findI p l < 0) : ∀ k, k < l.length → p (ia l k) = false := by
  unfold findI at h
  cases hq : l.findIdx? p with
  | some j => simp only [hq] at h; omega
  | none =>
    rw [List.findIdx?_eq_none_iff] at hq
    intro k hk
    rw [ia_lt hk]; exact hq _ (List.getElem_mem hk)
theorem findI_ge (p : RItem → Bool) (l : Is) : -1 ≤ findI p l := by unfold findI; split <;> omega
theorem findI_lt (p : RItem → Bool) (l : Is) : findI p l < l.length := by
  by_cases h : 0 ≤ findI p l
  · have := (findI_pos h).1; omega
  · omega
def nameOk (s : ByteArray) : Bool := (List.range s.size).all (fun i => decide (97 ≤ bt s i) && decide (bt s i ≤ 122)) && inR s.size 1 6
def itemOk (x : RItem) : Bool := inR x.a 0 1 && (nameOk x.b && inR x.d.size 1 300)
structure ItemAt (l : Is) (last : Int) (i : Nat) : Prop where
  ok : itemOk (ia l i) = true
  ed : inR (ia l i).c 1 last = true
  ord : 0 < i → less (ia l (i - 1)) (ia l i).a (ia l i).b = true
  new : ∀ k, k < i → (ia l k).c ≠ (ia l i).c
structure CatP (l : Is) (last : Int) : Prop where
  lst : inR last 0 99999 = true
  len : l.length ≤ 8
  at_ : ∀ i, i < l.length → ItemAt l last i
  b0 : bytesOf l 0 ≤ 500
  b1 : bytesOf l 1 ≤ 500
noncomputable def catOk (l : Is) (last : Int) : Bool := @decide (CatP l last) (Classical.propDecidable _)
theorem catOk_true {l : Is} {last : Int} (p : CatP l last) : catOk l last = true := by unfold catOk; exact @decide_eq_true _ (Classical.propDecidable _) p
theorem catOk_false {l : Is} {last : Int} (p : ¬ CatP l last) : catOk l last = false := by unfold catOk; exact @decide_eq_false _ (Classical.propDecidable _) p
theorem catOk_of {l : Is} {last : Int} (p : catOk l last = true) : CatP l last := by unfold catOk at p; exact @of_decide_eq_true _ (Classical.propDecidable _) p
theorem CatP.small {l : Is} {last : Int} (p : CatP l last) : ∀ x ∈ l, x.d.size ≤ 300 := by
  intro x hx
  obtain ⟨k, hk, rfl⟩ := List.mem_iff_getElem.1 hx
  have := (p.at_ k hk).ok
  rw [ia_lt hk] at this
  unfold itemOk at this
  simp only [Bool.and_eq_true] at this
  have := (inR_iff.1 this.2.2).2
  omega
/-- All that stands ahead is less. -/
theorem CatP.sorted {l : Is} {last : Int} (p : CatP l last) : ∀ {j i : Nat}, j < i → i < l.length → less (ia l j) (ia l i).a (ia l i).b = true := by
  intro j i hj
  induction i with
  | zero => omega
  | succ i ih =>
    intro hi
    have h1 := (p.at_ (i + 1) hi).ord (by omega)
    rw [Nat.add_sub_cancel] at h1
    by_cases e : j = i
    · rw [e]; exact h1
    · exact less_trans (ih (by omega) (by omega)) h1
/-- A thing put in at a place. -/
def putAt (l : Is) (k : Nat) (t : RItem) : Is := l.take k ++ t :: l.drop k
theorem putAt_len {l : Is} {k : Nat} {t : RItem} (h : k ≤ l.length) : (putAt l k t).length = l.length + 1 := by
  unfold putAt; rw [List.length_append, List.length_cons, List.length_take, List.length_drop]; omega
theorem ia_putAt {l : Is} {k : Nat} {t : RItem} (h : k ≤ l.length) (i : Nat) : ia (putAt l k t) i = if i < k then ia l i else if i = k then t else ia l (i - 1) := by
  unfold ia putAt
  have hk : (l.take k).length = k := by rw [List.length_take]; omega
  rw [List.getD_eq_getElem?_getD]
  by_cases h1 : i < k
  · rw [if_pos h1, List.getElem?_append_left (by omega), List.getElem?_take, if_pos h1, List.getD_eq_getElem?_getD]
  · rw [if_neg h1, List.getElem?_append_right (by omega), hk]
    by_cases h2 : i = k
    · rw [if_pos h2, h2, Nat.sub_self]; rfl
    · rw [if_neg h2, show i - k = (i - 1 - k) + 1 by omega, List.getElem?_cons_succ, List.getElem?_drop, show k + (i - 1 - k) = i - 1 by omega, List.getD_eq_getElem?_getD]
def kOf (l : Is) (h : Int) (n : ByteArray) : Nat := (l.takeWhile fun x => less x h n).length
theorem kOf_eq (h : Int) (n : ByteArray) : ∀ {l : Is} {k : Nat}, k ≤ l.length → (∀ j, j < k → less (ia l j) h n = true) → (k < l.length → less (ia l k) h n = false) → k = kOf l h n
  | [], k, hk, _, _ => by simp [kOf] at hk ⊢; omega
  | x :: xs, 0, _, _, h2 => by
    have := h2 (by simp)
    unfold kOf
    rw [List.takeWhile_cons, show less x h n = false from this]; rfl
  | x :: xs, k + 1, hk, h1, h2 => by
    have h0 := h1 0 (by omega)
    have ih := kOf_eq h n (l := xs) (k := k) (by simpa using hk) (fun j hj => h1 (j + 1) (by omega)) (fun q => h2 (by simpa using q))
    unfold kOf at ih ⊢
    rw [List.takeWhile_cons, show less x h n = true from h0]
    simp only [if_true, List.length_cons]; omega
theorem kOf_le (l : Is) (h : Int) (n : ByteArray) : kOf l h n ≤ l.length := List.IsPrefix.length_le (List.takeWhile_prefix _)
theorem kOf_spec (h : Int) (n : ByteArray) : ∀ (l : Is), (∀ j, j < kOf l h n → less (ia l j) h n = true) ∧ (kOf l h n < l.length → less (ia l (kOf l h n)) h n = false)
  | [] => by unfold kOf; simp
  | x :: xs => by
    have ih := kOf_spec h n xs
    cases q : less x h n with
    | true =>
      have e : kOf (x :: xs) h n = kOf xs h n + 1 := by unfold kOf; rw [List.takeWhile_cons, q]; simp
      rw [e]
      refine ⟨fun j hj => ?_, fun hl => ?_⟩
      · cases j with
        | zero => exact q
        | succ j => exact ih.1 j (by omega)
      · exact ih.2 (by simpa using hl)
    | false =>
      have e : kOf (x :: xs) h n = 0 := by unfold kOf; rw [List.takeWhile_cons, q]; simp
      rw [e]
      exact ⟨fun j hj => by omega, fun _ => q⟩
theorem bytesOf_putAt {l : Is} {k : Nat} {t : RItem} (h : Int) : bytesOf (putAt l k t) h = bytesOf l h + (if t.a = h then t.d.size else 0) := by
  unfold putAt
  have : bytesOf l h = bytesOf (l.take k) h + bytesOf (l.drop k) h := by rw [← bytesOf_app, List.take_append_drop]
  rw [bytesOf_app, this]; simp only [bytesOf]; omega
theorem put_keeps {l : Is} {last : Int} (p : CatP l last) {t : RItem} (hok : itemOk t = true) (hf : ∀ k, k < l.length → same (ia l k) t.a t.b = false) (hlen : l.length < 8) (hlast : last < 99999) (hb : bytesOf l t.a + t.d.size ≤ 500) (hc : t.c = last + 1) :
    CatP (putAt l (kOf l t.a t.b) t) (last + 1) := by
  have hk := kOf_le l t.a t.b
  obtain ⟨s1, s2⟩ := kOf_spec t.a t.b l
  generalize kOf l t.a t.b = k at hk s1 s2 ⊢
  have hl0 := inR_iff.1 p.lst
  have s3 : k < l.length → less t (ia l k).a (ia l k).b = true := by
    intro hkl
    cases q : less t (ia l k).a (ia l k).b with
    | true => rfl
    | false =>
      have := less_tri (s2 hkl) q
      rw [hf k hkl] at this; cases this
  have hi := ia_putAt (t := t) hk
  refine ⟨inR_iff.2 (by omega), by rw [putAt_len hk]; omega, fun i hil => ?_, ?_, ?_⟩
  · rw [putAt_len hk] at hil
    refine ⟨?_, ?_, fun h0 => ?_, fun j hj => ?_⟩
    · rw [hi]
      split
      · exact (p.at_ i (by omega)).ok
      · split
        · exact hok
        · exact (p.at_ (i - 1) (by omega)).ok
    · rw [hi]
      split
      · have := inR_iff.1 (p.at_ i (by omega)).ed; exact inR_iff.2 (by omega)
      · split
        · exact inR_iff.2 (by omega)
        · have := inR_iff.1 (p.at_ (i - 1) (by omega)).ed; exact inR_iff.2 (by omega)
    · rw [hi, hi]
      by_cases q1 : i < k
      · rw [if_pos (show i - 1 < k by omega), if_pos q1]
        exact (p.at_ i (by omega)).ord h0
      · by_cases q2 : i = k
        · rw [if_pos (show i - 1 < k by omega), if_neg q1, if_pos q2]
          exact s1 _ (by omega)
        · rw [if_neg q1, if_neg q2]
          by_cases q3 : i - 1 = k
          · rw [if_neg (show ¬ i - 1 < k by omega), if_pos q3, q3]
            exact s3 (by omega)
          · rw [if_neg (show ¬ i - 1 < k by omega), if_neg q3]
            exact (p.at_ (i - 1) (by omega)).ord (by omega)
    · have hc' : ∀ j, j < l.length → (ia l j).c ≠ t.c := by
        intro j hj
        have := inR_iff.1 (p.at_ j hj).ed
        omega
      rw [hi, hi]
      by_cases q1 : i < k
      · rw [if_pos (show j < k by omega), if_pos q1]
        exact (p.at_ i (by omega)).new j hj
      · by_cases q2 : i = k
        · rw [if_neg q1, if_pos q2, if_pos (show j < k by omega)]
          exact hc' j (by omega)
        · rw [if_neg q1, if_neg q2]
          by_cases q3 : j < k
          · rw [if_pos q3]; exact (p.at_ (i - 1) (by omega)).new j (by omega)
          · rw [if_neg q3]
            by_cases q4 : j = k
            · rw [if_pos q4]; exact fun e => hc' (i - 1) (by omega) e.symm
            · rw [if_neg q4]; exact (p.at_ (i - 1) (by omega)).new (j - 1) (by omega)
  · rw [bytesOf_putAt]; have := p.b0; split
    · rename_i e; rw [e] at hb; omega
    · omega
  · rw [bytesOf_putAt]; have := p.b1; split
    · rename_i e; rw [e] at hb; omega
    · omega
/-- A thing taken out at a place. -/
def delAt (l : Is) (k : Nat) : Is := l.take k ++ l.drop (k + 1)
theorem delAt_len {l : Is} {k : Nat} (h : k < l.length) : (delAt l k).length = l.length - 1 := by
  unfold delAt; rw [List.length_append, List.length_take, List.length_drop]; omega
theorem ia_delAt {l : Is} {k : Nat} (h : k < l.length) (i : Nat) : ia (delAt l k) i = if i < k then ia l i else ia l (i + 1) := by
  unfold ia delAt
  have hk : (l.take k).length = k := by rw [List.length_take]; omega
  rw [List.getD_eq_getElem?_getD]
  by_cases h1 : i < k
  · rw [if_pos h1, List.getElem?_append_left (by omega), List.getElem?_take, if_pos h1, List.getD_eq_getElem?_getD]
  · rw [if_neg h1, List.getElem?_append_right (by omega), hk, List.getElem?_drop, show k + 1 + (i - k) = i + 1 by omega, List.getD_eq_getElem?_getD]
theorem bytesOf_delAt {l : Is} {k : Nat} (h : Int) : bytesOf (delAt l k) h ≤ bytesOf l h := by
  unfold delAt
  have : bytesOf l h = bytesOf (l.take k) h + bytesOf (l.drop k) h := by rw [← bytesOf_app, List.take_append_drop]
  have h2 : bytesOf (l.drop (k + 1)) h ≤ bytesOf (l.drop k) h := by
    rw [← List.tail_drop]
    cases l.drop k with
    | nil => exact Nat.le_refl _
    | cons x xs => simp only [List.tail_cons, bytesOf]; omega
  rw [bytesOf_app, this]; omega
theorem del_keeps {l : Is} {last : Int} (p : CatP l last) {k : Nat} (hk : k < l.length) : CatP (delAt l k) last := by
  have hi := ia_delAt hk
  refine ⟨p.lst, by rw [delAt_len hk]; have := p.len; omega, fun i hil => ?_, Nat.le_trans (bytesOf_delAt 0) p.b0, Nat.le_trans (bytesOf_delAt 1) p.b1⟩
  rw [delAt_len hk] at hil
  refine ⟨?_, ?_, fun h0 => ?_, fun j hj => ?_⟩
  · rw [hi]; split
    · exact (p.at_ i (by omega)).ok
    · exact (p.at_ (i + 1) (by omega)).ok
  · rw [hi]; split
    · exact (p.at_ i (by omega)).ed
    · exact (p.at_ (i + 1) (by omega)).ed
  · rw [hi, hi]
    exact (by
      by_cases q1 : i < k
      · rw [if_pos q1, if_pos (show i - 1 < k by omega)]; exact p.sorted (by omega) (by omega)
      · rw [if_neg q1]
        by_cases q2 : i - 1 < k
        · rw [if_pos q2]; exact p.sorted (by omega) (by omega)
        · rw [if_neg q2]; exact p.sorted (by omega) (by omega))
  · rw [hi, hi]
    by_cases q1 : i < k
    · rw [if_pos q1, if_pos (show j < k by omega)]; exact (p.at_ i (by omega)).new j hj
    · rw [if_neg q1]
      by_cases q2 : j < k
      · rw [if_pos q2]; exact (p.at_ (i + 1) (by omega)).new j (by omega)
      · rw [if_neg q2]; exact (p.at_ (i + 1) (by omega)).new (j + 1) (by omega)
theorem same_less {x : RItem} {h : Int} {n : ByteArray} (h1 : less x h n = true) : same x h n = false := by
  cases q : same x h n with
  | false => rfl
  | true =>
    unfold same at q
    simp only [Bool.and_eq_true, beq_iff_eq] at q
    unfold less bl at h1
    rw [q.1, q.2, bless_irrefl] at h1
    simp at h1
theorem same_self (x : RItem) : same x x.a x.b = true := by unfold same; simp
theorem find_self {l : Is} {last : Int} (p : CatP l last) {j : Nat} (hj : j < l.length) : findI (fun x => same x (ia l j).a (ia l j).b) l = j :=
  findI_at hj (fun k hk => same_less (p.sorted hk hj)) (same_self _)
theorem edit_self {l : Is} {last : Int} (p : CatP l last) {j : Nat} (hj : j < l.length) : findI (fun x => x.c == (ia l j).c) l = j :=
  findI_at hj (fun k hk => by rw [beq_eq_false_iff_ne]; exact (p.at_ j hj).new k hk) (by simp)
def putC (l : Is) (last h : Int) (n t : ByteArray) : Is × Int × Int := match itemOk ⟨h, n, 0, t⟩ with
  | false => (l, last, 1)
  | true => match decide (findI (fun x => same x h n) l ≥ 0) with
    | true => (l, last, 2)
    | false => match decide (l.length ≥ 8) || (decide (last ≥ 99999) || decide (bytesOf l h + t.size > 500)) with
      | true => (l, last, 4)
      | false => (putAt l (kOf l h n) ⟨h, n, last + 1, t⟩, last + 1, 0)
def takeC (l : Is) (last h : Int) (n : ByteArray) : Is × Int × Int := match decide (findI (fun x => same x h n) l < 0) with
  | true => (l, last, 3)
  | false => (delAt l (findI (fun x => same x h n) l).toNat, last, 0)
/-- What a put that went well leaves. -/
structure Putted (l : Is) (last h : Int) (n t : ByteArray) (T : Is × Int × Int) : Prop where
  ok : CatP T.1 (last + 1)
  lst : T.2.1 = last + 1
  len : T.1.length = l.length + 1
  k : ∃ k, k ≤ l.length ∧ T.1 = putAt l k ⟨h, n, last + 1, t⟩
  nope : ∀ k, k < l.length → same (ia l k) h n = false
  it : itemOk ⟨h, n, 0, t⟩ = true
theorem putC_good {l : Is} {last h : Int} {n t : ByteArray} (p : CatP l last) (hc : (putC l last h n t).2.2 = 0) : Putted l last h n t (putC l last h n t) := by
  unfold putC at hc ⊢
  split at hc
  · simp at hc
  · rename_i g1
    split at hc
    · simp at hc
    · rename_i g2
      split at hc
      · simp at hc
      · rename_i g3
        simp only [Bool.or_eq_false_iff, decide_eq_false_iff_not] at g3
        have g2' := of_decide_eq_false g2
        have hno := findI_neg (p := fun x => same x h n) (l := l) (by omega)
        have hk := kOf_le l h n
        refine ⟨?_, rfl, putAt_len hk, ⟨_, hk, rfl⟩, hno, g1⟩
        exact put_keeps (t := ⟨h, n, last + 1, t⟩) p g1 hno (by omega) (by omega) (by show bytesOf l h + t.size ≤ 500; omega) rfl
theorem putC_bad {l : Is} {last h : Int} {n t : ByteArray} (hc : (putC l last h n t).2.2 ≠ 0) : putC l last h n t = (l, last, (putC l last h n t).2.2) ∧ 1 ≤ (putC l last h n t).2.2 ∧ (putC l last h n t).2.2 ≤ 4 := by
  unfold putC at hc ⊢
  split
  · exact ⟨rfl, by simp⟩
  · rename_i g1
    simp only [g1] at hc
    split
    · exact ⟨rfl, by simp⟩
    · rename_i g2
      simp only [g2] at hc
      split
      · exact ⟨rfl, by simp⟩
      · rename_i g3; simp only [g3] at hc; exact absurd rfl hc
theorem putC_keeps {l : Is} {last h : Int} {n t : ByteArray} (p : CatP l last) : CatP (putC l last h n t).1 (putC l last h n t).2.1 := by
  by_cases hc : (putC l last h n t).2.2 = 0
  · have := putC_good p hc; rw [this.lst]; exact this.ok
  · have := (putC_bad hc).1; rw [this]; exact p
theorem takeC_keeps {l : Is} {last h : Int} {n : ByteArray} (p : CatP l last) : CatP (takeC l last h n).1 (takeC l last h n).2.1 := by
  unfold takeC
  split
  · exact p
  · rename_i g
    exact del_keeps p (findI_pos (by have := of_decide_eq_false g; omega)).1
end Go.Abs.C

set_option linter.unusedSimpArgs false
set_option linter.unusedVariables false
namespace Go.Abs.C
open Go Go.Abs Go.Proofs
attribute [local irreducible] IntKind.wrap
@[reducible] def cat (l : Is) (last : Int) : AV := .agg [.p (.lit (.int .i64 last)), .p (.sl (l.map encItem))]
theorem ia_at (l : Is) {j i : Nat} (e : j = i) (h : i < l.length) : (l.map encItem).getD j [] = encItem (ia l i) := by rw [e]; exact getD_map encItem l _ zItem h
theorem wi (x : Int) (h1 : -100000000 ≤ x) (h2 : x < 2000000000) : IntKind.i64.wrap x = x := wrap_in _ (by omega) (by omega)
set_option maxHeartbeats 4000000 in
set_option maxRecDepth 100000 in
theorem within_ok (n lo hi : Int) : Good Tryz.prog 27 [vint n, vint lo, vint hi] [] (vbool (inR n lo hi)) [] := by
  refine good_e noM Tryz.func27 rfl rfl ?_
  conv => whnf
  split
  all_goals
    rename_i h
    unfold inR
    rw [h]
    conv => whnf
    refine ⟨trivial, ?_⟩
    conv => whnf
    exact ⟨rfl, rfl⟩
set_option maxHeartbeats 4000000 in
set_option maxRecDepth 100000 in
theorem l1In_ok (n lo hi : Int) : Good Tryz.prog 52 [vint n, vint lo, vint hi] [] (vbool (inR n lo hi)) [] := by
  refine good_e noM Tryz.func52 rfl rfl ?_
  conv => whnf
  split
  all_goals
    rename_i h
    unfold inR
    rw [h]
    conv => whnf
    refine ⟨trivial, ?_⟩
    conv => whnf
    exact ⟨rfl, rfl⟩
set_option maxHeartbeats 4000000 in
set_option maxRecDepth 100000 in
theorem house_ok (n : Int) : Good Tryz.prog 45 [vint n] [] (vbool (inR n 0 1)) [] := by
  refine good_e noM Tryz.func45 rfl rfl ?_
  conv => whnf
  refine .mk _ _ false Tryz.call27 (within_ok _ _ _) (Nat.le_of_ble_eq_true rfl) (.inl rfl) ?_
  conv => whnf
  refine ⟨trivial, ?_⟩
  conv => whnf
  exact ⟨rfl, rfl⟩
def letterAt (s : ByteArray) (i : Nat) : Bool := decide (97 ≤ bt s i) && decide (bt s i ≤ 122)
theorem nameOk_no {s : ByteArray} {i : Nat} (hi : i < s.size) (h : letterAt s i = false) : nameOk s = false := by
  unfold nameOk
  have : (List.range s.size).all (fun i => decide (97 ≤ bt s i) && decide (bt s i ≤ 122)) = false := by
    rw [List.all_eq_false]
    exact ⟨i, List.mem_range.2 hi, by unfold letterAt at h; rw [h]; simp⟩
  rw [this]; rfl
theorem nameOk_yes {s : ByteArray} (h : ∀ i, i < s.size → letterAt s i = true) : nameOk s = inR s.size 1 6 := by
  unfold nameOk
  have : (List.range s.size).all (fun i => decide (97 ≤ bt s i) && decide (bt s i ≤ 122)) = true := by
    rw [List.all_eq_true]
    exact fun i hi => h i (List.mem_range.1 hi)
  rw [this]; rfl
set_option maxHeartbeats 4000000 in
set_option maxRecDepth 100000 in
theorem implName_ok (s : ByteArray) (hs : s.size ≤ 9223372036854775807) : Good Tryz.prog 46 [vstr s] [] (vbool (nameOk s)) [] := by
  refine good_e noM Tryz.func46 rfl rfl ?_
  conv => whnf
  refine VLoop.enter [0, 5, 6] ?_
  conv => whnf
  refine VLoop.ind1 (n0 := 0) (α := Int) noM [0, 5, 6] (fun a => ⟨23, 0, [(0, vstr s), (5, vint s.size), (6, vint a)], []⟩)
    (fun a => ∃ i : Nat, a = i ∧ i ≤ s.size ∧ ∀ k, k < i → letterAt s k = true) (fun a => ((s.size : Int) - a).toNat) ?_ 0 ⟨0, rfl, by omega, fun k hk => by omega⟩
  rintro _ ⟨i, rfl, hi, hl⟩
  conv => whnf
  split
  · rename_i q
    have q' := of_decide_eq_true q
    have hw : IntKind.i64.wrap ((i : Int) + 1) = i + 1 := wrap_in _ (by omega) (by omega)
    have en : (i : Int).toNat = i := Int.toNat_natCast i
    conv => whnf
    refine ⟨by omega, by omega, ?_⟩
    conv => whnf
    split
    · rename_i k1
      have k1' := of_decide_eq_true k1
      rw [en] at k1'
      conv => whnf
      refine ⟨trivial, ?_⟩
      conv => whnf
      rw [nameOk_no (i := i) (by omega) (by unfold letterAt; rw [decide_eq_false (by omega)]; rfl)]
      exact ⟨rfl, rfl⟩
    · rename_i k1
      have k1' := of_decide_eq_false k1
      rw [en] at k1'
      conv => whnf
      refine ⟨by omega, by omega, ?_⟩
      conv => whnf
      split
      · rename_i k2
        have k2' := of_decide_eq_true k2
        rw [en] at k2'
        conv => whnf
        refine ⟨trivial, ?_⟩
        conv => whnf
        rw [nameOk_no (i := i) (by omega) (by unfold letterAt; rw [decide_eq_false (p := bt s i ≤ 122) (by omega), Bool.and_false])]
        exact ⟨rfl, rfl⟩
      · rename_i k2
        have k2' := of_decide_eq_false k2
        rw [en] at k2'
        conv => whnf
        refine ⟨_, rfl, rfl, ⟨i + 1, by rw [hw]; simp, by omega, fun k hk => ?_⟩, by rw [hw]; omega⟩
        by_cases e : k = i
        · subst e; unfold letterAt; rw [decide_eq_true (by omega), decide_eq_true (by omega)]; rfl
        · exact hl k (by omega)
  · rename_i q
    have q' := of_decide_eq_false q
    conv => whnf
    refine .mk _ _ false Tryz.call27 (within_ok _ _ _) (Nat.le_of_ble_eq_true rfl) (.inl rfl) ?_
    conv => whnf
    refine ⟨trivial, ?_⟩
    conv => whnf
    rw [nameOk_yes fun k hk => hl k (by omega)]
    exact ⟨rfl, rfl⟩
set_option maxHeartbeats 4000000 in
set_option maxRecDepth 100000 in
theorem specName_ok (s : ByteArray) (hs : s.size ≤ 9223372036854775807) : Good Tryz.prog 66 [vstr s] [] (vbool (nameOk s)) [] := by
  refine good_e noM Tryz.func66 rfl rfl ?_
  conv => whnf
  refine VLoop.enter [0, 3] ?_
  conv => whnf
  refine VLoop.ind1 (n0 := 0) (α := Int) noM [0, 3] (fun a => ⟨23, 0, [(0, vstr s), (3, vint a)], []⟩)
    (fun a => ∃ i : Nat, a = i ∧ i ≤ s.size ∧ ∀ k, k < i → letterAt s k = true) (fun a => ((s.size : Int) - a).toNat) ?_ 0 ⟨0, rfl, by omega, fun k hk => by omega⟩
  rintro _ ⟨i, rfl, hi, hl⟩
  conv => whnf
  split
  · rename_i q
    have q' := of_decide_eq_true q
    have hw : IntKind.i64.wrap ((i : Int) + 1) = i + 1 := wrap_in _ (by omega) (by omega)
    have en : (i : Int).toNat = i := Int.toNat_natCast i
    conv => whnf
    refine ⟨by omega, by omega, ?_⟩
    conv => whnf
    split
    · rename_i k1
      have k1' := of_decide_eq_true k1
      rw [en] at k1'
      conv => whnf
      refine ⟨trivial, ?_⟩
      conv => whnf
      rw [nameOk_no (i := i) (by omega) (by unfold letterAt; rw [decide_eq_false (by omega)]; rfl)]
      exact ⟨rfl, rfl⟩
    · rename_i k1
      have k1' := of_decide_eq_false k1
      rw [en] at k1'
      conv => whnf
      refine ⟨by omega, by omega, ?_⟩
      conv => whnf
      split
      · rename_i k2
        have k2' := of_decide_eq_true k2
        rw [en] at k2'
        conv => whnf
        refine ⟨trivial, ?_⟩
        conv => whnf
        rw [nameOk_no (i := i) (by omega) (by unfold letterAt; rw [decide_eq_false (p := bt s i ≤ 122) (by omega), Bool.and_false])]
        exact ⟨rfl, rfl⟩
      · rename_i k2
        have k2' := of_decide_eq_false k2
        rw [en] at k2'
        conv => whnf
        refine ⟨_, rfl, rfl, ⟨i + 1, by rw [hw]; simp, by omega, fun k hk => ?_⟩, by rw [hw]; omega⟩
        by_cases e : k = i
        · subst e; unfold letterAt; rw [decide_eq_true (by omega), decide_eq_true (by omega)]; rfl
        · exact hl k (by omega)
  · rename_i q
    have q' := of_decide_eq_false q
    conv => whnf
    refine .mk _ _ false Tryz.call52 (l1In_ok _ _ _) (Nat.le_of_ble_eq_true rfl) (.inl rfl) ?_
    conv => whnf
    refine ⟨trivial, ?_⟩
    conv => whnf
    rw [nameOk_yes fun k hk => hl k (by omega)]
    exact ⟨rfl, rfl⟩
set_option maxHeartbeats 4000000 in
set_option maxRecDepth 100000 in
theorem publ_ok (x : RItem) (hs : x.b.size ≤ 9223372036854775807) : Good Tryz.prog 28 [vint x.a, vstr x.b, vstr x.d] [] (vbool (itemOk x)) [] := by
  refine good_e noM Tryz.func28 rfl rfl ?_
  unfold itemOk
  conv => whnf
  refine .mk _ _ false Tryz.call45 (house_ok _) (Nat.le_of_ble_eq_true rfl) (.inl rfl) ?_
  conv => whnf
  cases inR x.a 0 1 with
  | false =>
    conv => whnf
    refine ⟨trivial, ?_⟩
    conv => whnf
    exact ⟨rfl, rfl⟩
  | true =>
    conv => whnf
    refine .mk _ _ false Tryz.call46 (implName_ok _ hs) (Nat.le_of_ble_eq_true rfl) (.inl rfl) ?_
    conv => whnf
    cases nameOk x.b with
    | false =>
      conv => whnf
      refine ⟨trivial, ?_⟩
      conv => whnf
      exact ⟨rfl, rfl⟩
    | true =>
      conv => whnf
      refine .mk _ _ false Tryz.call27 (within_ok _ _ _) (Nat.le_of_ble_eq_true rfl) (.inl rfl) ?_
      conv => whnf
      refine ⟨trivial, ?_⟩
      conv => whnf
      exact ⟨rfl, rfl⟩
set_option maxHeartbeats 4000000 in
set_option maxRecDepth 100000 in
theorem l9Ok_ok (x : RItem) (hs : x.b.size ≤ 9223372036854775807) : Good Tryz.prog 43 [.agg ((encItem x).map .p)] [] (vbool (itemOk x)) [] := by
  refine good_e noM Tryz.func43 rfl rfl ?_
  unfold itemOk
  conv => whnf
  refine .mk _ _ false Tryz.call52 (l1In_ok _ _ _) (Nat.le_of_ble_eq_true rfl) (.inl rfl) ?_
  conv => whnf
  cases inR x.a 0 1 with
  | false =>
    conv => whnf
    refine ⟨trivial, ?_⟩
    conv => whnf
    exact ⟨rfl, rfl⟩
  | true =>
    conv => whnf
    refine .mk _ _ false Tryz.call66 (specName_ok _ hs) (Nat.le_of_ble_eq_true rfl) (.inl rfl) ?_
    conv => whnf
    cases nameOk x.b with
    | false =>
      conv => whnf
      refine ⟨trivial, ?_⟩
      conv => whnf
      exact ⟨rfl, rfl⟩
    | true =>
      conv => whnf
      refine .mk _ _ false Tryz.call52 (l1In_ok _ _ _) (Nat.le_of_ble_eq_true rfl) (.inl rfl) ?_
      conv => whnf
      refine ⟨trivial, ?_⟩
      conv => whnf
      exact ⟨rfl, rfl⟩
set_option maxHeartbeats 4000000 in
set_option maxRecDepth 100000 in
theorem l9Less_ok (x : RItem) (h : Int) (n : ByteArray) : Good Tryz.prog 69 [.agg ((encItem x).map .p), vint h, vstr n] [] (vbool (less x h n)) [] := by
  refine good_e noM Tryz.func69 rfl rfl ?_
  unfold less
  conv => whnf
  split
  · rename_i q
    rw [q]
    conv => whnf
    refine ⟨trivial, ?_⟩
    conv => whnf
    exact ⟨rfl, rfl⟩
  · rename_i q
    rw [q]
    conv => whnf
    split
    · rename_i q2
      rw [q2]
      conv => whnf
      refine ⟨trivial, ?_⟩
      conv => whnf
      exact ⟨rfl, rfl⟩
    · rename_i q2
      rw [q2]
      conv => whnf
      refine ⟨trivial, ?_⟩
      conv => whnf
      exact ⟨rfl, rfl⟩
end Go.Abs.C

set_option linter.unusedSimpArgs false
set_option linter.unusedVariables false
namespace Go.Abs.C
open Go Go.Abs Go.Proofs
attribute [local irreducible] IntKind.wrap
set_option maxHeartbeats 4000000 in
set_option maxRecDepth 100000 in
theorem l9Bytes_ok (l : Is) (h : Int) (hl : l.length < 1000) (hs : ∀ x ∈ l, x.d.size ≤ 1000) : Good Tryz.prog 57 [.one (.p (.sl (l.map encItem))), vint h] [] (vint (bytesOf l h)) [] := by
  have hle : ∀ i, bytesOf (l.take i) h ≤ 1000000 := fun i => by
    have := bytesOf_le h 1000 (l.take i) fun x hx => hs x (List.mem_of_mem_take hx)
    have h2 := List.length_take_le i l
    have : (l.take i).length * 1000 ≤ 1000 * 1000 := Nat.mul_le_mul_right _ (by rw [List.length_take]; omega)
    omega
  refine good_e noM Tryz.func57 rfl rfl ?_
  conv => whnf
  refine VLoop.enter [0, 1, 5, 6] ?_
  conv => whnf
  refine VLoop.ind2 (n0 := 0) (α := Int) (β := Int) noM [0, 1, 5, 6] (fun a b => ⟨29, 0, [(0, .one (.p (.sl (l.map encItem)))), (1, vint h), (5, vint b), (6, vint a)], []⟩)
    (fun a b => ∃ i : Nat, a = i ∧ i ≤ l.length ∧ b = bytesOf (l.take i) h) (fun a _ => ((l.length : Int) - a).toNat) ?_ 0 0 ⟨0, rfl, by omega, by simp [bytesOf]⟩
  rintro _ _ ⟨i, rfl, hi, rfl⟩
  have hm : (l.map encItem).length = l.length := by rw [List.length_map]
  conv => whnf
  split
  · rename_i q
    have q' := of_decide_eq_true q
    have hil : i < l.length := by omega
    have en : (i : Int).toNat = i := Int.toNat_natCast i
    have hw : IntKind.i64.wrap ((i : Int) + 1) = i + 1 := wi _ (by omega) (by omega)
    have hsn := bytesOf_snoc h l i hil
    have h1 := hle i
    have h2 := hle (i + 1)
    conv => whnf
    refine ⟨by omega, by omega, _, ia_at l en hil, ?_⟩
    conv => whnf
    split
    · rename_i q2
      simp only [beq_iff_eq] at q2
      rw [if_pos q2] at hsn
      conv => whnf
      refine ⟨by omega, by omega, _, ia_at l en hil, ?_⟩
      conv => whnf
      refine ⟨_, _, rfl, rfl, ⟨i + 1, by rw [hw]; simp, by omega, ?_⟩, by rw [hw]; omega⟩
      rw [wi _ (by omega) (by omega), hsn]; simp
    · rename_i q2
      simp only [beq_eq_false_iff_ne] at q2
      rw [if_neg q2] at hsn
      conv => whnf
      exact ⟨_, _, rfl, rfl, ⟨i + 1, by rw [hw]; simp, by omega, by rw [hsn]; simp⟩, by rw [hw]; omega⟩
  · rename_i q
    have q' := of_decide_eq_false q
    conv => whnf
    refine ⟨trivial, ?_⟩
    conv => whnf
    rw [List.take_of_length_le (by omega)]
    exact ⟨rfl, rfl⟩
set_option maxHeartbeats 4000000 in
set_option maxRecDepth 100000 in
theorem bytes_ok (l : Is) (last h : Int) (hl : l.length < 1000) (hs : ∀ x ∈ l, x.d.size ≤ 1000) : Good Tryz.prog 31 [cat l last, vint h] [] (vint (bytesOf l h)) [] := by
  have hle : ∀ i, bytesOf (l.take i) h ≤ 1000000 := fun i => by
    have := bytesOf_le h 1000 (l.take i) fun x hx => hs x (List.mem_of_mem_take hx)
    have h2 := List.length_take_le i l
    have : (l.take i).length * 1000 ≤ 1000 * 1000 := Nat.mul_le_mul_right _ (by rw [List.length_take]; omega)
    omega
  refine good_e noM Tryz.func31 rfl rfl ?_
  conv => whnf
  refine VLoop.enter [1, 5, 9, 10, 11] ?_
  conv => whnf
  refine VLoop.ind2 (n0 := 0) (α := Int) (β := Int) noM [1, 5, 9, 10, 11] (fun a b => ⟨26, 0, [(1, vint h), (5, vint b), (9, .one (.p (.sl (l.map encItem)))), (10, vint (l.map encItem).length), (11, vint a)], []⟩)
    (fun a b => ∃ i : Nat, a = i ∧ i ≤ l.length ∧ b = bytesOf (l.take i) h) (fun a _ => ((l.length : Int) - a).toNat) ?_ 0 0 ⟨0, rfl, by omega, by simp [bytesOf]⟩
  rintro _ _ ⟨i, rfl, hi, rfl⟩
  have hm : (l.map encItem).length = l.length := by rw [List.length_map]
  conv => whnf
  split
  · rename_i q
    have q' := of_decide_eq_true q
    have hil : i < l.length := by omega
    have en : (i : Int).toNat = i := Int.toNat_natCast i
    have hw : IntKind.i64.wrap ((i : Int) + 1) = i + 1 := wi _ (by omega) (by omega)
    have hsn := bytesOf_snoc h l i hil
    have h1 := hle i
    have h2 := hle (i + 1)
    conv => whnf
    refine ⟨by omega, by omega, _, ia_at l en hil, ?_⟩
    conv => whnf
    split
    · rename_i q2
      simp only [beq_iff_eq] at q2
      rw [if_pos q2] at hsn
      conv => whnf
      refine ⟨_, _, rfl, rfl, ⟨i + 1, by rw [hw]; simp, by omega, ?_⟩, by rw [hw]; omega⟩
      rw [wi _ (by omega) (by omega), hsn]; simp
    · rename_i q2
      simp only [beq_eq_false_iff_ne] at q2
      rw [if_neg q2] at hsn
      conv => whnf
      exact ⟨_, _, rfl, rfl, ⟨i + 1, by rw [hw]; simp, by omega, by rw [hsn]; simp⟩, by rw [hw]; omega⟩
  · rename_i q
    have q' := of_decide_eq_false q
    conv => whnf
    refine ⟨trivial, ?_⟩
    conv => whnf
    rw [List.take_of_length_le (by omega)]
    exact ⟨rfl, rfl⟩
set_option maxHeartbeats 4000000 in
set_option maxRecDepth 100000 in
theorem edClo_ok (x : RItem) (e : Int) : Good Tryz.prog 48 [.agg ((encItem x).map .p), .one (.hp 0 0 0)] [.box [.p (.lit (.int .i64 e))]] (vbool (x.c == e)) [.box [.p (.lit (.int .i64 e))]] := by
  refine good_e noM Tryz.func48 rfl rfl ?_
  conv => whnf
  refine ⟨trivial, ?_⟩
  conv => whnf
  exact ⟨rfl, rfl⟩
set_option maxHeartbeats 4000000 in
set_option maxRecDepth 100000 in
theorem fiClo_ok (x : RItem) (h : Int) (n : ByteArray) : Good Tryz.prog 74 [.agg ((encItem x).map .p), .one (.hp 0 0 0), .one (.hp 1 0 0)] [.box [.p (.lit (.int .i64 h))], .box [.p (.lit (.string n))]] (vbool (same x h n)) [.box [.p (.lit (.int .i64 h))], .box [.p (.lit (.string n))]] := by
  refine good_e noM Tryz.func74 rfl rfl ?_
  unfold same
  conv => whnf
  split
  · rename_i q
    rw [q]
    conv => whnf
    refine ⟨trivial, ?_⟩
    conv => whnf
    exact ⟨rfl, rfl⟩
  · rename_i q
    rw [q]
    conv => whnf
    refine ⟨trivial, ?_⟩
    conv => whnf
    exact ⟨rfl, rfl⟩
set_option maxHeartbeats 4000000 in
set_option maxRecDepth 100000 in
theorem idxEd_ok (l : Is) (e : Int) (hl : l.length < 1100000) : Good Tryz.prog 47 [.one (.p (.sl (l.map encItem))), .clo 48 [.hp 0 0 0]] [.box [.p (.lit (.int .i64 e))]] (vint (findI (fun x => x.c == e) l)) [.box [.p (.lit (.int .i64 e))]] := by
  refine good_e noM Tryz.func47 rfl rfl ?_
  conv => whnf
  refine VLoop.enter [0, 1, 7, 8] ?_
  conv => whnf
  refine VLoop.ind1 (n0 := 1) (α := Int) noM [0, 1, 7, 8] (fun a => ⟨19, 1, [(0, .one (.p (.sl (l.map encItem)))), (1, .clo 48 [.hp 0 0 0]), (7, vint (l.map encItem).length), (8, vint a)], [(0, some (.box [.p (.lit (.int .i64 e))]))]⟩)
    (fun a => ∃ i : Nat, a = i ∧ i ≤ l.length ∧ ∀ k, k < i → ((ia l k).c == e) = false) (fun a => ((l.length : Int) - a).toNat) ?_ 0 ⟨0, rfl, by omega, fun k hk => by omega⟩
  rintro _ ⟨i, rfl, hi, hp⟩
  have hm : (l.map encItem).length = l.length := by rw [List.length_map]
  conv => whnf
  split
  · rename_i q
    have q' := of_decide_eq_true q
    have hil : i < l.length := by omega
    have en : (i : Int).toNat = i := Int.toNat_natCast i
    have hw : IntKind.i64.wrap ((i : Int) + 1) = i + 1 := wi _ (by omega) (by omega)
    conv => whnf
    refine ⟨by omega, by omega, _, ia_at l en hil, ?_⟩
    conv => whnf
    refine .mk _ _ false Tryz.call48 (edClo_ok _ e) (Nat.le_of_ble_eq_true rfl) (.inl rfl) ?_
    conv => whnf
    split
    · rename_i q2
      conv => whnf
      refine ⟨trivial, ?_⟩
      conv => whnf
      rw [findI_at hil hp q2]
      exact ⟨rfl, rfl⟩
    · rename_i q2
      conv => whnf
      refine ⟨_, rfl, rfl, ⟨i + 1, by rw [hw]; simp, by omega, fun k hk => ?_⟩, by rw [hw]; omega⟩
      by_cases e : k = i
      · subst e; exact q2
      · exact hp k (by omega)
  · rename_i q
    have q' := of_decide_eq_false q
    conv => whnf
    refine ⟨trivial, ?_⟩
    conv => whnf
    rw [findI_no (fun k hk => hp k (by omega))]
    exact ⟨rfl, rfl⟩
set_option maxHeartbeats 4000000 in
set_option maxRecDepth 100000 in
theorem idxFi_ok (l : Is) (h : Int) (n : ByteArray) (hl : l.length < 1100000) : Good Tryz.prog 47 [.one (.p (.sl (l.map encItem))), .clo 74 [.hp 0 0 0, .hp 1 0 0]] [.box [.p (.lit (.int .i64 h))], .box [.p (.lit (.string n))]] (vint (findI (fun x => same x h n) l)) [.box [.p (.lit (.int .i64 h))], .box [.p (.lit (.string n))]] := by
  refine good_e noM Tryz.func47 rfl rfl ?_
  conv => whnf
  refine VLoop.enter [0, 1, 7, 8] ?_
  conv => whnf
  refine VLoop.ind1 (n0 := 2) (α := Int) noM [0, 1, 7, 8] (fun a => ⟨19, 2, [(0, .one (.p (.sl (l.map encItem)))), (1, .clo 74 [.hp 0 0 0, .hp 1 0 0]), (7, vint (l.map encItem).length), (8, vint a)], [(0, some (.box [.p (.lit (.int .i64 h))])), (1, some (.box [.p (.lit (.string n))]))]⟩)
    (fun a => ∃ i : Nat, a = i ∧ i ≤ l.length ∧ ∀ k, k < i → same (ia l k) h n = false) (fun a => ((l.length : Int) - a).toNat) ?_ 0 ⟨0, rfl, by omega, fun k hk => by omega⟩
  rintro _ ⟨i, rfl, hi, hp⟩
  have hm : (l.map encItem).length = l.length := by rw [List.length_map]
  conv => whnf
  split
  · rename_i q
    have q' := of_decide_eq_true q
    have hil : i < l.length := by omega
    have en : (i : Int).toNat = i := Int.toNat_natCast i
    have hw : IntKind.i64.wrap ((i : Int) + 1) = i + 1 := wi _ (by omega) (by omega)
    conv => whnf
    refine ⟨by omega, by omega, _, ia_at l en hil, ?_⟩
    conv => whnf
    refine .mk _ _ false Tryz.call74 (fiClo_ok _ h n) (Nat.le_of_ble_eq_true rfl) (.inl rfl) ?_
    conv => whnf
    split
    · rename_i q2
      conv => whnf
      refine ⟨trivial, ?_⟩
      conv => whnf
      rw [findI_at (p := fun x => same x h n) hil hp q2]
      exact ⟨rfl, rfl⟩
    · rename_i q2
      conv => whnf
      refine ⟨_, rfl, rfl, ⟨i + 1, by rw [hw]; simp, by omega, fun k hk => ?_⟩, by rw [hw]; omega⟩
      by_cases e : k = i
      · subst e; exact q2
      · exact hp k (by omega)
  · rename_i q
    have q' := of_decide_eq_false q
    conv => whnf
    refine ⟨trivial, ?_⟩
    conv => whnf
    rw [findI_no (p := fun x => same x h n) (fun k hk => hp k (by omega))]
    exact ⟨rfl, rfl⟩
set_option maxHeartbeats 4000000 in
set_option maxRecDepth 100000 in
theorem edition_ok (l : Is) (last e : Int) (hl : l.length < 1100000) : Good Tryz.prog 29 [cat l last, vint e] [] (vint (findI (fun x => x.c == e) l)) [] := by
  refine good_e noM Tryz.func29 rfl rfl ?_
  conv => whnf
  refine .mk _ _ false Tryz.call47 (idxEd_ok l e hl) (Nat.le_of_ble_eq_true rfl) (.inl rfl) ?_
  conv => whnf
  refine ⟨trivial, ?_⟩
  conv => whnf
  exact ⟨rfl, rfl⟩
set_option maxHeartbeats 4000000 in
set_option maxRecDepth 100000 in
theorem find_ok (l : Is) (last h : Int) (n : ByteArray) (hl : l.length < 1100000) : Good Tryz.prog 63 [cat l last, vint h, vstr n] [] (vint (findI (fun x => same x h n) l)) [] := by
  refine good_e noM Tryz.func63 rfl rfl ?_
  conv => whnf
  refine .mk _ _ false Tryz.call47 (idxFi_ok l h n hl) (Nat.le_of_ble_eq_true rfl) (.inl rfl) ?_
  conv => whnf
  refine ⟨trivial, ?_⟩
  conv => whnf
  exact ⟨rfl, rfl⟩
set_option maxHeartbeats 4000000 in
set_option maxRecDepth 100000 in
theorem l9At_ok (l : Is) (last h : Int) (n : ByteArray) (hl : l.length < 1100000) : Good Tryz.prog 54 [cat l last, vint h, vstr n] [] (vint (findI (fun x => same x h n) l)) [] := by
  refine good_e noM Tryz.func54 rfl rfl ?_
  conv => whnf
  refine VLoop.enter [1, 2, 3, 7] ?_
  conv => whnf
  refine VLoop.ind1 (n0 := 1) (α := Int) noM [1, 2, 3, 7] (fun a => ⟨34, 0, [(1, vint h), (2, vstr n), (3, .one (.hp 0 0 0)), (7, vint a)], [(0, some (.box [.p (.lit (.int .i64 last)), .p (.sl (l.map encItem))]))]⟩)
    (fun a => ∃ i : Nat, a = i ∧ i ≤ l.length ∧ ∀ k, k < i → same (ia l k) h n = false) (fun a => ((l.length : Int) - a).toNat) ?_ 0 ⟨0, rfl, by omega, fun k hk => by omega⟩
  rintro _ ⟨i, rfl, hi, hp⟩
  have hm : (l.map encItem).length = l.length := by rw [List.length_map]
  conv => whnf
  split
  · rename_i q
    have q' := of_decide_eq_true q
    have hil : i < l.length := by omega
    have en : (i : Int).toNat = i := Int.toNat_natCast i
    have hw : IntKind.i64.wrap ((i : Int) + 1) = i + 1 := wi _ (by omega) (by omega)
    have fin : same (ia l i) h n = false → ∃ i2 : Nat, IntKind.i64.wrap ((i : Int) + 1) = i2 ∧ i2 ≤ l.length ∧ ∀ k, k < i2 → same (ia l k) h n = false := fun hne => ⟨i + 1, by rw [hw]; simp, by omega, fun k hk => by
      by_cases e : k = i
      · subst e; exact hne
      · exact hp k (by omega)⟩
    conv => whnf
    refine ⟨by omega, by omega, _, ia_at l en hil, ?_⟩
    conv => whnf
    split
    · rename_i q1
      conv => whnf
      refine ⟨by omega, by omega, _, ia_at l en hil, ?_⟩
      conv => whnf
      split
      · rename_i q2
        conv => whnf
        refine ⟨trivial, ?_⟩
        conv => whnf
        rw [findI_at (p := fun x => same x h n) hil hp (by unfold same; rw [q1]; exact q2)]
        exact ⟨rfl, rfl⟩
      · rename_i q2
        conv => whnf
        exact ⟨_, rfl, rfl, fin (by unfold same; rw [q1]; exact q2), by rw [hw]; omega⟩
    · rename_i q1
      conv => whnf
      exact ⟨_, rfl, rfl, fin (by unfold same; rw [q1]; rfl), by rw [hw]; omega⟩
  · rename_i q
    have q' := of_decide_eq_false q
    conv => whnf
    refine ⟨trivial, ?_⟩
    conv => whnf
    rw [findI_no (p := fun x => same x h n) (fun k hk => hp k (by omega))]
    exact ⟨rfl, rfl⟩
end Go.Abs.C

set_option linter.unusedSimpArgs false
set_option linter.unusedVariables false
namespace Go.Abs.C
open Go Go.Abs Go.Proofs
attribute [local irreducible] IntKind.wrap
def cmpI (a b : Int) : Int := match decide (a < b) with | true => -1 | false => match decide (a > b) with | true => 1 | false => 0
def cmpS (a b : ByteArray) : Int := match bl a b with | true => -1 | false => match !(bl a b || (a.toList == b.toList)) with | true => 1 | false => 0
def ordI (x y : RItem) : Int := match cmpI x.a y.a != 0 with | true => cmpI x.a y.a | false => match cmpS x.b y.b != 0 with | true => cmpS x.b y.b | false => 0
theorem ordI_neg {x y : RItem} : ordI x y < 0 ↔ less x y.a y.b = true := by
  unfold ordI less
  have hS : cmpS x.b y.b < 0 ↔ bl x.b y.b = true := by
    unfold cmpS
    cases bl x.b y.b with
    | true => simp
    | false => simp only [Bool.false_or]; split <;> simp
  by_cases h1 : x.a < y.a
  · have : cmpI x.a y.a = -1 := by unfold cmpI; rw [decide_eq_true h1]
    rw [this, decide_eq_true h1]; simp
  · by_cases h2 : x.a > y.a
    · have : cmpI x.a y.a = 1 := by unfold cmpI; rw [decide_eq_false h1, decide_eq_true h2]
      have h3 : (x.a == y.a) = false := by rw [beq_eq_false_iff_ne]; omega
      rw [this, decide_eq_false h1, h3]; simp
    · have : cmpI x.a y.a = 0 := by unfold cmpI; rw [decide_eq_false h1, decide_eq_false h2]
      have h3 : (x.a == y.a) = true := by rw [beq_iff_eq]; omega
      rw [this, decide_eq_false h1, h3]
      simp only [bne_self_eq_false, Bool.false_or, Bool.true_and]
      rw [← hS]
      cases h4 : cmpS x.b y.b != 0 with
      | true => rfl
      | false => simp only [bne_eq_false_iff_eq] at h4; rw [h4]
set_option maxHeartbeats 4000000 in
set_option maxRecDepth 100000 in
theorem nanI_ok (n : Int) : Good Tryz.prog 67 [vint n] [] (vbool false) [] := by
  refine good_e noM Tryz.func67 rfl rfl ?_
  conv => whnf
  refine ⟨trivial, ?_⟩
  conv => whnf
  refine ⟨congrArg vbool ?_, rfl⟩
  exact bne_self_eq_false _
set_option maxHeartbeats 4000000 in
set_option maxRecDepth 100000 in
theorem nanS_ok (n : ByteArray) : Good Tryz.prog 68 [vstr n] [] (vbool false) [] := by
  refine good_e noM Tryz.func68 rfl rfl ?_
  conv => whnf
  refine ⟨trivial, ?_⟩
  conv => whnf
  refine ⟨congrArg vbool ?_, rfl⟩
  show (!(n.toList == n.toList)) = false
  simp
set_option maxHeartbeats 4000000 in
set_option maxRecDepth 100000 in
theorem cmpI_ok (a b : Int) : Good Tryz.prog 50 [vint a, vint b] [] (vint (cmpI a b)) [] := by
  refine good_e noM Tryz.func50 rfl rfl ?_
  conv => whnf
  refine .mk _ _ false Tryz.call67 (nanI_ok _) (Nat.le_of_ble_eq_true rfl) (.inl rfl) ?_
  conv => whnf
  refine .mk _ _ false Tryz.call67 (nanI_ok _) (Nat.le_of_ble_eq_true rfl) (.inl rfl) ?_
  conv => whnf
  unfold cmpI
  split
  · rename_i q; rw [q]
    conv => whnf
    refine ⟨trivial, ?_⟩
    conv => whnf
    exact ⟨rfl, rfl⟩
  · rename_i q; rw [q]
    conv => whnf
    split
    · rename_i q2; rw [q2]
      conv => whnf
      refine ⟨trivial, ?_⟩
      conv => whnf
      exact ⟨rfl, rfl⟩
    · rename_i q2; rw [q2]
      conv => whnf
      refine ⟨trivial, ?_⟩
      conv => whnf
      exact ⟨rfl, rfl⟩
set_option maxHeartbeats 4000000 in
set_option maxRecDepth 100000 in
theorem cmpS_ok (a b : ByteArray) : Good Tryz.prog 51 [vstr a, vstr b] [] (vint (cmpS a b)) [] := by
  refine good_e noM Tryz.func51 rfl rfl ?_
  conv => whnf
  refine .mk _ _ false Tryz.call68 (nanS_ok _) (Nat.le_of_ble_eq_true rfl) (.inl rfl) ?_
  conv => whnf
  refine .mk _ _ false Tryz.call68 (nanS_ok _) (Nat.le_of_ble_eq_true rfl) (.inl rfl) ?_
  conv => whnf
  unfold cmpS bl
  split
  · rename_i q; rw [q]
    conv => whnf
    refine ⟨trivial, ?_⟩
    conv => whnf
    exact ⟨rfl, rfl⟩
  · rename_i q; rw [q]
    conv => whnf
    split
    · rename_i q2; rw [q] at q2; rw [q2]
      conv => whnf
      refine ⟨trivial, ?_⟩
      conv => whnf
      exact ⟨rfl, rfl⟩
    · rename_i q2; rw [q] at q2; rw [q2]
      conv => whnf
      refine ⟨trivial, ?_⟩
      conv => whnf
      exact ⟨rfl, rfl⟩
set_option maxHeartbeats 4000000 in
set_option maxRecDepth 100000 in
theorem or_ok (a b : Int) : Good Tryz.prog 49 [.one (.p (.sl [[.lit (.int .i64 a)], [.lit (.int .i64 b)]]))] [] (vint (match a != 0 with | true => a | false => match b != 0 with | true => b | false => 0)) [] := by
  refine good_e noM Tryz.func49 rfl rfl ?_
  conv => whnf
  have w1 : IntKind.i64.wrap (0 + 1) = 1 := wi _ (by omega) (by omega)
  have w2 : IntKind.i64.wrap (1 + 1) = 2 := wi _ (by omega) (by omega)
  refine VLoop.step noM ?_
  conv => whnf
  refine ⟨show (0 : Int) ≤ 0 by decide, show (0 : Int) < 2 by decide, _, rfl, ?_⟩
  conv => whnf
  split
  · rename_i q; rw [q]
    conv => whnf
    refine ⟨trivial, ?_⟩
    conv => whnf
    exact ⟨rfl, rfl⟩
  · rename_i q; rw [q]
    conv => whnf
    refine VLoop.step noM ?_
    conv => whnf
    rw [w1]
    conv => whnf
    refine ⟨show (0 : Int) ≤ 1 by decide, show (1 : Int) < 2 by decide, _, rfl, ?_⟩
    conv => whnf
    split
    · rename_i q2; rw [q2]
      conv => whnf
      refine ⟨trivial, ?_⟩
      conv => whnf
      exact ⟨rfl, rfl⟩
    · rename_i q2; rw [q2]
      conv => whnf
      refine VLoop.step noM ?_
      conv => whnf
      rw [w2]
      conv => whnf
      refine ⟨trivial, ?_⟩
      conv => whnf
      exact ⟨rfl, rfl⟩
set_option maxHeartbeats 4000000 in
set_option maxRecDepth 100000 in
theorem order_ok (x y : RItem) : Good Tryz.prog 30 [.agg ((encItem x).map .p), .agg ((encItem y).map .p)] [] (vint (ordI x y)) [] := by
  refine good_e noM Tryz.func30 rfl rfl ?_
  conv => whnf
  refine VDraw.go ⟨_, [0, 1, 0, 4, 15, 0, 32, 0, 128, 511, 1023, 2047, 4095], [4, 9, 10, 11], []⟩ rfl rfl (by decide +kernel) ?_
  conv => whnf
  refine .mk _ _ false Tryz.call50 (cmpI_ok _ _) (Nat.le_of_ble_eq_true rfl) (.inl rfl) ?_
  conv => whnf
  refine .mk _ _ false Tryz.call51 (cmpS_ok _ _) (Nat.le_of_ble_eq_true rfl) (.inl rfl) ?_
  conv => whnf
  refine ⟨Nat.le_refl 2, ?_⟩
  conv => whnf
  refine .mk _ _ false Tryz.call49 (or_ok _ _) (Nat.le_of_ble_eq_true rfl) (.inr ⟨AV.nsB_iff rfl, fun k hk => by cases hk⟩) ?_
  conv => whnf
  refine ⟨trivial, ?_⟩
  conv => whnf
  exact ⟨rfl, rfl⟩
end Go.Abs.C

set_option linter.unusedSimpArgs false
set_option linter.unusedVariables false
namespace Go.Abs.C
open Go Go.Abs Go.Proofs
attribute [local irreducible] IntKind.wrap

theorem small_of {l : Is} (h : ∀ j, j < l.length → itemOk (ia l j) = true) : ∀ x ∈ l, x.d.size ≤ 1000 := by
  intro x hx
  obtain ⟨k, hk, rfl⟩ := List.mem_iff_getElem.1 hx
  have := h k hk
  rw [ia_lt hk] at this
  unfold itemOk at this
  simp only [Bool.and_eq_true] at this
  have := (inR_iff.1 this.2.2).2
  omega
theorem ItemAt.of {l : Is} {last : Int} {i : Nat} (h1 : itemOk (ia l i) = true) (h2 : inR (ia l i).c 1 last = true) (h3 : 0 < i → less (ia l (i - 1)) (ia l i).a (ia l i).b = true) (h4 : ∀ k, k < i → (ia l k).c ≠ (ia l i).c) : ItemAt l last i := ⟨h1, h2, h3, h4⟩
set_option maxHeartbeats 16000000 in
set_option maxRecDepth 100000 in
theorem specOk_ok (l : Is) (last : Int) (hl : l.length < 1100000) (hs : ∀ x ∈ l, x.b.size ≤ 9223372036854775807) : Good Tryz.prog 53 [cat l last] [] (vbool (catOk l last)) [] := by
  have hm : (l.map encItem).length = l.length := by rw [List.length_map]
  have hsi : ∀ i, i < l.length → (ia l i).b.size ≤ 9223372036854775807 := fun i hi => by rw [ia_lt hi]; exact hs _ (List.getElem_mem hi)
  refine good_e noM Tryz.func53 rfl rfl ?_
  conv => whnf
  refine .mk _ _ false Tryz.call52 (l1In_ok _ _ _) (Nat.le_of_ble_eq_true rfl) (.inl rfl) ?_
  conv => whnf
  cases h0 : inR last 0 99999 with
  | false =>
    conv => whnf
    refine ⟨trivial, ?_⟩
    conv => whnf
    rw [catOk_false (fun p => by rw [p.lst] at h0; cases h0)]
    exact ⟨rfl, rfl⟩
  | true =>
    conv => whnf
    split
    · rename_i q
      have q' := of_decide_eq_true q
      conv => whnf
      refine ⟨trivial, ?_⟩
      conv => whnf
      rw [catOk_false (fun p => by have := p.len; omega)]
      exact ⟨rfl, rfl⟩
    · rename_i q
      have q' := of_decide_eq_false q
      have hl8 : l.length ≤ 8 := by omega
      conv => whnf
      refine VLoop.enter [1, 3] ?_
      conv => whnf
      refine VLoop.ind1 (n0 := 1) (α := Int) noM [1, 3] (fun a => ⟨81, 0, [(1, .one (.hp 0 0 0)), (3, vint a)], [(0, some (.box [.p (.lit (.int .i64 last)), .p (.sl (l.map encItem))]))]⟩)
        (fun a => ∃ i : Nat, a = i ∧ i ≤ l.length ∧ ∀ k, k < i → ItemAt l last k) (fun a => ((l.length : Int) - a).toNat) ?_ 0 ⟨0, rfl, by omega, fun k hk => by omega⟩
      rintro _ ⟨i, rfl, hi, hp⟩
      conv => whnf
      split
      · rename_i q1
        have q1' := of_decide_eq_true q1
        have hil : i < l.length := by omega
        have en : (i : Int).toNat = i := Int.toNat_natCast i
        have hw : IntKind.i64.wrap ((i : Int) + 1) = i + 1 := wi _ (by omega) (by omega)
        conv => whnf
        refine ⟨by omega, by omega, _, ia_at l en hil, ?_⟩
        conv => whnf
        refine VDraw.go ⟨_, [0, 1, 3, 7, 15, 31, 15, 79, 255, 511, 1023, 2047, 4095, 8191, 16383, 32767, 65535, 32767, 163839, 524287, 1048575, 32767, 2129919, 32767, 8421375, 33554431, 67108863, 134217727, 268435455], [1, 8, 25], []⟩ rfl rfl (by decide +kernel) ?_
        conv => whnf
        refine .mk _ _ false Tryz.call43 (l9Ok_ok _ (hsi i hil)) (Nat.le_of_ble_eq_true rfl) (.inl rfl) ?_
        conv => whnf
        cases h1 : itemOk (ia l i) with
        | false =>
          conv => whnf
          refine ⟨trivial, ?_⟩
          conv => whnf
          rw [catOk_false (fun p => by rw [(p.at_ i hil).ok] at h1; cases h1)]
          exact ⟨rfl, rfl⟩
        | true =>
          conv => whnf
          refine .mk _ _ false Tryz.call52 (l1In_ok _ _ _) (Nat.le_of_ble_eq_true rfl) (.inl rfl) ?_
          conv => whnf
          cases h2 : inR (ia l i).c 1 last with
          | false =>
            conv => whnf
            refine ⟨trivial, ?_⟩
            conv => whnf
            rw [catOk_false (fun p => by rw [(p.at_ i hil).ed] at h2; cases h2)]
            exact ⟨rfl, rfl⟩
          | true =>
            conv => whnf
            split
            · rename_i q2
              have q2' := of_decide_eq_true q2
              have hw1 : IntKind.i64.wrap ((i : Int) - 1) = ((i - 1 : Nat) : Int) := by rw [wi _ (by omega) (by omega)]; omega
              have en1 : ((i - 1 : Nat) : Int).toNat = i - 1 := Int.toNat_natCast _
              conv => whnf
              rw [hw1]
              refine ⟨by omega, by omega, _, ia_at l en1 (by omega), ?_⟩
              conv => whnf
              refine .mk _ _ false Tryz.call69 (l9Less_ok _ _ _) (Nat.le_of_ble_eq_true rfl) (.inl rfl) ?_
              conv => whnf
              cases h3 : less (ia l (i - 1)) (ia l i).a (ia l i).b with
              | false =>
                conv => whnf
                refine ⟨trivial, ?_⟩
                conv => whnf
                rw [catOk_false (fun p => by rw [(p.at_ i hil).ord (by omega)] at h3; cases h3)]
                exact ⟨rfl, rfl⟩
              | true =>
                conv => whnf
                refine VLoop.enter [1, 3, 4, 5] ?_
                conv => whnf
                refine VLoop.ind1 (n0 := 2) (α := Int) noM [1, 3, 4, 5] (fun a => ⟨81, 0, [(1, .one (.hp 0 0 0)), (3, vint i), (4, .one (.hp 1 0 0)), (5, vint a)], [(0, some (.box [.p (.lit (.int .i64 last)), .p (.sl (l.map encItem))])), (1, some (.box ((encItem (ia l i)).map .p)))]⟩)
                  (fun a => ∃ k : Nat, a = k ∧ k ≤ i ∧ ∀ j, j < k → (ia l j).c ≠ (ia l i).c) (fun a => ((i : Int) - a).toNat) ?_ 0 ⟨0, rfl, by omega, fun k hk => by omega⟩
                rintro _ ⟨k, rfl, hk, hn⟩
                conv => whnf
                split
                · rename_i q4
                  have q4' := of_decide_eq_true q4
                  have enk : (k : Int).toNat = k := Int.toNat_natCast k
                  have hwk : IntKind.i64.wrap ((k : Int) + 1) = k + 1 := wi _ (by omega) (by omega)
                  conv => whnf
                  refine VDraw.go ⟨_, [0, 1, 0, 7, 15, 31, 0, 64, 255], [], []⟩ rfl rfl (by decide +kernel) ?_
                  conv => whnf
                  refine ⟨by omega, by omega, _, ia_at l enk (by omega), ?_⟩
                  conv => whnf
                  split
                  · rename_i q5
                    simp only [beq_iff_eq] at q5
                    conv => whnf
                    refine ⟨trivial, ?_⟩
                    conv => whnf
                    rw [catOk_false (fun p => (p.at_ i hil).new k (by omega) q5)]
                    exact ⟨rfl, rfl⟩
                  · rename_i q5
                    simp only [beq_eq_false_iff_ne] at q5
                    conv => whnf
                    refine ⟨_, rfl, rfl, ⟨k + 1, by rw [hwk]; simp, by omega, fun j hj => ?_⟩, by rw [hwk]; omega⟩
                    by_cases e : j = k
                    · subst e; exact q5
                    · exact hn j (by omega)
                · rename_i q4
                  have q4' := of_decide_eq_false q4
                  conv => whnf
                  refine ⟨_, rfl, rfl, ⟨i + 1, by rw [hw]; simp, by omega, fun j hj => ?_⟩, by rw [hw]; omega⟩
                  by_cases e : j = i
                  · subst e; exact .of h1 h2 (fun _ => h3) (fun k2 hk2 => hn k2 (by omega))
                  · exact hp j (by omega)
            · rename_i q2
              have q2' := of_decide_eq_false q2
              conv => whnf
              refine VLoop.enter [1, 3, 4, 5] ?_
              conv => whnf
              refine VLoop.ind1 (n0 := 2) (α := Int) noM [1, 3, 4, 5] (fun a => ⟨81, 0, [(1, .one (.hp 0 0 0)), (3, vint i), (4, .one (.hp 1 0 0)), (5, vint a)], [(0, some (.box [.p (.lit (.int .i64 last)), .p (.sl (l.map encItem))])), (1, some (.box ((encItem (ia l i)).map .p)))]⟩)
                (fun a => ∃ k : Nat, a = k ∧ k ≤ i ∧ ∀ j, j < k → (ia l j).c ≠ (ia l i).c) (fun a => ((i : Int) - a).toNat) ?_ 0 ⟨0, rfl, by omega, fun k hk => by omega⟩
              rintro _ ⟨k, rfl, hk, hn⟩
              conv => whnf
              split
              · rename_i q4
                have q4' := of_decide_eq_true q4
                have enk : (k : Int).toNat = k := Int.toNat_natCast k
                have hwk : IntKind.i64.wrap ((k : Int) + 1) = k + 1 := wi _ (by omega) (by omega)
                conv => whnf
                refine VDraw.go ⟨_, [0, 1, 0, 7, 15, 31, 0, 64, 255], [], []⟩ rfl rfl (by decide +kernel) ?_
                conv => whnf
                refine ⟨by omega, by omega, _, ia_at l enk (by omega), ?_⟩
                conv => whnf
                split
                · rename_i q5
                  simp only [beq_iff_eq] at q5
                  conv => whnf
                  refine ⟨trivial, ?_⟩
                  conv => whnf
                  rw [catOk_false (fun p => (p.at_ i hil).new k (by omega) q5)]
                  exact ⟨rfl, rfl⟩
                · rename_i q5
                  simp only [beq_eq_false_iff_ne] at q5
                  conv => whnf
                  refine ⟨_, rfl, rfl, ⟨k + 1, by rw [hwk]; simp, by omega, fun j hj => ?_⟩, by rw [hwk]; omega⟩
                  by_cases e : j = k
                  · subst e; exact q5
                  · exact hn j (by omega)
              · rename_i q4
                have q4' := of_decide_eq_false q4
                conv => whnf
                refine ⟨_, rfl, rfl, ⟨i + 1, by rw [hw]; simp, by omega, fun j hj => ?_⟩, by rw [hw]; omega⟩
                by_cases e : j = i
                · subst e; exact .of h1 h2 (fun q => absurd q (by omega)) (fun k2 hk2 => hn k2 (by omega))
                · exact hp j (by omega)
      · rename_i q1
        have q1' := of_decide_eq_false q1
        have hall : ∀ k, k < l.length → ItemAt l last k := fun k hk => hp k (by omega)
        have hsm := small_of fun k hk => (hall k hk).ok
        have w1 : IntKind.i64.wrap (0 + 1) = 1 := wi _ (by omega) (by omega)
        have w2 : IntKind.i64.wrap (1 + 1) = 2 := wi _ (by omega) (by omega)
        conv => whnf
        refine VLoop.step noM ?_
        conv => whnf
        refine .mk _ _ false Tryz.call57 (l9Bytes_ok l 0 (by omega) hsm) (Nat.le_of_ble_eq_true rfl) (.inl rfl) ?_
        conv => whnf
        split
        · rename_i q2
          have q2' := of_decide_eq_true q2
          conv => whnf
          refine ⟨trivial, ?_⟩
          conv => whnf
          rw [catOk_false (fun p => by have := p.b0; omega)]
          exact ⟨rfl, rfl⟩
        · rename_i q2
          have q2' := of_decide_eq_false q2
          conv => whnf
          refine VLoop.step noM ?_
          conv => whnf
          rw [w1]
          conv => whnf
          refine .mk _ _ false Tryz.call57 (l9Bytes_ok l 1 (by omega) hsm) (Nat.le_of_ble_eq_true rfl) (.inl rfl) ?_
          conv => whnf
          split
          · rename_i q3
            have q3' := of_decide_eq_true q3
            conv => whnf
            refine ⟨trivial, ?_⟩
            conv => whnf
            rw [catOk_false (fun p => by have := p.b1; omega)]
            exact ⟨rfl, rfl⟩
          · rename_i q3
            have q3' := of_decide_eq_false q3
            conv => whnf
            refine VLoop.step noM ?_
            conv => whnf
            rw [w2]
            conv => whnf
            refine ⟨trivial, ?_⟩
            conv => whnf
            rw [catOk_true ⟨h0, hl8, hall, by omega, by omega⟩]
            exact ⟨rfl, rfl⟩
end Go.Abs.C

set_option linter.unusedSimpArgs false
set_option linter.unusedVariables false
namespace Go.Abs.C
open Go Go.Abs Go.Proofs
attribute [local irreducible] IntKind.wrap

set_option maxHeartbeats 16000000 in
set_option maxRecDepth 100000 in
theorem implOk_ok (l : Is) (last : Int) (hl : l.length < 1100000) (hs : ∀ x ∈ l, x.b.size ≤ 9223372036854775807) : Good Tryz.prog 16 [cat l last] [] (vbool (catOk l last)) [] := by
  have hm : (l.map encItem).length = l.length := by rw [List.length_map]
  have hsi : ∀ i, i < l.length → (ia l i).b.size ≤ 9223372036854775807 := fun i hi => by rw [ia_lt hi]; exact hs _ (List.getElem_mem hi)
  refine good_e noM Tryz.func16 rfl rfl ?_
  conv => whnf
  refine .mk _ _ false Tryz.call27 (within_ok _ _ _) (Nat.le_of_ble_eq_true rfl) (.inl rfl) ?_
  conv => whnf
  cases h0 : inR last 0 99999 with
  | false =>
    conv => whnf
    refine ⟨trivial, ?_⟩
    conv => whnf
    rw [catOk_false (fun p => by rw [p.lst] at h0; cases h0)]
    exact ⟨rfl, rfl⟩
  | true =>
    conv => whnf
    split
    · rename_i q
      have q' := of_decide_eq_true q
      conv => whnf
      refine ⟨trivial, ?_⟩
      conv => whnf
      rw [catOk_false (fun p => by have := p.len; omega)]
      exact ⟨rfl, rfl⟩
    · rename_i q
      have q' := of_decide_eq_false q
      have hl8 : l.length ≤ 8 := by omega
      conv => whnf
      refine VLoop.enter [1, 17, 18, 19] ?_
      conv => whnf
      refine VLoop.ind1 (n0 := 1) (α := Int) noM [1, 17, 18, 19] (fun a => ⟨72, 0, [(1, .one (.hp 0 0 0)), (17, .one (.p (.sl (l.map encItem)))), (18, vint (l.map encItem).length), (19, vint a)], [(0, some (.box [.p (.lit (.int .i64 last)), .p (.sl (l.map encItem))]))]⟩)
        (fun a => ∃ i : Nat, a = i ∧ i ≤ l.length ∧ ∀ k, k < i → ItemAt l last k) (fun a => ((l.length : Int) - a).toNat) ?_ 0 ⟨0, rfl, by omega, fun k hk => by omega⟩
      rintro _ ⟨i, rfl, hi, hp⟩
      conv => whnf
      split
      · rename_i q1
        have q1' := of_decide_eq_true q1
        have hil : i < l.length := by omega
        have en : (i : Int).toNat = i := Int.toNat_natCast i
        have hw : IntKind.i64.wrap ((i : Int) + 1) = i + 1 := wi _ (by omega) (by omega)
        conv => whnf
        refine ⟨by omega, by omega, _, ia_at l en hil, ?_⟩
        conv => whnf
        refine VDraw.go ⟨_, [0, 1, 0, 4, 0, 16, 63, 127, 255, 511, 1023, 511, 2559, 8191, 16383, 32767, 65535, 131071, 131071, 393215, 1048575, 131071, 4194303, 8388607, 16777215, 33554431, 67108863, 134217727, 268435455, 536870911, 268435455, 1342177279, 4294967295, 8589934591, 268435455, 34359738367, 68719476735, 137438953471, 274877906943], [6, 13, 20, 35], []⟩ rfl rfl (by decide +kernel) ?_
        conv => whnf
        refine .mk _ _ false Tryz.call28 (publ_ok _ (hsi i hil)) (Nat.le_of_ble_eq_true rfl) (.inl rfl) ?_
        conv => whnf
        cases h1 : itemOk (ia l i) with
        | false =>
          conv => whnf
          refine ⟨trivial, ?_⟩
          conv => whnf
          rw [catOk_false (fun p => by rw [(p.at_ i hil).ok] at h1; cases h1)]
          exact ⟨rfl, rfl⟩
        | true =>
          conv => whnf
          refine .mk _ _ false Tryz.call27 (within_ok _ _ _) (Nat.le_of_ble_eq_true rfl) (.inl rfl) ?_
          conv => whnf
          cases h2 : inR (ia l i).c 1 last with
          | false =>
            conv => whnf
            refine ⟨trivial, ?_⟩
            conv => whnf
            rw [catOk_false (fun p => by rw [(p.at_ i hil).ed] at h2; cases h2)]
            exact ⟨rfl, rfl⟩
          | true =>
            conv => whnf
            refine .mk _ _ false Tryz.call29 (edition_ok l last _ hl) (Nat.le_of_ble_eq_true rfl) (.inl rfl) ?_
            conv => whnf
            split
            · rename_i q2
              simp only [bne_iff_ne] at q2
              conv => whnf
              refine ⟨trivial, ?_⟩
              conv => whnf
              rw [catOk_false (fun p => q2 (edit_self p hil))]
              exact ⟨rfl, rfl⟩
            · rename_i q2
              simp only [bne_eq_false_iff_eq] at q2
              have hnew : ∀ k, k < i → (ia l k).c ≠ (ia l i).c := by
                have hfi := findI_pos (p := fun x => x.c == (ia l i).c) (l := l) (by omega)
                rw [q2, Int.toNat_natCast] at hfi
                intro k hk
                have := hfi.2.2 k hk
                simpa using this
              conv => whnf
              split
              · rename_i q3
                have q3' := of_decide_eq_true q3
                have hw1 : IntKind.i64.wrap ((i : Int) - 1) = ((i - 1 : Nat) : Int) := by rw [wi _ (by omega) (by omega)]; omega
                have en1 : ((i - 1 : Nat) : Int).toNat = i - 1 := Int.toNat_natCast _
                conv => whnf
                rw [hw1]
                refine ⟨by omega, by omega, _, ia_at l en1 (by omega), ?_⟩
                conv => whnf
                refine .mk _ _ false Tryz.call30 (order_ok _ _) (Nat.le_of_ble_eq_true rfl) (.inl rfl) ?_
                conv => whnf
                have hord := @ordI_neg (ia l (i - 1)) (ia l i)
                split
                · rename_i q4
                  have q4' := of_decide_eq_true q4
                  conv => whnf
                  refine ⟨trivial, ?_⟩
                  conv => whnf
                  rw [catOk_false (fun p => by have := hord.2 ((p.at_ i hil).ord (by omega)); omega)]
                  exact ⟨rfl, rfl⟩
                · rename_i q4
                  have q4' := of_decide_eq_false q4
                  conv => whnf
                  refine ⟨_, rfl, rfl, ⟨i + 1, by rw [hw]; simp, by omega, fun j hj => ?_⟩, by rw [hw]; omega⟩
                  by_cases e : j = i
                  · subst e; exact .of h1 h2 (fun _ => hord.1 (by omega)) hnew
                  · exact hp j (by omega)
              · rename_i q3
                have q3' := of_decide_eq_false q3
                conv => whnf
                refine ⟨_, rfl, rfl, ⟨i + 1, by rw [hw]; simp, by omega, fun j hj => ?_⟩, by rw [hw]; omega⟩
                by_cases e : j = i
                · subst e; exact .of h1 h2 (fun q => absurd q (by omega)) hnew
                · exact hp j (by omega)
      · rename_i q1
        have q1' := of_decide_eq_false q1
        have hall : ∀ k, k < l.length → ItemAt l last k := fun k hk => hp k (by omega)
        have hsm := small_of fun k hk => (hall k hk).ok
        have w1 : IntKind.i64.wrap (0 + 1) = 1 := wi _ (by omega) (by omega)
        have w2 : IntKind.i64.wrap (1 + 1) = 2 := wi _ (by omega) (by omega)
        conv => whnf
        refine VLoop.step noM ?_
        conv => whnf
        refine .mk _ _ false Tryz.call31 (bytes_ok l last 0 (by omega) hsm) (Nat.le_of_ble_eq_true rfl) (.inl rfl) ?_
        conv => whnf
        split
        · rename_i q2
          have q2' := of_decide_eq_true q2
          conv => whnf
          refine ⟨trivial, ?_⟩
          conv => whnf
          rw [catOk_false (fun p => by have := p.b0; omega)]
          exact ⟨rfl, rfl⟩
        · rename_i q2
          have q2' := of_decide_eq_false q2
          conv => whnf
          refine VLoop.step noM ?_
          conv => whnf
          rw [w1]
          conv => whnf
          refine .mk _ _ false Tryz.call31 (bytes_ok l last 1 (by omega) hsm) (Nat.le_of_ble_eq_true rfl) (.inl rfl) ?_
          conv => whnf
          split
          · rename_i q3
            have q3' := of_decide_eq_true q3
            conv => whnf
            refine ⟨trivial, ?_⟩
            conv => whnf
            rw [catOk_false (fun p => by have := p.b1; omega)]
            exact ⟨rfl, rfl⟩
          · rename_i q3
            have q3' := of_decide_eq_false q3
            conv => whnf
            refine VLoop.step noM ?_
            conv => whnf
            rw [w2]
            conv => whnf
            refine ⟨trivial, ?_⟩
            conv => whnf
            rw [catOk_true ⟨h0, hl8, hall, by omega, by omega⟩]
            exact ⟨rfl, rfl⟩
end Go.Abs.C

set_option linter.unusedSimpArgs false
set_option linter.unusedVariables false
namespace Go.Abs.C
open Go Go.Abs Go.Proofs
attribute [local irreducible] IntKind.wrap

@[reducible] def own (l : Is) (last : Int) : AV := .agg [.p (.lit (.int .i64 last)), .hs 0 0 l.length]
theorem bytes36 : Tryz.prog.bytesOf 49 + 1 ≤ 100 := by decide +kernel
theorem app_bound {n : Nat} (h : n < 1100000) : (0 + n) * (Tryz.prog.bytesOf 49 + 1) ≤ 140737488355328 :=
  Nat.le_trans (Nat.mul_le_mul (show 0 + n ≤ 1100000 by omega) bytes36) (by decide)
theorem hs_len {l : Is} {last : Int} {n : Nat} (hn : n = l.length) : AV.agg [.p (.lit (.int .i64 last)), .hs 0 0 n] = own l last := by rw [hn]
theorem enc_len (l : Is) : ∀ el ∈ l.map encItem, el.length = 4 := by
  intro el h
  obtain ⟨x, _, rfl⟩ := List.mem_map.1 h
  rfl
theorem is_ext {l l' : Is} (hl : l.length = l'.length) (h : ∀ k, k < l.length → ia l k = ia l' k) : l = l' := by
  apply List.ext_getElem hl
  intro i h1 h2
  have := h i h1
  rwa [ia_lt h1, ia_lt h2] at this
set_option maxHeartbeats 4000000 in
set_option maxRecDepth 100000 in
theorem clone_ok (l : Is) (last : Int) (hl : l.length < 1100000) : Good Tryz.prog 62 [cat l last] [] (own l last) [.arr 4 (l.map encItem)] := by
  refine good_e noM Tryz.func62 rfl rfl ?_
  conv => whnf
  refine VDraw.go ⟨16, [0, 1, 0, 0, 8, 28, 63, 127], [2, 5, 7], [(5, [32]), (7, [8])]⟩ rfl rfl (by decide +kernel) ?_
  conv => whnf
  refine ⟨⟨rfl, rfl, rfl⟩, trivial, ?_⟩
  conv => whnf
  refine ⟨(fun q => by cases q), by rw [List.length_map]; exact app_bound hl, enc_len l, ?_⟩
  conv => whnf
  refine ⟨⟨⟨by decide +kernel, Nat.le_of_ble_eq_true rfl⟩, trivial⟩, ?_⟩
  conv => whnf
  exact ⟨hs_len (by simp), rfl⟩
set_option maxHeartbeats 4000000 in
set_option maxRecDepth 100000 in
theorem l9Copy_ok (l : Is) (last : Int) (hl : l.length < 1100000) : Good Tryz.prog 55 [cat l last] [] (own l last) [.arr 4 (l.map encItem)] := by
  refine good_e noM Tryz.func55 rfl rfl ?_
  conv => whnf
  refine ⟨⟨rfl, rfl, rfl⟩, trivial, ?_⟩
  conv => whnf
  refine ⟨(fun q => by cases q), by rw [List.length_map]; exact app_bound hl, enc_len l, ?_⟩
  conv => whnf
  refine ⟨⟨⟨by decide +kernel, Nat.le_of_ble_eq_true rfl⟩, trivial⟩, ?_⟩
  conv => whnf
  exact ⟨hs_len (by simp), rfl⟩

theorem ia_app {l : Is} {t : RItem} (i : Nat) : ia (l ++ [t]) i = if i < l.length then ia l i else if i = l.length then t else zItem := by
  unfold ia
  rw [List.getD_eq_getElem?_getD]
  by_cases h1 : i < l.length
  · rw [if_pos h1, List.getElem?_append_left h1, List.getD_eq_getElem?_getD]
  · rw [if_neg h1, List.getElem?_append_right (by omega)]
    by_cases h2 : i = l.length
    · rw [if_pos h2, h2, Nat.sub_self]; rfl
    · rw [if_neg h2, show i - l.length = (i - l.length - 1) + 1 by omega]; rfl
theorem ia_set {l : Is} {i : Nat} {x : RItem} (hi : i < l.length) (j : Nat) : ia (l.set i x) j = if j = i then x else ia l j := by
  unfold ia
  rw [List.getD_eq_getElem?_getD, List.getD_eq_getElem?_getD]
  by_cases e : j = i
  · subst e; rw [if_pos rfl, List.getElem?_set_self hi]; rfl
  · rw [if_neg e, List.getElem?_set_ne (fun q => e q.symm)]
theorem putAt_end (l : Is) (t : RItem) : putAt l l.length t = l ++ [t] := by unfold putAt; rw [List.take_length, List.drop_length]
theorem putAt_swap {l : Is} {j : Nat} {t : RItem} (h1 : 0 < j) (h2 : j ≤ l.length) : ((putAt l j t).set j (ia l (j - 1))).set (j - 1) t = putAt l (j - 1) t := by
  refine is_ext (by rw [List.length_set, List.length_set, putAt_len h2, putAt_len (by omega)]) fun k hk => ?_
  rw [List.length_set, List.length_set, putAt_len h2] at hk
  rw [ia_set (by rw [List.length_set, putAt_len h2]; omega), ia_set (by rw [putAt_len h2]; omega), ia_putAt h2, ia_putAt (by omega)]
  by_cases e1 : k = j - 1
  · rw [if_pos e1, if_neg (by omega), if_pos e1]
  · rw [if_neg e1]
    by_cases e2 : k = j
    · rw [if_pos e2, if_neg (by omega), if_neg (by omega), e2]
    · rw [if_neg e2]
      by_cases e3 : k < j
      · rw [if_pos e3, if_pos (by omega)]
      · rw [if_neg e3, if_neg e2, if_neg (by omega), if_neg e1]
theorem swap_enc {l : Is} {j j' : Nat} {t : RItem} (h1 : 0 < j) (h2 : j ≤ l.length) (e : j' = j - 1) : (((putAt l j t).map encItem).set j (encItem (ia l (j - 1)))).set j' (encItem t) = (putAt l (j - 1) t).map encItem := by
  rw [e, ← List.map_set, ← List.map_set, putAt_swap h1 h2]
def sM : FuncId → Bool := fun f => [65, 75, 87].contains f
set_option maxHeartbeats 16000000 in
set_option maxRecDepth 100000 in
theorem insertion_ok (l : Is) (last : Int) (t : RItem) (p : CatP l last) (hf : ∀ k, k < l.length → same (ia l k) t.a t.b = false) :
    Good Tryz.prog 87 [.one (.hs 0 0 (l.length + 1)), vint 0, vint ((l.length + 1 : Nat) : Int), .clo 30 []] [.arr 4 ((l ++ [t]).map encItem)] (.tup []) [.arr 4 ((putAt l (kOf l t.a t.b) t).map encItem)] := by
  have hl8 := p.len
  refine good_e sM Tryz.func87 rfl rfl ?_
  conv => whnf
  have w1 : IntKind.i64.wrap (0 + 1) = 1 := wi _ (by omega) (by omega)
  rw [w1]
  refine VLoop.enter [0, 1, 2, 3, 8] ?_
  conv => whnf
  refine VLoop.ind2 (n0 := 1) (α := Int) (β := List (List PV)) sM [0, 1, 2, 3, 8] (fun a E => ⟨53, 1, [(0, .one (.hs 0 0 (l.length + 1))), (1, vint 0), (2, vint ((l.length + 1 : Nat) : Int)), (3, .clo 30 []), (8, vint a)], [(0, some (.arr 4 E))]⟩)
    (fun a E => ∃ i : Nat, a = i ∧ 1 ≤ i ∧ ((i ≤ l.length ∧ E = (l ++ [t]).map encItem) ∨ (i = l.length + 1 ∧ E = (putAt l (kOf l t.a t.b) t).map encItem))) (fun a _ => ((l.length + 1 : Nat) - a).toNat) ?_ 1 _ ⟨1, rfl, by omega, ?_⟩
  rotate_left
  · by_cases h : 1 ≤ l.length
    · exact .inl ⟨h, rfl⟩
    · have hn : l = [] := List.length_eq_zero_iff.1 (by omega)
      subst hn
      exact .inr ⟨rfl, rfl⟩
  rintro _ E ⟨i, rfl, hi1, hE⟩
  conv => whnf
  split
  · rename_i q
    have q' := of_decide_eq_true q
    obtain ⟨hi, rfl⟩ : i ≤ l.length ∧ E = (l ++ [t]).map encItem := by
      rcases hE with h | ⟨h, _⟩
      · exact h
      · omega
    have hw : IntKind.i64.wrap ((i : Int) + 1) = i + 1 := wi _ (by omega) (by omega)
    conv => whnf
    refine VLoop.enter [0, 1, 2, 3, 8, 9] ?_
    conv => whnf
    by_cases hil : i < l.length
    · have hmm : ((l ++ [t]).map encItem).length = l.length + 1 := by rw [List.length_map, List.length_append]; rfl
      have hw1 : IntKind.i64.wrap ((i : Int) - 1) = ((i - 1 : Nat) : Int) := by rw [wi _ (by omega) (by omega)]; omega
      have e1 : 0 + (i : Int).toNat = i := by omega
      have e2 : 0 + ((i - 1 : Nat) : Int).toNat = i - 1 := by omega
      refine VLoop.step sM ?_
      conv => whnf
      refine VDraw.go ⟨_, [0, 0, 3, 7, 15, 15, 15, 111, 239, 15, 15, 1039, 3599, 7695, 16383, 32767, 65535], [14], []⟩ rfl rfl (by decide +kernel) ?_
      conv => whnf
      split
      case h_2 => rename_i q2; have := of_decide_eq_false q2; omega
      conv => whnf
      refine ⟨by omega, by omega, by omega, ?_⟩
      conv => whnf
      refine ⟨_, ia_at (l ++ [t]) e1 (by rw [List.length_append]; omega), ?_⟩
      conv => whnf
      rw [hw1]
      refine ⟨by omega, by omega, by omega, ?_⟩
      conv => whnf
      refine ⟨_, ia_at (l ++ [t]) e2 (by rw [List.length_append]; omega), ?_⟩
      conv => whnf
      refine .mk _ _ false Tryz.call30 (order_ok _ _) (Nat.le_of_ble_eq_true rfl) (.inl rfl) ?_
      conv => whnf
      have hno : ¬ ordI (ia (l ++ [t]) i) (ia (l ++ [t]) (i - 1)) < 0 := by
        rw [ordI_neg, ia_app, ia_app, if_pos hil, if_pos (by omega), less_asymm (p.sorted (by omega) hil)]
        simp
      split
      · rename_i q3; exact absurd (of_decide_eq_true q3) hno
      conv => whnf
      refine ⟨_, _, rfl, rfl, ⟨i + 1, by rw [hw]; simp, by omega, .inl ⟨by omega, rfl⟩⟩, by rw [hw]; omega⟩
    · have hie : i = l.length := by omega
      subst hie
      rw [← putAt_end]
      refine VLoop.ind2 (n0 := 1) (α := Int) (β := List (List PV)) sM [0, 1, 2, 3, 8, 9] (fun a E => ⟨53, 1, [(0, .one (.hs 0 0 (l.length + 1))), (1, vint 0), (2, vint ((l.length + 1 : Nat) : Int)), (3, .clo 30 []), (8, vint l.length), (9, vint a)], [(0, some (.arr 4 E))]⟩)
        (fun a E => ∃ j : Nat, a = j ∧ j ≤ l.length ∧ E = (putAt l j t).map encItem ∧ ∀ m, j ≤ m → m < l.length → less t (ia l m).a (ia l m).b = true) (fun a _ => a.toNat) ?_ _ _ ⟨l.length, rfl, Nat.le_refl _, rfl, fun m h1 h2 => by omega⟩
      rintro _ _ ⟨j, rfl, hj, rfl, hgt⟩
      have hmm : ((putAt l j t).map encItem).length = l.length + 1 := by rw [List.length_map, putAt_len hj]
      have done : (0 < j → less t (ia l (j - 1)).a (ia l (j - 1)).b = false) → j = kOf l t.a t.b := by
        intro hs
        refine kOf_eq t.a t.b hj (fun m hm => ?_) (fun hjl => less_asymm (hgt j (Nat.le_refl _) hjl))
        have h1 : less (ia l (j - 1)) t.a t.b = true := by
          cases hq : less (ia l (j - 1)) t.a t.b with
          | true => rfl
          | false => have := less_tri hq (hs (by omega)); rw [hf _ (by omega)] at this; cases this
        by_cases e : m = j - 1
        · rw [e]; exact h1
        · exact less_trans (p.sorted (show m < j - 1 by omega) (by omega)) h1
      conv => whnf
      refine VDraw.go ⟨_, [0, 0, 3, 7, 15, 15, 15, 111, 239, 15, 15, 1039, 3599, 7695, 16383, 32767, 65535], [14], []⟩ rfl rfl (by decide +kernel) ?_
      conv => whnf
      split
      · rename_i q2
        have q2' := of_decide_eq_true q2
        have hw1 : IntKind.i64.wrap ((j : Int) - 1) = ((j - 1 : Nat) : Int) := by rw [wi _ (by omega) (by omega)]; omega
        have e1 : 0 + (j : Int).toNat = j := by omega
        have e2 : 0 + ((j - 1 : Nat) : Int).toNat = j - 1 := by omega
        have hgj : ia (putAt l j t) j = t := by rw [ia_putAt hj, if_neg (by omega), if_pos rfl]
        have hgj1 : ia (putAt l j t) (j - 1) = ia l (j - 1) := by rw [ia_putAt hj, if_pos (by omega)]
        conv => whnf
        refine ⟨by omega, by omega, by omega, ?_⟩
        conv => whnf
        refine ⟨_, ia_at (putAt l j t) e1 (by rw [putAt_len hj]; omega), ?_⟩
        rw [hgj]
        conv => whnf
        rw [hw1]
        refine ⟨by omega, by omega, by omega, ?_⟩
        conv => whnf
        refine ⟨_, ia_at (putAt l j t) e2 (by rw [putAt_len hj]; omega), ?_⟩
        rw [hgj1]
        conv => whnf
        refine .mk _ _ false Tryz.call30 (order_ok t (ia l (j - 1))) (Nat.le_of_ble_eq_true rfl) (.inl rfl) ?_
        conv => whnf
        have hord := @ordI_neg t (ia l (j - 1))
        split
        · rename_i q3
          have q3' := hord.1 (of_decide_eq_true q3)
          conv => whnf
          refine VDraw.go ⟨137, [0, 0, 0, 0, 8, 0, 0, 64, 224, 480, 0, 0, 3072, 7168, 16355, 32739, 65535, 131071], [15, 17], [(15, [0]), (17, [0])]⟩ rfl rfl (by decide +kernel) ?_
          conv => whnf
          rw [hw1]
          refine ⟨by omega, by omega, by omega, ?_⟩
          conv => whnf
          refine ⟨_, ia_at (putAt l j t) e2 (by rw [putAt_len hj]; omega), ?_⟩
          rw [hgj1]
          conv => whnf
          refine ⟨by omega, by omega, by omega, ?_⟩
          conv => whnf
          refine ⟨_, ia_at (putAt l j t) e1 (by rw [putAt_len hj]; omega), ?_⟩
          rw [hgj]
          conv => whnf
          refine ⟨by omega, by omega, by omega, ?_⟩
          conv => whnf
          refine ⟨_, ia_at (putAt l j t) e1 (by rw [putAt_len hj]; omega), by omega, ?_⟩
          rw [hgj]
          conv => whnf
          refine ⟨by omega, by omega, by rw [List.length_set]; omega, ?_⟩
          conv => whnf
          refine ⟨_, ((congrArg (fun z => List.getD z (0 + ((j - 1 : Nat) : Int).toNat) []) (show _ = ((putAt l j t).set j (ia l (j - 1))).map encItem from by rw [List.map_set, e1]; rfl)).trans (ia_at _ e2 (by rw [List.length_set, putAt_len hj]; omega))), by rw [List.length_set]; omega, ?_⟩
          conv => whnf
          refine ⟨_, _, rfl, rfl, ⟨j - 1, ?_, by omega, ?_, fun m h1 h2 => ?_⟩, ?_⟩
          · exact hw1
          · rw [e1, e2]; exact swap_enc (by omega) hj rfl
          · by_cases e : m = j - 1
            · rw [e]; exact q3'
            · exact hgt m (by omega) h2
          · rw [hw1]; omega
        · rename_i q3
          have q3' := of_decide_eq_false q3
          have hd := done (fun _ => by cases hq : less t (ia l (j - 1)).a (ia l (j - 1)).b with | false => rfl | true => exact absurd (hord.2 hq) q3')
          conv => whnf
          exact ⟨_, _, rfl, rfl, ⟨l.length + 1, by rw [hw]; simp, by omega, .inr ⟨rfl, by rw [hd]⟩⟩, by rw [hw]; omega⟩
      · rename_i q2
        have q2' := of_decide_eq_false q2
        have hd := done (fun q => by omega)
        conv => whnf
        exact ⟨_, _, rfl, rfl, ⟨l.length + 1, by rw [hw]; simp, by omega, .inr ⟨rfl, by rw [hd]⟩⟩, by rw [hw]; omega⟩
  · rename_i q
    have q' := of_decide_eq_false q
    obtain ⟨hi, rfl⟩ : i = l.length + 1 ∧ E = (putAt l (kOf l t.a t.b) t).map encItem := by
      rcases hE with ⟨h, _⟩ | h
      · omega
      · exact h
    conv => whnf
    refine ⟨trivial, ?_⟩
    conv => whnf
    exact ⟨rfl, rfl⟩
end Go.Abs.C

set_option linter.unusedSimpArgs false
set_option linter.unusedVariables false
namespace Go.Abs.C
open Go Go.Abs Go.Proofs

set_option maxHeartbeats 16000000 in
set_option maxRecDepth 100000 in
theorem bits64_ok (n : Nat) (h : n ≤ 9) : ∃ r out, (∃ v, r = vint v ∧ out = []) ∧ Good Tryz.prog 96 [lit (.int .u64 n)] [] r out := by
  have : n = 0 ∨ n = 1 ∨ n = 2 ∨ n = 3 ∨ n = 4 ∨ n = 5 ∨ n = 6 ∨ n = 7 ∨ n = 8 ∨ n = 9 := by omega
  rcases this with rfl | rfl | rfl | rfl | rfl | rfl | rfl | rfl | rfl | rfl
  all_goals
    refine good_v noM Tryz.func96 rfl rfl ?_
    conv => whnf
    refine ⟨trivial, ?_⟩
    conv => whnf
    refine ⟨by decide, by decide +kernel, ?_⟩
    conv => whnf
    refine ⟨trivial, ?_⟩
    conv => whnf
    refine ⟨trivial, ?_⟩
    conv => whnf
    exact ⟨_, rfl, rfl⟩
set_option maxHeartbeats 16000000 in
set_option maxRecDepth 100000 in
theorem bits_ok (n : Nat) (h : n ≤ 9) : ∃ r out, (∃ v, r = vint v ∧ out = []) ∧ Good Tryz.prog 76 [lit (.int .u64 n)] [] r out := by
  refine good_v noM Tryz.func76 rfl rfl ?_
  conv => whnf
  obtain ⟨_, _, ⟨v, rfl, rfl⟩, hg⟩ := bits64_ok n h
  refine .mk _ _ false Tryz.call96 hg (Nat.le_of_ble_eq_true rfl) (.inl rfl) ?_
  conv => whnf
  refine ⟨trivial, ?_⟩
  conv => whnf
  exact ⟨_, rfl, rfl⟩

theorem w64 (n : Nat) (h : n ≤ 9) : IntKind.u64.wrap (n : Int) = n := by
  have : n = 0 ∨ n = 1 ∨ n = 2 ∨ n = 3 ∨ n = 4 ∨ n = 5 ∨ n = 6 ∨ n = 7 ∨ n = 8 ∨ n = 9 := by omega
  rcases this with rfl | rfl | rfl | rfl | rfl | rfl | rfl | rfl | rfl | rfl <;> decide
end Go.Abs.C

set_option linter.unusedSimpArgs false
set_option linter.unusedVariables false
namespace Go.Abs.C
open Go Go.Abs Go.Proofs
attribute [local irreducible] IntKind.wrap

set_option maxHeartbeats 16000000 in
set_option maxRecDepth 100000 in
theorem pdq_ok (l : Is) (last v : Int) (t : RItem) (p : CatP l last) (hf : ∀ k, k < l.length → same (ia l k) t.a t.b = false) :
    Good Tryz.prog 75 [.one (.hs 0 0 (l.length + 1)), vint 0, vint ((l.length + 1 : Nat) : Int), vint v, .clo 30 []] [.arr 4 ((l ++ [t]).map encItem)] (.tup []) [.arr 4 ((putAt l (kOf l t.a t.b) t).map encItem)] := by
  have hl8 := p.len
  refine good_e sM Tryz.func75 rfl rfl ?_
  conv => whnf
  refine VLoop.step sM ?_
  conv => whnf
  have hw : IntKind.i64.wrap (((l.length + 1 : Nat) : Int) - 0) = ((l.length + 1 : Nat) : Int) := by rw [wi _ (by omega) (by omega)]; omega
  split
  case h_2 => rename_i q; have q' := of_decide_eq_false q; rw [hw] at q'; omega
  conv => whnf
  refine .mk _ _ false Tryz.call87 (insertion_ok l last t p hf) (Nat.le_of_ble_eq_true rfl) (.inl rfl) ?_
  conv => whnf
  refine ⟨trivial, ?_⟩
  conv => whnf
  exact ⟨rfl, rfl⟩
set_option maxHeartbeats 16000000 in
set_option maxRecDepth 100000 in
theorem sort_ok (l : Is) (last : Int) (t : RItem) (p : CatP l last) (hf : ∀ k, k < l.length → same (ia l k) t.a t.b = false) :
    Good Tryz.prog 65 [.one (.hs 0 0 (l.length + 1)), .clo 30 []] [.arr 4 ((l ++ [t]).map encItem)] (.tup []) [.arr 4 ((putAt l (kOf l t.a t.b) t).map encItem)] := by
  have hl8 := p.len
  refine good_e sM Tryz.func65 rfl rfl ?_
  conv => whnf
  refine ⟨trivial, ?_⟩
  conv => whnf
  have hw : IntKind.u64.wrap ((l.length + 1 : Nat) : Int) = ((l.length + 1 : Nat) : Int) := w64 _ (by omega)
  rw [hw]
  obtain ⟨_, _, ⟨v, rfl, rfl⟩, hg⟩ := bits_ok (l.length + 1) (by omega)
  refine .mk _ _ false Tryz.call76 hg (Nat.le_of_ble_eq_true rfl) (.inl rfl) ?_
  conv => whnf
  refine .mk _ _ false Tryz.call75 (pdq_ok l last v t p hf) (Nat.le_of_ble_eq_true rfl) (.inl rfl) ?_
  conv => whnf
  refine ⟨trivial, ?_⟩
  conv => whnf
  exact ⟨rfl, rfl⟩

@[reducible] def putR (T : Is × Int × Int) : AV := .tup [.agg [.p (.lit (.int .i64 T.2.1)), .hs 0 0 T.1.length], vint T.2.2]
@[reducible] def putB (T : Is × Int × Int) : List Blk := [.arr 4 (T.1.map encItem)]
@[reducible] def subCat (l : Is) (n : Nat) (last : Int) : AV := .agg [.p (.lit (.int .i64 last)), .p (.sl (List.take n (List.drop 0 (l.map encItem))))]
theorem sub_all {l : Is} {n : Nat} (hn : n = l.length) : List.take n (List.drop 0 (l.map encItem)) = l.map encItem := by
  rw [List.drop_zero, List.take_of_length_le (by simp; omega)]
theorem sub_cat {l : Is} {n : Nat} (hn : n = l.length) (last : Int) : subCat l n last = cat l last := by unfold subCat cat; rw [sub_all hn]
theorem arr_noSl (l : Is) : ∀ k ∈ [Blk.arr 4 (l.map encItem)], k.noSl := by
  intro k hk
  cases List.mem_singleton.1 hk
  intro el hel x hx
  obtain ⟨y, _, rfl⟩ := List.mem_map.1 hel
  unfold encItem at hx
  simp only [List.mem_cons, List.not_mem_nil, or_false] at hx
  rcases hx with rfl | rfl | rfl | rfl <;> trivial
theorem clone' {l : Is} {n : Nat} (hn : n = l.length) (last : Int) (hl : l.length < 1100000) : Good Tryz.prog 62 [subCat l n last] [] (own l last) [.arr 4 (l.map encItem)] := by
  rw [sub_cat hn]; exact clone_ok l last hl
set_option maxHeartbeats 16000000 in
set_option maxRecDepth 100000 in
theorem put_ok (l : Is) (last h : Int) (n t : ByteArray) (p : CatP l last) (hn : n.size ≤ 9223372036854775807) : Good Tryz.prog 41 [cat l last, vint h, vstr n, vstr t] [] (putR (putC l last h n t)) (putB (putC l last h n t)) := by
  have hl8 := p.len
  have hlast := inR_iff.1 p.lst
  have hm : (l.map encItem).length = l.length := by rw [List.length_map]
  refine good_e sM Tryz.func41 rfl rfl ?_
  conv => whnf
  refine .mk _ _ false Tryz.call62 (clone_ok l last (by omega)) (Nat.le_of_ble_eq_true rfl) (.inl rfl) ?_
  conv => whnf
  refine .mk _ _ false Tryz.call28 (publ_ok ⟨h, n, 0, t⟩ hn) (Nat.le_of_ble_eq_true rfl) (.inl rfl) ?_
  conv => whnf
  generalize hT : putC l last h n t = T
  unfold putC at hT
  cases h1 : itemOk ⟨h, n, 0, t⟩ with
  | false =>
    rw [h1] at hT
    try simp only at hT
    subst hT
    conv => whnf
    refine ⟨⟨⟨by decide +kernel, Nat.le_of_ble_eq_true rfl⟩, trivial⟩, ?_⟩
    conv => whnf
    exact ⟨rfl, rfl⟩
  | true =>
    rw [h1] at hT
    try simp only at hT
    have ht300 : t.size ≤ 300 := by
      unfold itemOk at h1
      simp only [Bool.and_eq_true] at h1
      have := (inR_iff.1 h1.2.2).2
      omega
    conv => whnf
    refine .mk _ _ false Tryz.call63 (find_ok l last h n (by omega)) (Nat.le_of_ble_eq_true rfl) (.inl rfl) ?_
    conv => whnf
    split
    · rename_i h2
      rw [h2] at hT
      try simp only at hT
      subst hT
      conv => whnf
      refine ⟨⟨⟨by decide +kernel, Nat.le_of_ble_eq_true rfl⟩, trivial⟩, ?_⟩
      conv => whnf
      exact ⟨rfl, rfl⟩
    · rename_i h2
      rw [h2] at hT
      try simp only at hT
      have hno := findI_neg (p := fun x => same x h n) (l := l) (by have := of_decide_eq_false h2; omega)
      have hbo : bytesOf l h ≤ 8 * 300 := Nat.le_trans (bytesOf_le h 300 l p.small) (Nat.mul_le_mul_right _ hl8)
      conv => whnf
      split
      · rename_i h3
        simp only [beq_iff_eq] at h3
        rw [decide_eq_true (p := l.length ≥ 8) (by omega)] at hT
        simp only [Bool.true_or] at hT
        subst hT
        conv => whnf
        refine ⟨⟨⟨by decide +kernel, Nat.le_of_ble_eq_true rfl⟩, trivial⟩, ?_⟩
        conv => whnf
        exact ⟨rfl, rfl⟩
      · rename_i h3
        simp only [beq_eq_false_iff_ne] at h3
        rw [decide_eq_false (p := l.length ≥ 8) (by omega)] at hT
        simp only [Bool.false_or] at hT
        conv => whnf
        split
        · rename_i h4
          simp only [beq_iff_eq] at h4
          rw [decide_eq_true (p := last ≥ 99999) (by omega)] at hT
          simp only [Bool.true_or] at hT
          subst hT
          conv => whnf
          refine ⟨⟨⟨by decide +kernel, Nat.le_of_ble_eq_true rfl⟩, trivial⟩, ?_⟩
          conv => whnf
          exact ⟨rfl, rfl⟩
        · rename_i h4
          simp only [beq_eq_false_iff_ne] at h4
          rw [decide_eq_false (p := last ≥ 99999) (by omega)] at hT
          simp only [Bool.false_or] at hT
          conv => whnf
          refine .mk _ _ false Tryz.call31 (bytes_ok l last h (by omega) (fun x hx => Nat.le_trans (p.small x hx) (by decide))) (Nat.le_of_ble_eq_true rfl) (.inl rfl) ?_
          conv => whnf
          have hwb : IntKind.i64.wrap ((bytesOf l h : Int) + (t.size : Int)) = bytesOf l h + t.size := wi _ (by omega) (by omega)
          split
          · rename_i h5
            have h5' := of_decide_eq_true h5
            rw [hwb] at h5'
            rw [decide_eq_true (p := bytesOf l h + t.size > 500) (by omega)] at hT
            try simp only at hT
            subst hT
            conv => whnf
            refine ⟨⟨⟨by decide +kernel, Nat.le_of_ble_eq_true rfl⟩, trivial⟩, ?_⟩
            conv => whnf
            exact ⟨rfl, rfl⟩
          · rename_i h5
            have h5' := of_decide_eq_false h5
            rw [hwb] at h5'
            rw [decide_eq_false (p := bytesOf l h + t.size > 500) (by omega)] at hT
            try simp only at hT
            subst hT
            conv => whnf
            refine ⟨⟨rfl, hm.symm, rfl⟩, Nat.le_refl 1, ?_⟩
            conv => whnf
            have hwl : IntKind.i64.wrap (last + 1) = last + 1 := wi _ (by omega) (by omega)
            refine ⟨(fun q => by cases q), Nat.le_trans (Nat.mul_le_mul (show (l.map encItem).length + 1 ≤ 1100000 by omega) bytes36) (by decide), fun el hel => by cases List.mem_singleton.1 hel; rfl, ?_⟩
            conv => whnf
            rw [hwl]
            have hso := sort_ok l last ⟨h, n, last + 1, t⟩ p hno
            rw [List.map_append] at hso
            rw [hm]
            refine .mk _ _ false Tryz.call65 hso (Nat.le_of_ble_eq_true rfl) (.inl rfl) ?_
            conv => whnf
            have hpl : (putAt l (kOf l h n) ⟨h, n, last + 1, t⟩).length = l.length + 1 := putAt_len (kOf_le l h n)
            have hpm : ((putAt l (kOf l h n) ⟨h, n, last + 1, t⟩).map encItem).length = l.length + 1 := by rw [List.length_map]; exact hpl
            refine ⟨(show 0 + (l.length + 1) ≤ ((putAt l (kOf l h n) ⟨h, n, last + 1, t⟩).map encItem).length by omega), ?_⟩
            conv => whnf
            refine .mk _ _ false Tryz.call62 (clone' (l := putAt l (kOf l h n) ⟨h, n, last + 1, t⟩) (n := l.length + 1) hpl.symm (last + 1) (by omega)) (Nat.le_of_ble_eq_true rfl) (.inr ⟨AV.nsB_iff rfl, arr_noSl _⟩) ?_
            conv => whnf
            refine ⟨⟨⟨by decide +kernel, Nat.le_of_ble_eq_true rfl⟩, trivial⟩, ?_⟩
            conv => whnf
            exact ⟨rfl, rfl⟩
theorem hs_len2 {L : Is} {a b : Int} {n : Nat} (hn : n = L.length) (e : a = b) : AV.agg [.p (.lit (.int .i64 a)), .hs 0 0 n] = own L b := by rw [hn, e]
theorem appB {n : Nat} (h : n ≤ 1100000) : n * (Tryz.prog.bytesOf 49 + 1) ≤ 140737488355328 := Nat.le_trans (Nat.mul_le_mul h bytes36) (by decide)
set_option maxHeartbeats 16000000 in
set_option maxRecDepth 100000 in
theorem l9Put_ok (l : Is) (last : Int) (x : RItem) (p : CatP l last) : Good Tryz.prog 58 [cat l last, .agg ((encItem x).map .p)] [] (own (putAt l (kOf l x.a x.b) { x with c := last + 1 }) (last + 1)) [.arr 4 ((putAt l (kOf l x.a x.b) { x with c := last + 1 }).map encItem)] := by
  have hl8 := p.len
  have hlast := inR_iff.1 p.lst
  have hm : (l.map encItem).length = l.length := by rw [List.length_map]
  refine good_e noM Tryz.func58 rfl rfl ?_
  conv => whnf
  refine VLoop.enter [2, 3, 4, 5] ?_
  conv => whnf
  refine VLoop.ind1 (n0 := 3) (α := Int) noM [2, 3, 4, 5] (fun a => ⟨49, 0, [(2, .one (.hp 0 0 0)), (3, .one (.hp 1 0 0)), (4, .one (.hp 2 0 0)), (5, vint a)], [(0, some (.box [.p (.lit (.int .i64 last)), .p (.sl (l.map encItem))])), (1, some (.box ((encItem x).map .p))), (2, some (.box [.p (.lit (.int .i64 0)), .p (.lit (.slice none 0 0))]))]⟩)
    (fun a => ∃ k : Nat, a = k ∧ k ≤ l.length ∧ ∀ j, j < k → less (ia l j) x.a x.b = true) (fun a => ((l.length : Int) - a).toNat) ?_ 0 ⟨0, rfl, by omega, fun k hk => by omega⟩
  rintro _ ⟨k, rfl, hk, hp⟩
  have hw : IntKind.i64.wrap ((k : Int) + 1) = k + 1 := wi _ (by omega) (by omega)
  have en : (k : Int).toNat = k := Int.toNat_natCast k
  conv => whnf
  refine VDraw.go ⟨_, [0, 0, 2, 6, 15, 31, 63, 127, 63, 511, 1023, 63, 2111, 63, 8255, 32767, 65535], [15], []⟩ rfl rfl (by decide +kernel) ?_
  conv => whnf
  have tail : (k < l.length → less (ia l k) x.a x.b = false) → k = kOf l x.a x.b := fun h => kOf_eq x.a x.b hk hp h
  split
  · rename_i q
    have q' := of_decide_eq_true q
    have hkl : k < l.length := by omega
    conv => whnf
    refine ⟨by omega, by omega, _, ia_at l en hkl, ?_⟩
    conv => whnf
    refine .mk _ _ false Tryz.call69 (l9Less_ok _ _ _) (Nat.le_of_ble_eq_true rfl) (.inl rfl) ?_
    conv => whnf
    cases hq : less (ia l k) x.a x.b with
    | true =>
      conv => whnf
      refine ⟨_, rfl, rfl, ⟨k + 1, by rw [hw]; simp, by omega, fun j hj => ?_⟩, by rw [hw]; omega⟩
      by_cases e : j = k
      · subst e; exact hq
      · exact hp j (by omega)
    | false =>
      have hkk := tail (fun _ => hq)
      rw [← hkk]
      conv => whnf
      refine VDraw.go ⟨219, [0, 0, 2, 0, 14, 31, 0, 64, 255, 0, 512, 0, 3584, 8191, 16383, 32767], [0, 5, 7, 8, 13, 15], [(5, [219]), (8, [259]), (13, [283]), (15, [171])]⟩ rfl rfl (by decide +kernel) ?_
      conv => whnf
      have ek : List.take ((k : Int).toNat - Int.toNat 0) (List.drop (Int.toNat 0) (l.map encItem)) = (l.take k).map encItem := by
        rw [en]; show List.take (k - 0) (List.drop 0 _) = _; rw [List.drop_zero, Nat.sub_zero, List.map_take]
      have ed : List.take (((l.map encItem).length : Int).toNat - (k : Int).toNat) (List.drop (k : Int).toNat (l.map encItem)) = (l.drop k).map encItem := by
        rw [en, Int.toNat_natCast, List.take_of_length_le (by rw [List.length_drop]; omega), List.map_drop]
      have lt8 : ((l.take k).map encItem).length ≤ 8 := by rw [List.length_map, List.length_take]; omega
      have ld8 : ((l.drop k).map encItem).length ≤ 8 := by rw [List.length_map, List.length_drop]; omega
      refine ⟨⟨by omega, by omega, by omega, by decide +kernel, fun x hx => (enc_len l x hx).trans (by decide +kernel)⟩, ?_⟩
      rw [ek]
      conv => whnf
      refine ⟨⟨rfl, rfl, rfl⟩, trivial, ?_⟩
      conv => whnf
      refine ⟨(fun q => by cases q), Nat.le_trans (Nat.mul_le_mul (show 0 + ((l.take k).map encItem).length ≤ 1100000 by omega) bytes36) (by decide), enc_len _, ?_⟩
      conv => whnf
      refine ⟨⟨rfl, (by rw [List.length_append]), rfl⟩, Nat.le_refl 1, ?_⟩
      conv => whnf
      refine ⟨(fun q => by cases q), appB (by rw [List.length_append]; show (0 + ((l.take k).map encItem).length) + 1 ≤ 1100000; omega), fun el hel => by cases List.mem_singleton.1 hel; rfl, ?_⟩
      conv => whnf
      refine ⟨⟨by omega, by omega, by omega, by decide +kernel, fun x hx => (enc_len l x hx).trans (by decide +kernel)⟩, ?_⟩
      rw [ed]
      conv => whnf
      refine ⟨⟨rfl, (by simp only [List.length_append]), rfl⟩, trivial, ?_⟩
      conv => whnf
      refine ⟨(fun q => by cases q), appB (by rw [List.length_append, List.length_append]; show ((0 + ((l.take k).map encItem).length) + 1) + _ ≤ 1100000; omega), enc_len _, ?_⟩
      conv => whnf
      refine ⟨⟨⟨by decide +kernel, Nat.le_of_ble_eq_true rfl⟩, trivial⟩, ?_⟩
      conv => whnf
      refine ⟨hs_len2 ?_ (wi _ (by omega) (by omega)), congrArg (fun E => [Blk.arr 4 E]) (show ([] ++ (l.take k).map encItem ++ [encItem { x with c := IntKind.i64.wrap (last + 1) }]) ++ (l.drop k).map encItem = _ from ?_)⟩
      · try simp only [List.length_append]
        rw [putAt_len hk]
        show 0 + ((l.take k).map encItem).length + 1 + ((l.drop k).map encItem).length = _
        rw [List.length_map, List.length_map, List.length_take, List.length_drop]; omega
      · rw [wi (last + 1) (by omega) (by omega)]
        unfold putAt
        rw [List.map_append, List.map_cons, List.nil_append, List.append_assoc]; rfl
  · rename_i q
    have q' := of_decide_eq_false q
    have hkk := tail (fun h => by omega)
    rw [← hkk]
    conv => whnf
    refine VDraw.go ⟨219, [0, 0, 2, 0, 14, 31, 0, 64, 255, 0, 512, 0, 3584, 8191, 16383, 32767], [0, 5, 7, 8, 13, 15], [(5, [219]), (8, [259]), (13, [283]), (15, [171])]⟩ rfl rfl (by decide +kernel) ?_
    conv => whnf
    have ek : List.take ((k : Int).toNat - Int.toNat 0) (List.drop (Int.toNat 0) (l.map encItem)) = (l.take k).map encItem := by
      rw [en]; show List.take (k - 0) (List.drop 0 _) = _; rw [List.drop_zero, Nat.sub_zero, List.map_take]
    have ed : List.take (((l.map encItem).length : Int).toNat - (k : Int).toNat) (List.drop (k : Int).toNat (l.map encItem)) = (l.drop k).map encItem := by
      rw [en, Int.toNat_natCast, List.take_of_length_le (by rw [List.length_drop]; omega), List.map_drop]
    have lt8 : ((l.take k).map encItem).length ≤ 8 := by rw [List.length_map, List.length_take]; omega
    have ld8 : ((l.drop k).map encItem).length ≤ 8 := by rw [List.length_map, List.length_drop]; omega
    refine ⟨⟨by omega, by omega, by omega, by decide +kernel, fun x hx => (enc_len l x hx).trans (by decide +kernel)⟩, ?_⟩
    rw [ek]
    conv => whnf
    refine ⟨⟨rfl, rfl, rfl⟩, trivial, ?_⟩
    conv => whnf
    refine ⟨(fun q => by cases q), Nat.le_trans (Nat.mul_le_mul (show 0 + ((l.take k).map encItem).length ≤ 1100000 by omega) bytes36) (by decide), enc_len _, ?_⟩
    conv => whnf
    refine ⟨⟨rfl, (by rw [List.length_append]), rfl⟩, Nat.le_refl 1, ?_⟩
    conv => whnf
    refine ⟨(fun q => by cases q), appB (by rw [List.length_append]; show (0 + ((l.take k).map encItem).length) + 1 ≤ 1100000; omega), fun el hel => by cases List.mem_singleton.1 hel; rfl, ?_⟩
    conv => whnf
    refine ⟨⟨by omega, by omega, by omega, by decide +kernel, fun x hx => (enc_len l x hx).trans (by decide +kernel)⟩, ?_⟩
    rw [ed]
    conv => whnf
    refine ⟨⟨rfl, (by simp only [List.length_append]), rfl⟩, trivial, ?_⟩
    conv => whnf
    refine ⟨(fun q => by cases q), appB (by rw [List.length_append, List.length_append]; show ((0 + ((l.take k).map encItem).length) + 1) + _ ≤ 1100000; omega), enc_len _, ?_⟩
    conv => whnf
    refine ⟨⟨⟨by decide +kernel, Nat.le_of_ble_eq_true rfl⟩, trivial⟩, ?_⟩
    conv => whnf
    refine ⟨hs_len2 ?_ (wi _ (by omega) (by omega)), congrArg (fun E => [Blk.arr 4 E]) (show ([] ++ (l.take k).map encItem ++ [encItem { x with c := IntKind.i64.wrap (last + 1) }]) ++ (l.drop k).map encItem = _ from ?_)⟩
    · try simp only [List.length_append]
      rw [putAt_len hk]
      show 0 + ((l.take k).map encItem).length + 1 + ((l.drop k).map encItem).length = _
      rw [List.length_map, List.length_map, List.length_take, List.length_drop]; omega
    · rw [wi (last + 1) (by omega) (by omega)]
      unfold putAt
      rw [List.map_append, List.map_cons, List.nil_append, List.append_assoc]; rfl
end Go.Abs.C

set_option linter.unusedSimpArgs false
set_option linter.unusedVariables false
namespace Go.Abs.C
open Go Go.Abs Go.Proofs
attribute [local irreducible] IntKind.wrap
@[reducible] def noCat : AV := .agg [.p (.lit (.int .i64 0)), .p (.lit (.slice none 0 0))]
@[reducible] def badC : AV := .tup [noCat, vint 1]
set_option maxHeartbeats 16000000 in
set_option maxRecDepth 100000 in
theorem specPut_bad (l : Is) (last h : Int) (n t : ByteArray) (hl : l.length < 1100000) (hs : ∀ x ∈ l, x.b.size ≤ 9223372036854775807) (hp : catOk l last = false) : Good Tryz.prog 36 [cat l last, vint h, vstr n, vstr t] [] badC [] := by
  refine good_e sM Tryz.func36 rfl rfl ?_
  conv => whnf
  refine .mk _ _ false Tryz.call53 (specOk_ok l last hl hs) (Nat.le_of_ble_eq_true rfl) (.inl rfl) ?_
  rw [hp]
  conv => whnf
  refine ⟨⟨⟨by decide +kernel, Nat.le_of_ble_eq_true rfl⟩, trivial⟩, ?_⟩
  conv => whnf
  exact ⟨rfl, rfl⟩
set_option maxHeartbeats 16000000 in
set_option maxRecDepth 100000 in
theorem specPut_ok (l : Is) (last h : Int) (n t : ByteArray) (hs : ∀ x ∈ l, x.b.size ≤ 9223372036854775807) (hn : n.size ≤ 9223372036854775807) (p : CatP l last) : Good Tryz.prog 36 [cat l last, vint h, vstr n, vstr t] [] (putR (putC l last h n t)) (putB (putC l last h n t)) := by
  have hl8 := p.len
  have hlast := inR_iff.1 p.lst
  have hm : (l.map encItem).length = l.length := by rw [List.length_map]
  refine good_e sM Tryz.func36 rfl rfl ?_
  conv => whnf
  refine .mk _ _ false Tryz.call53 (specOk_ok l last (by omega) hs) (Nat.le_of_ble_eq_true rfl) (.inl rfl) ?_
  rw [catOk_true p]
  conv => whnf
  refine .mk _ _ false Tryz.call43 (l9Ok_ok ⟨h, n, 0, t⟩ hn) (Nat.le_of_ble_eq_true rfl) (.inl rfl) ?_
  conv => whnf
  generalize hT : putC l last h n t = T
  unfold putC at hT
  cases h1 : itemOk ⟨h, n, 0, t⟩ with
  | false =>
    rw [h1] at hT
    simp only at hT
    subst hT
    conv => whnf
    refine .mk _ _ false Tryz.call55 (l9Copy_ok l last (by omega)) (Nat.le_of_ble_eq_true rfl) (.inl rfl) ?_
    conv => whnf
    refine ⟨⟨⟨by decide +kernel, Nat.le_of_ble_eq_true rfl⟩, trivial⟩, ?_⟩
    conv => whnf
    exact ⟨rfl, rfl⟩
  | true =>
    rw [h1] at hT
    simp only at hT
    have ht300 : t.size ≤ 300 := by
      unfold itemOk at h1
      simp only [Bool.and_eq_true] at h1
      have := (inR_iff.1 h1.2.2).2
      omega
    conv => whnf
    refine .mk _ _ false Tryz.call54 (l9At_ok l last h n (by omega)) (Nat.le_of_ble_eq_true rfl) (.inl rfl) ?_
    conv => whnf
    split
    · rename_i h2
      rw [h2] at hT
      try simp only at hT
      subst hT
      conv => whnf
      refine .mk _ _ false Tryz.call55 (l9Copy_ok l last (by omega)) (Nat.le_of_ble_eq_true rfl) (.inl rfl) ?_
      conv => whnf
      refine ⟨⟨⟨by decide +kernel, Nat.le_of_ble_eq_true rfl⟩, trivial⟩, ?_⟩
      conv => whnf
      exact ⟨rfl, rfl⟩
    · rename_i h2
      rw [h2] at hT
      try simp only at hT
      have hbo : bytesOf l h ≤ 8 * 300 := Nat.le_trans (bytesOf_le h 300 l p.small) (Nat.mul_le_mul_right _ hl8)
      conv => whnf
      split
      · rename_i h3
        have h3 := of_decide_eq_true h3
        rw [decide_eq_true (p := l.length ≥ 8) (by omega)] at hT
        simp only [Bool.true_or] at hT
        subst hT
        conv => whnf
        refine .mk _ _ false Tryz.call55 (l9Copy_ok l last (by omega)) (Nat.le_of_ble_eq_true rfl) (.inl rfl) ?_
        conv => whnf
        refine ⟨⟨⟨by decide +kernel, Nat.le_of_ble_eq_true rfl⟩, trivial⟩, ?_⟩
        conv => whnf
        exact ⟨rfl, rfl⟩
      · rename_i h3
        have h3 := of_decide_eq_false h3
        rw [decide_eq_false (p := l.length ≥ 8) (by omega)] at hT
        simp only [Bool.false_or] at hT
        conv => whnf
        split
        · rename_i h4
          rw [h4] at hT
          simp only [Bool.true_or] at hT
          subst hT
          conv => whnf
          refine .mk _ _ false Tryz.call55 (l9Copy_ok l last (by omega)) (Nat.le_of_ble_eq_true rfl) (.inl rfl) ?_
          conv => whnf
          refine ⟨⟨⟨by decide +kernel, Nat.le_of_ble_eq_true rfl⟩, trivial⟩, ?_⟩
          conv => whnf
          exact ⟨rfl, rfl⟩
        · rename_i h4
          rw [h4] at hT
          simp only [Bool.false_or] at hT
          conv => whnf
          refine .mk _ _ false Tryz.call57 (l9Bytes_ok l h (by omega) (fun x hx => Nat.le_trans (p.small x hx) (by decide))) (Nat.le_of_ble_eq_true rfl) (.inl rfl) ?_
          conv => whnf
          have hwb : IntKind.i64.wrap ((bytesOf l h : Int) + (t.size : Int)) = bytesOf l h + t.size := wi _ (by omega) (by omega)
          split
          · rename_i h5
            have h5' := of_decide_eq_true h5
            rw [hwb] at h5'
            rw [decide_eq_true (p := bytesOf l h + t.size > 500) (by omega)] at hT
            simp only at hT
            subst hT
            conv => whnf
            refine .mk _ _ false Tryz.call55 (l9Copy_ok l last (by omega)) (Nat.le_of_ble_eq_true rfl) (.inl rfl) ?_
            conv => whnf
            refine ⟨⟨⟨by decide +kernel, Nat.le_of_ble_eq_true rfl⟩, trivial⟩, ?_⟩
            conv => whnf
            exact ⟨rfl, rfl⟩
          · rename_i h5
            have h5' := of_decide_eq_false h5
            rw [hwb] at h5'
            rw [decide_eq_false (p := bytesOf l h + t.size > 500) (by omega)] at hT
            simp only at hT
            subst hT
            conv => whnf
            refine .mk _ _ false Tryz.call58 (l9Put_ok l last ⟨h, n, 0, t⟩ p) (Nat.le_of_ble_eq_true rfl) (.inl rfl) ?_
            conv => whnf
            refine ⟨⟨⟨by decide +kernel, Nat.le_of_ble_eq_true rfl⟩, trivial⟩, ?_⟩
            conv => whnf
            exact ⟨rfl, rfl⟩
end Go.Abs.C

set_option linter.unusedSimpArgs false
set_option linter.unusedVariables false
namespace Go.Abs.C
open Go Go.Abs Go.Proofs
attribute [local irreducible] IntKind.wrap
theorem wb (x : Int) (h1 : -9223372036854775808 ≤ x) (h2 : x ≤ 9223372036854775807) : IntKind.i64.wrap x = x := wrap_in _ h1 h2
theorem tab_rep {α : Type} (n : Nat) (z : α) : List.replicate n z = tab n fun _ => z := by
  apply List.ext_getElem (by rw [tab_length, List.length_replicate])
  intro i h1 h2
  simp only [tab, List.getElem_replicate, List.getElem_map]
set_option maxHeartbeats 16000000 in
set_option maxRecDepth 100000 in
theorem eqCat_ok (l : Is) (last : Int) (hl : l.length < 1100000) : Good Tryz.prog 9 [cat l last, cat l last] [] (vbool true) [] := by
  refine good_e noM Tryz.func9 rfl rfl ?_
  conv => whnf
  split
  · rename_i q; simp at q
  conv => whnf
  refine .mk _ _ false Tryz.call19 (eqItemS_ok l (by omega)) (Nat.le_of_ble_eq_true rfl) (.inl rfl) ?_
  conv => whnf
  refine ⟨trivial, ?_⟩
  conv => whnf
  exact ⟨rfl, rfl⟩
set_option maxHeartbeats 16000000 in
set_option maxRecDepth 100000 in
theorem eqCat_no : Good Tryz.prog 9 [noCat, noCat] [] (vbool true) [] := by
  refine good_e noM Tryz.func9 rfl rfl ?_
  conv => whnf
  refine CallS.inl noM Tryz.call19 Tryz.func19 rfl rfl ?_
  conv => whnf
  refine VLoop.step noM ?_
  conv => whnf
  refine ⟨trivial, ?_⟩
  conv => whnf
  refine ⟨trivial, ?_⟩
  conv => whnf
  exact ⟨rfl, rfl⟩
def mM : FuncId → Bool := fun f => [12, 21].contains f
set_option maxHeartbeats 16000000 in
set_option maxRecDepth 100000 in
theorem markCat_ok (l : Is) (last : Int) (hl : l.length < 1100000) : Good Tryz.prog 12 [.agg [.p (.lit (.int .i64 last)), .hs 0 0 l.length], vint 1] [.arr 4 (l.map encItem)] (vint (1 + 4 * l.length)) [.arr 4 (tab l.length fun k => encItem (mrowItem (1 + 4 * k)))] := by
  refine good_e mM Tryz.func12 rfl rfl ?_
  conv => whnf
  refine .mk _ _ false Tryz.call21 (markItemS_ok l 1 hl (by omega) (by omega)) (Nat.le_of_ble_eq_true rfl) (.inl rfl) ?_
  conv => whnf
  refine ⟨trivial, ?_⟩
  conv => whnf
  exact ⟨rfl, rfl⟩
set_option maxHeartbeats 16000000 in
set_option maxRecDepth 100000 in
theorem heldCat_ok (len : Nat) (last : Int) (hl : len < 1100000) : Good Tryz.prog 13 [.agg [.p (.lit (.int .i64 last)), .p (.sl (tab len fun k => encItem (mrowItem (1 + 4 * k))))], vint 1] [] (vint (1 + 4 * len)) [] := by
  refine good_e noM Tryz.func13 rfl rfl ?_
  conv => whnf
  refine .mk _ _ false Tryz.call22 (heldItemS_ok len 1 hl (by omega) (by omega)) (Nat.le_of_ble_eq_true rfl) (.inl rfl) ?_
  conv => whnf
  refine ⟨trivial, ?_⟩
  conv => whnf
  exact ⟨rfl, rfl⟩
set_option maxHeartbeats 16000000 in
set_option maxRecDepth 100000 in
theorem markCat_no : Good Tryz.prog 12 [noCat, vint 1] [] (vint 1) [] := by
  refine good_e noM Tryz.func12 rfl rfl ?_
  conv => whnf
  refine CallS.inl noM Tryz.call21 Tryz.func21 rfl rfl ?_
  conv => whnf
  refine VLoop.step noM ?_
  conv => whnf
  refine ⟨trivial, ?_⟩
  conv => whnf
  refine ⟨trivial, ?_⟩
  conv => whnf
  exact ⟨rfl, rfl⟩
set_option maxHeartbeats 16000000 in
set_option maxRecDepth 100000 in
theorem heldCat_no : Good Tryz.prog 13 [noCat, vint 1] [] (vint 1) [] := by
  refine good_e noM Tryz.func13 rfl rfl ?_
  conv => whnf
  refine CallS.inl noM Tryz.call22 Tryz.func22 rfl rfl ?_
  conv => whnf
  refine VLoop.step noM ?_
  conv => whnf
  refine ⟨trivial, ?_⟩
  conv => whnf
  refine ⟨trivial, ?_⟩
  conv => whnf
  exact ⟨rfl, rfl⟩
end Go.Abs.C
