import Derived.Test.YtbpmfdpbgcpjeaaGCat10
set_option linter.unusedSimpArgs false
set_option linter.unusedVariables false
namespace Go.Abs.C
open Go Go.Abs Go.Proofs
attribute [local irreducible] IntKind.wrap

theorem sub_tab {α : Type} (n : Nat) (f : Nat → α) : List.take n (List.drop 0 (tab n f)) = tab n f := by rw [List.drop_zero, List.take_of_length_le (by rw [tab_length]; omega)]
theorem putC_len {l : Is} {last h : Int} {n t : ByteArray} (p : CatP l last) : (putC l last h n t).1.length ≤ 8 := (putC_keeps p).len
set_option maxHeartbeats 16000000 in
set_option maxRecDepth 100000 in
theorem exactPut_law (l : Is) (last h : Int) (n t : ByteArray) (hl : l.length ≤ 9223372036854775807) (hs : ∀ x ∈ l, x.b.size ≤ 9223372036854775807 ∧ x.d.size ≤ 9223372036854775807) (hn : n.size ≤ 9223372036854775807) : ∃ r out, r = vbool true ∧ Good Try.prog 11 [cat l last, vint h, vstr n, vstr t] [] r out := by
  refine good_v mM Try.func11 rfl rfl ?_
  conv => whnf
  split
  · conv => whnf
    refine ⟨trivial, ?_⟩
    conv => whnf
    rfl
  conv => whnf
  split
  · conv => whnf
    refine ⟨trivial, ?_⟩
    conv => whnf
    rfl
  conv => whnf
  obtain ⟨_, _, ⟨v, rfl, rfl, hv⟩, hg⟩ := szCat_ex l last hl hs
  refine .mk _ _ false Try.call13 hg (Nat.le_of_ble_eq_true rfl) (.inl rfl) ?_
  conv => whnf
  split
  · conv => whnf
    refine ⟨trivial, ?_⟩
    conv => whnf
    rfl
  rename_i q
  have hl6 : l.length < 1100000 := by have := of_decide_eq_false q; have := hv (by omega); omega
  have hsb : ∀ x ∈ l, x.b.size ≤ 9223372036854775807 := fun x hx => (hs x hx).1
  have htc := toCat_ok l last hl6
  have hsub : ∀ (m : Is) (k : Int), subCat m m.length k = cat m k := fun m k => sub_cat rfl k
  have heq : ∀ (m : Is) (k : Int), m.length < 1100000 → Good Try.prog 17 [subCat m m.length k, subCat m m.length k] [] (vbool true) [] := fun m k hm => by rw [hsub]; exact eqCat_ok m k hm
  have hmk := markCat_ok l last hl6
  conv => whnf
  refine .mk _ _ false Try.call15 htc (Nat.le_of_ble_eq_true rfl) (.inl rfl) ?_
  conv => whnf
  refine ⟨(show 0 + l.length ≤ (l.map encItem).length by rw [List.length_map]; omega), ?_⟩
  conv => whnf
  cases hp : catOk l last with
  | false =>
    have hps := specPut_bad l last h n t hl6 hsb hp
    have hpi := implPut_bad l last h n t hl6 hsb hp
    rw [← hsub] at hps hpi
    refine .mk _ _ false Try.call32 hps (Nat.le_of_ble_eq_true rfl) (.inr ⟨AV.nsB_iff rfl, fun k hk => by cases hk⟩) ?_
    conv => whnf
    refine .mk _ _ false Try.call15 htc (Nat.le_of_ble_eq_true rfl) (.inl rfl) ?_
    conv => whnf
    refine ⟨(show 0 + l.length ≤ (l.map encItem).length by rw [List.length_map]; omega), ?_⟩
    conv => whnf
    refine .mk _ _ false Try.call31 hpi (Nat.le_of_ble_eq_true rfl) (.inr ⟨AV.nsB_iff rfl, fun k hk => by cases hk⟩) ?_
    conv => whnf
    refine .mk _ _ false Try.call17 eqCat_no (Nat.le_of_ble_eq_true rfl) (.inl rfl) ?_
    conv => whnf
    refine VDraw.go ⟨_, [0, 0, 2, 7, 15], [2, 3], []⟩ rfl rfl (by decide +kernel) ?_
    conv => whnf
    refine .mk _ _ false Try.call15 htc (Nat.le_of_ble_eq_true rfl) (.inl rfl) ?_
    conv => whnf
    refine ⟨(show 0 + l.length ≤ (l.map encItem).length by rw [List.length_map]; omega), ?_⟩
    conv => whnf
    refine ⟨(show 0 + l.length ≤ (l.map encItem).length by rw [List.length_map]; omega), ?_⟩
    conv => whnf
    refine .mk _ _ false Try.call17 (heq l last hl6) (Nat.le_of_ble_eq_true rfl) (.inr ⟨AV.nsB_iff rfl, fun k hk => by cases hk⟩) ?_
    conv => whnf
    refine .mk _ _ false Try.call28 hmk (Nat.le_of_ble_eq_true rfl) (.inl rfl) ?_
    conv => whnf
    refine .mk _ _ false Try.call17 eqCat_no (Nat.le_of_ble_eq_true rfl) (.inl rfl) ?_
    conv => whnf
    refine .mk _ _ false Try.call28 markCat_no (Nat.le_of_ble_eq_true rfl) (.inl rfl) ?_
    conv => whnf
    refine .mk _ _ false Try.call29 heldCat_no (Nat.le_of_ble_eq_true rfl) (.inl rfl) ?_
    conv => whnf
    refine .mk _ _ false Try.call15 htc (Nat.le_of_ble_eq_true rfl) (.inl rfl) ?_
    conv => whnf
    refine ⟨(show 0 + l.length ≤ (l.map encItem).length by rw [List.length_map]; omega), ?_⟩
    conv => whnf
    refine .mk _ _ false Try.call31 hpi (Nat.le_of_ble_eq_true rfl) (.inr ⟨AV.nsB_iff rfl, fun k hk => by cases hk⟩) ?_
    conv => whnf
    refine .mk _ _ false Try.call17 eqCat_no (Nat.le_of_ble_eq_true rfl) (.inl rfl) ?_
    conv => whnf
    refine .mk _ _ false Try.call29 heldCat_no (Nat.le_of_ble_eq_true rfl) (.inl rfl) ?_
    conv => whnf
    refine ⟨trivial, ?_⟩
    conv => whnf
    rfl
  | true =>
    have p := catOk_of hp
    have hps := specPut_ok l last h n t hsb hn p
    have hpi := implPut_ok l last h n t hsb hn p
    have hTl := putC_len (h := h) (n := n) (t := t) p
    rw [← hsub] at hps hpi
    generalize putC l last h n t = T at hps hpi hTl
    have hmkT := markCat_ok T.1 T.2.1 (by omega)
    have hhT := heldCat_ok T.1.length T.2.1 (by omega)
    rw [← sub_tab] at hhT
    refine .mk _ _ false Try.call32 hps (Nat.le_of_ble_eq_true rfl) (.inr ⟨AV.nsB_iff rfl, arr_noSl _⟩) ?_
    conv => whnf
    refine .mk _ _ false Try.call15 htc (Nat.le_of_ble_eq_true rfl) (.inl rfl) ?_
    conv => whnf
    refine ⟨(show 0 + l.length ≤ (l.map encItem).length by rw [List.length_map]; omega), ?_⟩
    conv => whnf
    refine .mk _ _ false Try.call31 hpi (Nat.le_of_ble_eq_true rfl) (.inr ⟨AV.nsB_iff rfl, arr_noSl _⟩) ?_
    conv => whnf
    refine ⟨(show 0 + T.1.length ≤ (T.1.map encItem).length by rw [List.length_map]; omega), ?_⟩
    conv => whnf
    refine ⟨(show 0 + T.1.length ≤ (T.1.map encItem).length by rw [List.length_map]; omega), ?_⟩
    conv => whnf
    refine .mk _ _ false Try.call17 (heq T.1 T.2.1 (by omega)) (Nat.le_of_ble_eq_true rfl) (.inr ⟨AV.nsB_iff rfl, fun k hk => by cases hk⟩) ?_
    conv => whnf
    split
    · rename_i q; simp at q
    conv => whnf
    refine VDraw.go ⟨_, [0, 0, 2, 7, 15], [2, 3], []⟩ rfl rfl (by decide +kernel) ?_
    conv => whnf
    refine .mk _ _ false Try.call15 htc (Nat.le_of_ble_eq_true rfl) (.inl rfl) ?_
    conv => whnf
    refine ⟨(show 0 + l.length ≤ (l.map encItem).length by rw [List.length_map]; omega), ?_⟩
    conv => whnf
    refine ⟨(show 0 + l.length ≤ (l.map encItem).length by rw [List.length_map]; omega), ?_⟩
    conv => whnf
    refine .mk _ _ false Try.call17 (heq l last hl6) (Nat.le_of_ble_eq_true rfl) (.inr ⟨AV.nsB_iff rfl, fun k hk => by cases hk⟩) ?_
    conv => whnf
    refine .mk _ _ false Try.call28 hmk (Nat.le_of_ble_eq_true rfl) (.inl rfl) ?_
    conv => whnf
    refine ⟨(show 0 + T.1.length ≤ (T.1.map encItem).length by rw [List.length_map]; omega), ?_⟩
    conv => whnf
    refine ⟨(show 0 + T.1.length ≤ (T.1.map encItem).length by rw [List.length_map]; omega), ?_⟩
    conv => whnf
    refine .mk _ _ false Try.call17 (heq T.1 T.2.1 (by omega)) (Nat.le_of_ble_eq_true rfl) (.inr ⟨AV.nsB_iff rfl, fun k hk => by cases hk⟩) ?_
    conv => whnf
    split
    · rename_i q; simp at q
    conv => whnf
    refine .mk _ _ false Try.call28 hmkT (Nat.le_of_ble_eq_true rfl) (.inl rfl) ?_
    conv => whnf
    refine ⟨(show 0 + T.1.length ≤ (tab T.1.length fun k => encItem (mrowItem (1 + 4 * k))).length by rw [tab_length]; omega), ?_⟩
    conv => whnf
    refine .mk _ _ false Try.call29 hhT (Nat.le_of_ble_eq_true rfl) (.inr ⟨AV.nsB_iff rfl, fun k hk => by cases hk⟩) ?_
    conv => whnf
    split
    · rename_i q; simp at q
    conv => whnf
    refine .mk _ _ false Try.call15 htc (Nat.le_of_ble_eq_true rfl) (.inl rfl) ?_
    conv => whnf
    refine ⟨(show 0 + l.length ≤ (l.map encItem).length by rw [List.length_map]; omega), ?_⟩
    conv => whnf
    refine .mk _ _ false Try.call31 hpi (Nat.le_of_ble_eq_true rfl) (.inr ⟨AV.nsB_iff rfl, arr_noSl _⟩) ?_
    conv => whnf
    refine ⟨(show 0 + T.1.length ≤ (T.1.map encItem).length by rw [List.length_map]; omega), ?_⟩
    conv => whnf
    refine ⟨(show 0 + T.1.length ≤ (T.1.map encItem).length by rw [List.length_map]; omega), ?_⟩
    conv => whnf
    refine .mk _ _ false Try.call17 (heq T.1 T.2.1 (by omega)) (Nat.le_of_ble_eq_true rfl) (.inr ⟨AV.nsB_iff rfl, fun k hk => by cases hk⟩) ?_
    conv => whnf
    split
    · rename_i q; simp at q
    conv => whnf
    refine ⟨(show 0 + T.1.length ≤ (tab T.1.length fun k => encItem (mrowItem (1 + 4 * k))).length by rw [tab_length]; omega), ?_⟩
    conv => whnf
    refine .mk _ _ false Try.call29 hhT (Nat.le_of_ble_eq_true rfl) (.inr ⟨AV.nsB_iff rfl, fun k hk => by cases hk⟩) ?_
    conv => whnf
    split
    · rename_i q; simp at q
    conv => whnf
    refine ⟨trivial, ?_⟩
    conv => whnf
    rfl
theorem cat_inA {l : Is} {k : Int} {A : Nat → Prop} : AV.InA A (cat l k) := inA_agg (ps := [.lit (.int .i64 k), .sl (l.map encItem)])
theorem fnExactCatPut_good (c : Int × Is) (h : Int) (n t : ByteArray) (okc : (Lit.int .i64 c.1).wf = true ∧ (c.2.length ≤ 9223372036854775807 ∧ ∀ x ∈ c.2, (Lit.int .i64 x.a).wf = true ∧ (x.b.size ≤ 9223372036854775807 ∧ ((Lit.int .i64 x.c).wf = true ∧ x.d.size ≤ 9223372036854775807)))) (okh : (Lit.int .i64 h).wf = true) (okn : n.size ≤ 9223372036854775807) (okt : t.size ≤ 9223372036854775807) :
    ∃ r out, r = vbool true ∧ Good Try.prog 11 [cat c.2 c.1, vint h, vstr n, vstr t] [] r out :=
  exactPut_law c.2 c.1 h n t okc.2.1 (fun x hx => by have := okc.2.2 x hx; exact ⟨this.2.1, this.2.2.2⟩) okn
end Go.Abs.C
