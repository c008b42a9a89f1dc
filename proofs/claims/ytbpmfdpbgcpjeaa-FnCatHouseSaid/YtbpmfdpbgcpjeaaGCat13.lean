import Derived.Test.YtbpmfdpbgcpjeaaGCat12
set_option linter.unusedSimpArgs false
set_option linter.unusedVariables false
namespace Go.Abs.C
open Go Go.Abs Go.Proofs
attribute [local irreducible] IntKind.wrap
/-- What holds no more of a value than of another: a nil slice is a slice without elements. -/
theorem RepC.nil {w : World} {S : Nat → Prop} {σ : Nat → Loc} {v : Value} (h : RepC w S σ (.p (.lit (.slice none 0 0))) v) : RepC w S σ (.p (.sl [])) v := by
  cases h with
  | p h => cases h; exact .p (.nil _ _)
theorem noCat_rep {w : World} {S : Nat → Prop} {σ : Nat → Loc} {v : Value} (h : RepV w S σ noCat v) : RepV w S σ (cat [] 0) v := by
  cases h with
  | agg _ vs hl h =>
    refine .agg _ vs hl fun i c v h1 h2 => ?_
    rcases i with _ | _ | i
    · exact h 0 _ v rfl h2 |> fun q => by cases h1; exact q
    · cases h1; exact RepC.nil (h 1 _ v rfl h2)
    · simp at h1
/-- A contract for the empty catalogue holds for one without memory. -/
theorem good_nil {f : FuncId} {args : List AV} {lent : List Blk} {r : AV} {out : List Blk} (h : Good Try.prog f (cat [] 0 :: args) lent r out) : Good Try.prog f (noCat :: args) lent r out := by
  intro w vs σ S hl hr hin
  refine h w vs σ S hl (fun i av v h1 h2 => ?_) (fun av hm => ?_)
  · rcases i with _ | i
    · cases h1; exact noCat_rep (hr 0 _ v rfl h2)
    · exact hr (i + 1) av v h1 h2
  · rcases List.mem_cons.1 hm with rfl | hm
    · exact .agg fun c hc => by
        simp only [List.map_nil, List.mem_cons, List.not_mem_nil, or_false] at hc
        rcases hc with rfl | rfl <;> trivial
    · exact hin av (List.mem_cons_of_mem _ hm)

set_option maxHeartbeats 16000000 in
set_option maxRecDepth 100000 in
theorem l9Take_ok (l : Is) (last : Int) (k : Nat) (hk : k < l.length) (hl8 : l.length ≤ 8) : Good Try.prog 54 [cat l last, vint k] [] (own (delAt l k) last) [.arr 4 ((delAt l k).map encItem)] := by
  have hm : (l.map encItem).length = l.length := by rw [List.length_map]
  have en : (k : Int).toNat = k := Int.toNat_natCast k
  have hw : IntKind.i64.wrap ((k : Int) + 1) = ((k + 1 : Nat) : Int) := wi _ (by omega) (by omega)
  have en1 : ((k + 1 : Nat) : Int).toNat = k + 1 := Int.toNat_natCast _
  have ek : List.take ((k : Int).toNat - Int.toNat 0) (List.drop (Int.toNat 0) (l.map encItem)) = (l.take k).map encItem := by
    rw [en]; show List.take (k - 0) (List.drop 0 _) = _; rw [List.drop_zero, Nat.sub_zero, List.map_take]
  have ed : List.take (((l.map encItem).length : Int).toNat - ((k + 1 : Nat) : Int).toNat) (List.drop ((k + 1 : Nat) : Int).toNat (l.map encItem)) = (l.drop (k + 1)).map encItem := by
    rw [en1, Int.toNat_natCast, List.take_of_length_le (by rw [List.length_drop]; omega), List.map_drop]
  have lt8 : ((l.take k).map encItem).length ≤ 8 := by rw [List.length_map, List.length_take]; omega
  have ld8 : ((l.drop (k + 1)).map encItem).length ≤ 8 := by rw [List.length_map, List.length_drop]; omega
  refine good_e noM Try.func54 rfl rfl ?_
  conv => whnf
  refine VDraw.go ⟨16, [0, 1, 0, 0, 8, 0, 56, 124, 0, 256, 0, 1024, 3840, 8188, 16383, 32767], [2, 7, 13, 15], [(7, [32]), (13, [72]), (15, [8])]⟩ rfl rfl (by decide +kernel) ?_
  conv => whnf
  refine ⟨⟨by omega, by omega, by omega, by decide +kernel, fun x hx => (enc_len l x hx).trans (by decide +kernel)⟩, ?_⟩
  rw [ek]
  conv => whnf
  refine ⟨⟨rfl, rfl, rfl⟩, trivial, ?_⟩
  conv => whnf
  refine ⟨(fun q => by cases q), appB (show 0 + ((l.take k).map encItem).length ≤ 1100000 by omega), enc_len _, ?_⟩
  conv => whnf
  rw [hw]
  refine ⟨⟨by omega, by omega, by omega, by decide +kernel, fun x hx => (enc_len l x hx).trans (by decide +kernel)⟩, ?_⟩
  rw [ed]
  conv => whnf
  refine ⟨⟨rfl, (by rw [List.length_append]), rfl⟩, trivial, ?_⟩
  conv => whnf
  refine ⟨(fun q => by cases q), appB (by rw [List.length_append]; show (0 + ((l.take k).map encItem).length) + _ ≤ 1100000; omega), enc_len _, ?_⟩
  conv => whnf
  refine ⟨⟨⟨by decide +kernel, Nat.le_of_ble_eq_true rfl⟩, trivial⟩, ?_⟩
  conv => whnf
  refine ⟨hs_len2 ?_ rfl, congrArg (fun E => [Blk.arr 4 E]) (show ([] ++ (l.take k).map encItem) ++ (l.drop (k + 1)).map encItem = _ from ?_)⟩
  · try simp only [List.length_append]
    rw [delAt_len hk]
    show 0 + ((l.take k).map encItem).length + ((l.drop (k + 1)).map encItem).length = _
    rw [List.length_map, List.length_map, List.length_take, List.length_drop]; omega
  · unfold delAt
    rw [List.map_append, List.nil_append]
set_option maxHeartbeats 16000000 in
set_option maxRecDepth 100000 in
theorem specTake_ok (l : Is) (last h : Int) (n : ByteArray) (hs : ∀ x ∈ l, x.b.size ≤ 9223372036854775807) (p : CatP l last) : Good Try.prog 26 [cat l last, vint h, vstr n] [] (putR (takeC l last h n)) (putB (takeC l last h n)) := by
  have hl8 := p.len
  refine good_e noM Try.func26 rfl rfl ?_
  conv => whnf
  refine .mk _ _ false Try.call14 (specOk_ok l last (by omega) hs) (Nat.le_of_ble_eq_true rfl) (.inl rfl) ?_
  rw [catOk_true p]
  conv => whnf
  refine .mk _ _ false Try.call48 (l9At_ok l last h n (by omega)) (Nat.le_of_ble_eq_true rfl) (.inl rfl) ?_
  conv => whnf
  generalize hT : takeC l last h n = T
  unfold takeC at hT
  split
  · rename_i q
    rw [q] at hT
    try simp only at hT
    subst hT
    conv => whnf
    refine .mk _ _ false Try.call53 (l9Copy_ok l last (by omega)) (Nat.le_of_ble_eq_true rfl) (.inl rfl) ?_
    conv => whnf
    refine ⟨⟨⟨by decide +kernel, Nat.le_of_ble_eq_true rfl⟩, trivial⟩, ?_⟩
    conv => whnf
    exact ⟨rfl, rfl⟩
  · rename_i q
    rw [q] at hT
    try simp only at hT
    subst hT
    have q' := of_decide_eq_false q
    have hfp := findI_pos (p := fun x => same x h n) (l := l) (by omega)
    have hge : 0 ≤ findI (fun x => same x h n) l := by omega
    generalize findI (fun x => same x h n) l = K at hfp hge ⊢
    obtain ⟨k, rfl⟩ := Int.eq_ofNat_of_zero_le hge
    rw [Int.toNat_natCast] at hfp ⊢
    conv => whnf
    refine .mk _ _ false Try.call54 (l9Take_ok l last k hfp.1 hl8) (Nat.le_of_ble_eq_true rfl) (.inl rfl) ?_
    conv => whnf
    refine ⟨⟨⟨by decide +kernel, Nat.le_of_ble_eq_true rfl⟩, trivial⟩, ?_⟩
    conv => whnf
    exact ⟨rfl, rfl⟩
end Go.Abs.C
