import Derived.Test.YtbpmfdpbgcpjeaaGCat16
set_option linter.unusedSimpArgs false
set_option linter.unusedVariables false
namespace Go.Abs.C
open Go Go.Abs Go.Proofs
attribute [local irreducible] IntKind.wrap

@[reducible] def gotR (l : Is) (k : Int) : AV := .tup [.agg ((encItem (ia l k.toNat)).map .p), vbool true]
@[reducible] def gotNo : AV := .tup [.agg ((encItem zItem).map .p), vbool false]
set_option maxHeartbeats 16000000 in
set_option maxRecDepth 100000 in
theorem get_yes (l : Is) (last h : Int) (n : ByteArray) (p : CatP l last) (hf : 0 ≤ findI (fun x => same x h n) l) : Good Try.prog 24 [cat l last, vint h, vstr n] [] (gotR l (findI (fun x => same x h n) l)) [] := by
  have hl8 := p.len
  have hm : (l.map encItem).length = l.length := by rw [List.length_map]
  have hfp := findI_pos hf
  refine good_e noM Try.func24 rfl rfl ?_
  conv => whnf
  refine .mk _ _ false Try.call49 (find_ok l last h n (by omega)) (Nat.le_of_ble_eq_true rfl) (.inl rfl) ?_
  conv => whnf
  refine .mk _ _ false Try.call16 (implOk_ok l last (by omega) (fun x hx => Nat.le_trans (p.names x hx) (by decide))) (Nat.le_of_ble_eq_true rfl) (.inl rfl) ?_
  rw [catOk_true p]
  generalize findI (fun x => same x h n) l = K at hf hfp ⊢
  conv => whnf
  split
  · rename_i q; have := of_decide_eq_true q; omega
  conv => whnf
  refine ⟨by omega, by omega, _, ia_at l rfl hfp.1, ?_⟩
  conv => whnf
  refine ⟨⟨⟨by decide +kernel, Nat.le_of_ble_eq_true rfl⟩, trivial⟩, ?_⟩
  conv => whnf
  exact ⟨rfl, rfl⟩
set_option maxHeartbeats 16000000 in
set_option maxRecDepth 100000 in
theorem get_no (l : Is) (last h : Int) (n : ByteArray) (p : CatP l last) (hf : findI (fun x => same x h n) l < 0) : Good Try.prog 24 [cat l last, vint h, vstr n] [] gotNo [] := by
  have hl8 := p.len
  refine good_e noM Try.func24 rfl rfl ?_
  conv => whnf
  refine .mk _ _ false Try.call49 (find_ok l last h n (by omega)) (Nat.le_of_ble_eq_true rfl) (.inl rfl) ?_
  conv => whnf
  refine .mk _ _ false Try.call16 (implOk_ok l last (by omega) (fun x hx => Nat.le_trans (p.names x hx) (by decide))) (Nat.le_of_ble_eq_true rfl) (.inl rfl) ?_
  rw [catOk_true p]
  generalize findI (fun x => same x h n) l = K at hf ⊢
  conv => whnf
  split
  case h_2 => rename_i q; have := of_decide_eq_false q; omega
  conv => whnf
  refine ⟨⟨⟨by decide +kernel, Nat.le_of_ble_eq_true rfl⟩, trivial⟩, ?_⟩
  conv => whnf
  exact ⟨rfl, rfl⟩
set_option maxHeartbeats 16000000 in
set_option maxRecDepth 100000 in
theorem ed_yes (l : Is) (last e : Int) (p : CatP l last) (hf : 0 ≤ findI (fun x => x.c == e) l) : Good Try.prog 21 [cat l last, vint e] [] (gotR l (findI (fun x => x.c == e) l)) [] := by
  have hl8 := p.len
  have hm : (l.map encItem).length = l.length := by rw [List.length_map]
  have hfp := findI_pos hf
  refine good_e noM Try.func21 rfl rfl ?_
  conv => whnf
  refine .mk _ _ false Try.call43 (edition_ok l last e (by omega)) (Nat.le_of_ble_eq_true rfl) (.inl rfl) ?_
  conv => whnf
  refine .mk _ _ false Try.call16 (implOk_ok l last (by omega) (fun x hx => Nat.le_trans (p.names x hx) (by decide))) (Nat.le_of_ble_eq_true rfl) (.inl rfl) ?_
  rw [catOk_true p]
  generalize findI (fun x => x.c == e) l = K at hf hfp ⊢
  conv => whnf
  split
  · rename_i q; have := of_decide_eq_true q; omega
  conv => whnf
  refine ⟨by omega, by omega, _, ia_at l rfl hfp.1, ?_⟩
  conv => whnf
  refine ⟨⟨⟨by decide +kernel, Nat.le_of_ble_eq_true rfl⟩, trivial⟩, ?_⟩
  conv => whnf
  exact ⟨rfl, rfl⟩
set_option maxHeartbeats 16000000 in
set_option maxRecDepth 100000 in
theorem ed_no (l : Is) (last e : Int) (p : CatP l last) (hf : findI (fun x => x.c == e) l < 0) : Good Try.prog 21 [cat l last, vint e] [] gotNo [] := by
  have hl8 := p.len
  refine good_e noM Try.func21 rfl rfl ?_
  conv => whnf
  refine .mk _ _ false Try.call43 (edition_ok l last e (by omega)) (Nat.le_of_ble_eq_true rfl) (.inl rfl) ?_
  conv => whnf
  refine .mk _ _ false Try.call16 (implOk_ok l last (by omega) (fun x hx => Nat.le_trans (p.names x hx) (by decide))) (Nat.le_of_ble_eq_true rfl) (.inl rfl) ?_
  rw [catOk_true p]
  generalize findI (fun x => x.c == e) l = K at hf ⊢
  conv => whnf
  split
  case h_2 => rename_i q; have := of_decide_eq_false q; omega
  conv => whnf
  refine ⟨⟨⟨by decide +kernel, Nat.le_of_ble_eq_true rfl⟩, trivial⟩, ?_⟩
  conv => whnf
  exact ⟨rfl, rfl⟩
set_option maxHeartbeats 16000000 in
set_option maxRecDepth 100000 in
theorem whCat_ok (l : Is) (last : Int) (hl : l.length < 1100000) : Good Try.prog 33 [cat l last, cat l last] [] (vbool true) [] := by
  have hm : (l.map encItem).length = l.length := by rw [List.length_map]
  refine good_e noM Try.func33 rfl rfl ?_
  conv => whnf
  split
  · rename_i q; simp at q
  conv => whnf
  split
  · rename_i q; simp at q
  conv => whnf
  refine VLoop.enter [2, 3, 5] ?_
  conv => whnf
  refine VLoop.ind1 (n0 := 2) (α := Int) noM [2, 3, 5] (fun a => ⟨38, 0, [(2, .one (.hp 0 0 0)), (3, .one (.hp 1 0 0)), (5, vint a)], [(0, some (.box [.p (.lit (.int .i64 last)), .p (.sl (l.map encItem))])), (1, some (.box [.p (.lit (.int .i64 last)), .p (.sl (l.map encItem))]))]⟩)
    (fun a => ∃ i : Nat, a = i ∧ i ≤ l.length) (fun a => ((l.length : Int) - a).toNat) ?_ 0 ⟨0, rfl, by omega⟩
  rintro _ ⟨i, rfl, hi⟩
  conv => whnf
  split
  · rename_i q1
    have q1' := of_decide_eq_true q1
    have hil : i < l.length := by omega
    have en : (i : Int).toNat = i := Int.toNat_natCast i
    have hw : IntKind.i64.wrap ((i : Int) + 1) = i + 1 := wi _ (by omega) (by omega)
    conv => whnf
    refine VDraw.go ⟨_, [0, 1, 0, 7, 15, 0, 32, 0, 224, 480, 1023], [], []⟩ rfl rfl (by decide +kernel) ?_
    conv => whnf
    refine ⟨by omega, by omega, _, ia_at l en hil, ?_⟩
    conv => whnf
    refine ⟨by omega, by omega, _, ia_at l en hil, ?_⟩
    conv => whnf
    refine ⟨by decide +kernel, by decide +kernel, ?_⟩
    conv => whnf
    split
    · rename_i q; simp at q
    conv => whnf
    exact ⟨_, rfl, rfl, ⟨i + 1, by rw [hw]; simp, by omega⟩, by rw [hw]; omega⟩
  · conv => whnf
    refine ⟨trivial, ?_⟩
    conv => whnf
    exact ⟨rfl, rfl⟩
theorem good_nil2 {f : FuncId} {a : AV} {args : List AV} {lent : List Blk} {r : AV} {out : List Blk} (h : Good Try.prog f (a :: cat [] 0 :: args) lent r out) : Good Try.prog f (a :: noCat :: args) lent r out := by
  intro w vs σ S hl hr hin
  refine h w vs σ S hl (fun i av v h1 h2 => ?_) (fun av hm => ?_)
  · rcases i with _ | _ | i
    · exact hr 0 av v h1 h2
    · cases h1; exact noCat_rep (hr 1 _ v rfl h2)
    · exact hr (i + 2) av v h1 h2
  · rcases List.mem_cons.1 hm with rfl | hm
    · exact hin _ (List.mem_cons_self ..)
    rcases List.mem_cons.1 hm with rfl | hm
    · exact .agg fun c hc => by
        simp only [List.map_nil, List.mem_cons, List.not_mem_nil, or_false] at hc
        rcases hc with rfl | rfl <;> trivial
    · exact hin av (List.mem_cons_of_mem _ (List.mem_cons_of_mem _ hm))
theorem whCat_no : Good Try.prog 33 [noCat, noCat] [] (vbool true) [] := good_nil (good_nil2 (whCat_ok [] 0 (by decide)))
end Go.Abs.C
