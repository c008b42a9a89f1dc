import Derived.Test.YtbpmfdpbgcpjeaaGCat17
set_option linter.unusedSimpArgs false
set_option linter.unusedVariables false
namespace Go.Abs.C
open Go Go.Abs Go.Proofs
attribute [local irreducible] IntKind.wrap

/-- What the laws need of a put that went well. -/
structure PutF (l : Is) (last h : Int) (n t : ByteArray) (X : Is) (k : Nat) : Prop where
  ok : CatP X (last + 1)
  len : X.length = l.length + 1
  fk : findI (fun x => same x h n) X = k
  ik : ia X k = ⟨h, n, last + 1, t⟩
  ek : findI (fun x => x.c == last + 1) X = k
  old : ∀ i, i < l.length → ∃ j : Nat, findI (fun x => same x (ia l i).a (ia l i).b) X = j ∧ ia X j = ia l i
  it : itemOk ⟨h, n, 0, t⟩ = true
theorem Putted.facts {l : Is} {last h : Int} {n t : ByteArray} {T : Is × Int × Int} (p : CatP l last) (q : Putted l last h n t T) : ∃ k, PutF l last h n t T.1 k := by
  obtain ⟨k, hk, hX⟩ := q.k
  have hi := ia_putAt (t := ⟨h, n, last + 1, t⟩) hk
  rw [← hX] at hi
  have ik : ia T.1 k = ⟨h, n, last + 1, t⟩ := by rw [hi, if_neg (by omega), if_pos rfl]
  have hkX : k < T.1.length := by rw [q.len]; omega
  refine ⟨k, q.ok, q.len, ?_, ik, ?_, fun i hil => ?_, q.it⟩
  · have := find_self q.ok hkX
    rw [ik] at this; exact this
  · have := edit_self q.ok hkX
    rw [ik] at this; exact this
  · by_cases e : i < k
    · have h1 : ia T.1 i = ia l i := by rw [hi, if_pos e]
      have h2 := find_self q.ok (j := i) (by rw [q.len]; omega)
      rw [h1] at h2
      exact ⟨i, h2, h1⟩
    · have h1 : ia T.1 (i + 1) = ia l i := by rw [hi, if_neg (by omega), if_neg (by omega), Nat.add_sub_cancel]
      have h2 := find_self q.ok (j := i + 1) (by rw [q.len]; omega)
      rw [h1] at h2
      exact ⟨i + 1, h2, h1⟩
theorem PutF.again {l X : Is} {last h : Int} {n t : ByteArray} {k : Nat} (q : PutF l last h n t X k) : putC X (last + 1) h n ⟨#[121]⟩ = (X, last + 1, 2) := by
  have h1 : itemOk ⟨h, n, 0, ⟨#[121]⟩⟩ = true := by
    have := q.it
    unfold itemOk at this ⊢
    simp only [Bool.and_eq_true] at this ⊢
    exact ⟨this.1, this.2.1, rfl⟩
  unfold putC
  rw [h1]
  simp only
  rw [q.fk, decide_eq_true (by omega)]
theorem u8_rng {n : Int} (h : (Lit.int .u8 n).wf = true) : 0 ≤ n ∧ n ≤ 255 := by
  simp only [Lit.wf, Bool.and_eq_true, decide_eq_true_eq] at h
  have e1 : IntKind.u8.min = 0 := by decide
  have e2 : IntKind.u8.max = 255 := by decide
  omega
@[reducible] def noCatK (k : Int) : AV := .agg [.p (.lit (.int .i64 k)), .p (.lit (.slice none 0 0))]
theorem noCatK_rep {k : Int} {w : World} {S : Nat → Prop} {σ : Nat → Loc} {v : Value} (h : RepV w S σ (noCatK k) v) : RepV w S σ (cat [] k) v := by
  cases h with
  | agg _ vs hl h =>
    refine .agg _ vs hl fun i c v h1 h2 => ?_
    rcases i with _ | _ | i
    · exact h 0 _ v rfl h2 |> fun q => by cases h1; exact q
    · cases h1; exact RepC.nil (h 1 _ v rfl h2)
    · simp at h1
theorem catK_inA {k : Int} {A : Nat → Prop} : AV.InA A (cat [] k) := inA_agg (ps := [.lit (.int .i64 k), .sl []])
theorem good_nilK {k : Int} {f : FuncId} {args : List AV} {lent : List Blk} {r : AV} {out : List Blk} (h : Good Try.prog f (cat [] k :: args) lent r out) : Good Try.prog f (noCatK k :: args) lent r out := by
  intro w vs σ S hl hr hin
  refine h w vs σ S hl (fun i av v h1 h2 => ?_) (fun av hm => ?_)
  · rcases i with _ | i
    · cases h1; exact noCatK_rep (hr 0 _ v rfl h2)
    · exact hr (i + 1) av v h1 h2
  · rcases List.mem_cons.1 hm with rfl | hm
    · exact catK_inA
    · exact hin av (List.mem_cons_of_mem _ hm)
theorem good_nil2K {k : Int} {f : FuncId} {a : AV} {args : List AV} {lent : List Blk} {r : AV} {out : List Blk} (h : Good Try.prog f (a :: cat [] k :: args) lent r out) : Good Try.prog f (a :: noCatK k :: args) lent r out := by
  intro w vs σ S hl hr hin
  refine h w vs σ S hl (fun i av v h1 h2 => ?_) (fun av hm => ?_)
  · rcases i with _ | _ | i
    · exact hr 0 av v h1 h2
    · cases h1; exact noCatK_rep (hr 1 _ v rfl h2)
    · exact hr (i + 2) av v h1 h2
  · rcases List.mem_cons.1 hm with rfl | hm
    · exact hin _ (List.mem_cons_self ..)
    rcases List.mem_cons.1 hm with rfl | hm
    · exact catK_inA
    · exact hin av (List.mem_cons_of_mem _ (List.mem_cons_of_mem _ hm))
set_option maxHeartbeats 16000000 in
set_option maxRecDepth 100000 in
theorem catPut_law (bs : List Int) (hb : ∀ x ∈ bs, 0 ≤ x ∧ x ≤ 255) (hl : bs.length ≤ 9223372036854775807) : ∃ r out, r = vbool true ∧ Good Try.prog 9 [.one (.p (.sl (bs.map encU)))] [] r out := by
  refine good_v noM Try.func9 rfl rfl ?_
  conv => whnf
  split
  · conv => whnf
    refine ⟨trivial, ?_⟩
    conv => whnf
    rfl
  conv => whnf
  obtain ⟨_, _, ⟨h, n, t, hn, ht, hd⟩, hg⟩ := drawPut_ok bs hb hl
  have hsT : ∀ (m : Is) (k : Int), subCat m m.length k = cat m k := fun m k => sub_cat rfl k
  have hn2 : n.size ≤ 9223372036854775807 := Nat.le_trans hn (by decide)
  rcases hd with ⟨rfl, rfl⟩ | ⟨l, last, n0, sm, hn0, rfl, rfl⟩
  · obtain ⟨k0, hk0⟩ : ∃ k0 : Int, k0 = 0 := ⟨0, rfl⟩
    replace hg : Good Try.prog 30 [.one (.p (.sl (bs.map encU)))] [] (.tup [noCatK k0, vint h, vstr n, vstr t]) [] := by rw [hk0]; exact hg
    refine .mk _ _ false Try.call30 hg (Nat.le_of_ble_eq_true rfl) (.inl rfl) ?_
    conv => whnf
    have p : CatP [] k0 := by rw [hk0]; exact catNil
    have hlast := inR_iff.1 p.lst
    refine .mk _ _ false Try.call31 (good_nilK (implPut_ok ([] : Is) k0 h n t (fun x hx => by cases hx) hn2 p)) (Nat.le_of_ble_eq_true rfl) (.inl rfl) ?_
    conv => whnf
    refine .mk _ _ false Try.call32 (good_nilK (specPut_ok ([] : Is) k0 h n t (fun x hx => by cases hx) hn2 p)) (Nat.le_of_ble_eq_true rfl) (.inl rfl) ?_
    conv => whnf
    have hbad := @putC_bad ([] : Is) k0 h n t
    have hgood := @putC_good ([] : Is) k0 h n t p
    have hkp := @putC_keeps ([] : Is) k0 h n t p
    generalize putC ([] : Is) k0 h n t = T at hbad hgood hkp ⊢
    have hT8 := hkp.len
    have whT : Good Try.prog 33 [subCat T.1 T.1.length T.2.1, subCat T.1 T.1.length T.2.1] [] (vbool true) [] := by rw [hsT]; exact whCat_ok T.1 T.2.1 (by omega)
    refine VDraw.go ⟨_, [0, 0, 3, 7, 15, 15, 63, 127, 255, 511, 1023, 2047, 1023, 8191, 16383, 32767], [6, 11, 13], []⟩ rfl rfl (by decide +kernel) ?_
    conv => whnf
    split
    · rename_i q; simp at q
    conv => whnf
    refine ⟨(show 0 + T.1.length ≤ (T.1.map encItem).length by rw [List.length_map]; omega), ?_⟩
    conv => whnf
    refine ⟨(show 0 + T.1.length ≤ (T.1.map encItem).length by rw [List.length_map]; omega), ?_⟩
    conv => whnf
    refine .mk _ _ false Try.call33 whT (Nat.le_of_ble_eq_true rfl) (.inr ⟨AV.nsB_iff rfl, fun k hk => by cases hk⟩) ?_
    conv => whnf
    refine .mk _ _ false Try.call16 (good_nilK (by have := implOk_ok [] k0 (by decide) (fun x hx => by cases hx); rw [catOk_true p] at this; exact this)) (Nat.le_of_ble_eq_true rfl) (.inl rfl) ?_
    conv => whnf
    refine .mk _ _ false Try.call14 (good_nilK (by have := specOk_ok [] k0 (by decide) (fun x hx => by cases hx); rw [catOk_true p] at this; exact this)) (Nat.le_of_ble_eq_true rfl) (.inl rfl) ?_
    conv => whnf
    split
    · rename_i q
      simp only [bne_iff_ne] at q
      obtain ⟨hT, -, -⟩ := hbad q
      obtain ⟨X, kk, c⟩ := T
      obtain ⟨hX, hkk⟩ : ([] : Is) = X ∧ k0 = kk := by
        simp only [Prod.mk.injEq] at hT; exact ⟨hT.1.symm, hT.2.1.symm⟩
      subst hX hkk
      have whXC : Good Try.prog 33 [subCat [] 0 k0, noCatK k0] [] (vbool true) [] := good_nil2K (whCat_ok [] k0 (by decide))
      conv => whnf
      refine .mk _ _ false Try.call14 (good_nilK (by have := specOk_ok [] k0 (by decide) (fun x hx => by cases hx); rw [catOk_true p] at this; exact this)) (Nat.le_of_ble_eq_true rfl) (.inl rfl) ?_
      conv => whnf
      refine ⟨(show 0 + 0 ≤ (([] : Is).map encItem).length by rw [List.length_map]; omega), ?_⟩
      conv => whnf
      refine .mk _ _ false Try.call33 whXC (Nat.le_of_ble_eq_true rfl) (.inr ⟨AV.nsB_iff rfl, fun k hk => by cases hk⟩) ?_
      conv => whnf
      refine ⟨trivial, ?_⟩
      conv => whnf
      rfl
    rename_i q
    simp only [bne_eq_false_iff_eq] at q
    obtain ⟨k, F⟩ := (hgood q).facts p
    have hlst := (hgood q).lst
    obtain ⟨X, kk, c⟩ := T
    simp only at F hlst q hkp hT8 whT
    subst hlst q
    have gk : Good Try.prog 24 [subCat X X.length (k0 + 1), vint h, vstr n] [] (.tup [.agg ((encItem ⟨h, n, k0 + 1, t⟩).map .p), vbool true]) [] := by
      rw [hsT]
      have := get_yes X (k0 + 1) h n F.ok (by rw [F.fk]; omega)
      rw [F.fk] at this
      unfold gotR at this
      rw [Int.toNat_natCast, F.ik] at this
      exact this
    have ge : Good Try.prog 21 [subCat X X.length (k0 + 1), vint (k0 + 1)] [] (.tup [.agg ((encItem ⟨h, n, k0 + 1, t⟩).map .p), vbool true]) [] := by
      rw [hsT]
      have := ed_yes X (k0 + 1) (k0 + 1) F.ok (by rw [F.ek]; omega)
      rw [F.ek] at this
      unfold gotR at this
      rw [Int.toNat_natCast, F.ik] at this
      exact this
    have okX : Good Try.prog 16 [subCat X X.length (k0 + 1)] [] (vbool true) [] := by
      rw [hsT]
      have := implOk_ok X (k0 + 1) (by omega) (fun x hx => Nat.le_trans (F.ok.names x hx) (by decide))
      rw [catOk_true F.ok] at this; exact this
    have pa : Good Try.prog 31 [subCat X X.length (k0 + 1), vint h, vstr n, vstr ⟨#[121]⟩] [] (putR (X, k0 + 1, 2)) (putB (X, k0 + 1, 2)) := by
      rw [hsT]
      have := implPut_ok X (k0 + 1) h n ⟨#[121]⟩ (fun x hx => Nat.le_trans (F.ok.names x hx) (by decide)) hn2 F.ok
      rw [F.again] at this; exact this
    have hXl := F.len
    conv => whnf
    refine ⟨(show 0 + X.length ≤ (X.map encItem).length by rw [List.length_map]; omega), ?_⟩
    conv => whnf
    refine .mk _ _ false Try.call24 gk (Nat.le_of_ble_eq_true rfl) (.inr ⟨AV.nsB_iff rfl, fun k hk => by cases hk⟩) ?_
    conv => whnf
    refine ⟨(show 0 + X.length ≤ (X.map encItem).length by rw [List.length_map]; omega), ?_⟩
    conv => whnf
    refine .mk _ _ false Try.call21 ge (Nat.le_of_ble_eq_true rfl) (.inr ⟨AV.nsB_iff rfl, fun k hk => by cases hk⟩) ?_
    conv => whnf
    refine VLoop.step noM ?_
    conv => whnf
    refine ⟨(show 0 + X.length ≤ (X.map encItem).length by rw [List.length_map]; omega), ?_⟩
    conv => whnf
    refine .mk _ _ false Try.call31 pa (Nat.le_of_ble_eq_true rfl) (.inr ⟨AV.nsB_iff rfl, arr_noSl _⟩) ?_
    conv => whnf
    refine ⟨by decide +kernel, by decide +kernel, ?_⟩
    conv => whnf
    split
    case h_2 => rename_i q; simp at q
    conv => whnf
    split
    case h_2 => rename_i q; simp at q
    conv => whnf
    have hw1 : IntKind.i64.wrap (k0 + 1) = k0 + 1 := wi _ (by omega) (by omega)
    rw [hw1]
    split
    case h_2 => rename_i q; simp at q
    conv => whnf
    refine ⟨(show 0 + X.length ≤ (X.map encItem).length by rw [List.length_map]; omega), ?_⟩
    conv => whnf
    refine .mk _ _ false Try.call16 okX (Nat.le_of_ble_eq_true rfl) (.inr ⟨AV.nsB_iff rfl, fun k hk => by cases hk⟩) ?_
    conv => whnf
    refine ⟨trivial, ?_⟩
    conv => whnf
    refine congrArg vbool (beq_iff_eq.2 ?_)
    have hw2 : IntKind.i64.wrap (((0 : Nat) : Int) + 1) = 1 := wi _ (by omega) (by omega)
    refine Eq.trans ?_ hw2.symm
    show (X.length : Int) = 1
    rw [hXl]; rfl
  · refine .mk _ _ false Try.call30 hg (Nat.le_of_ble_eq_true rfl) (.inl rfl) ?_
    conv => whnf
    have hsub : subCat l n0 last = cat l last := sub_cat hn0 last
    have hl9 := sm.len
    have hs : ∀ x ∈ l, x.b.size ≤ 9223372036854775807 := fun x hx => Nat.le_trans (sm.nm x hx) (by decide)
    refine ⟨(show 0 + n0 ≤ (l.map encItem).length by rw [List.length_map]; omega), ?_⟩
    conv => whnf
    cases hp : catOk l last with
    | false =>
      refine .mk _ _ false Try.call31 (by have := implPut_bad l last h n t (by omega) hs hp; rw [← hsub] at this; exact this) (Nat.le_of_ble_eq_true rfl) (.inr ⟨AV.nsB_iff rfl, fun k hk => by cases hk⟩) ?_
      conv => whnf
      refine ⟨(show 0 + n0 ≤ (l.map encItem).length by rw [List.length_map]; omega), ?_⟩
      conv => whnf
      refine .mk _ _ false Try.call32 (by have := specPut_bad l last h n t (by omega) hs hp; rw [← hsub] at this; exact this) (Nat.le_of_ble_eq_true rfl) (.inr ⟨AV.nsB_iff rfl, fun k hk => by cases hk⟩) ?_
      conv => whnf
      refine VDraw.go ⟨_, [0, 0, 3, 7, 15, 15, 63, 127, 255, 511, 1023, 2047, 1023, 8191, 16383, 32767], [6, 11, 13], []⟩ rfl rfl (by decide +kernel) ?_
      conv => whnf
      refine .mk _ _ false Try.call33 whCat_no (Nat.le_of_ble_eq_true rfl) (.inl rfl) ?_
      conv => whnf
      refine ⟨(show 0 + n0 ≤ (l.map encItem).length by rw [List.length_map]; omega), ?_⟩
      conv => whnf
      refine .mk _ _ false Try.call16 (by have := implOk_ok l last (by omega) hs; rw [hp, ← hsub] at this; exact this) (Nat.le_of_ble_eq_true rfl) (.inr ⟨AV.nsB_iff rfl, fun k hk => by cases hk⟩) ?_
      conv => whnf
      refine ⟨(show 0 + n0 ≤ (l.map encItem).length by rw [List.length_map]; omega), ?_⟩
      conv => whnf
      refine .mk _ _ false Try.call14 (by have := specOk_ok l last (by omega) hs; rw [hp, ← hsub] at this; exact this) (Nat.le_of_ble_eq_true rfl) (.inr ⟨AV.nsB_iff rfl, fun k hk => by cases hk⟩) ?_
      conv => whnf
      refine ⟨(show 0 + n0 ≤ (l.map encItem).length by rw [List.length_map]; omega), ?_⟩
      conv => whnf
      refine .mk _ _ false Try.call14 (by have := specOk_ok l last (by omega) hs; rw [hp, ← hsub] at this; exact this) (Nat.le_of_ble_eq_true rfl) (.inr ⟨AV.nsB_iff rfl, fun k hk => by cases hk⟩) ?_
      conv => whnf
      refine ⟨trivial, ?_⟩
      conv => whnf
      rfl
    | true =>
      have p := catOk_of hp
      have hl8 := p.len
      have hlast := inR_iff.1 p.lst
      refine .mk _ _ false Try.call31 (by have := implPut_ok l last h n t hs hn2 p; rw [← hsub] at this; exact this) (Nat.le_of_ble_eq_true rfl) (.inr ⟨AV.nsB_iff rfl, arr_noSl _⟩) ?_
      conv => whnf
      refine ⟨(show 0 + n0 ≤ (l.map encItem).length by rw [List.length_map]; omega), ?_⟩
      conv => whnf
      refine .mk _ _ false Try.call32 (by have := specPut_ok l last h n t hs hn2 p; rw [← hsub] at this; exact this) (Nat.le_of_ble_eq_true rfl) (.inr ⟨AV.nsB_iff rfl, arr_noSl _⟩) ?_
      conv => whnf
      have hbad := @putC_bad l last h n t
      have hgood := @putC_good l last h n t p
      have hkp := @putC_keeps l last h n t p
      generalize putC l last h n t = T at hbad hgood hkp ⊢
      have hT8 := hkp.len
      have whT : Good Try.prog 33 [subCat T.1 T.1.length T.2.1, subCat T.1 T.1.length T.2.1] [] (vbool true) [] := by rw [hsT]; exact whCat_ok T.1 T.2.1 (by omega)
      refine VDraw.go ⟨_, [0, 0, 3, 7, 15, 15, 63, 127, 255, 511, 1023, 2047, 1023, 8191, 16383, 32767], [6, 11, 13], []⟩ rfl rfl (by decide +kernel) ?_
      conv => whnf
      split
      · rename_i q; simp at q
      conv => whnf
      refine ⟨(show 0 + T.1.length ≤ (T.1.map encItem).length by rw [List.length_map]; omega), ?_⟩
      conv => whnf
      refine ⟨(show 0 + T.1.length ≤ (T.1.map encItem).length by rw [List.length_map]; omega), ?_⟩
      conv => whnf
      refine .mk _ _ false Try.call33 whT (Nat.le_of_ble_eq_true rfl) (.inr ⟨AV.nsB_iff rfl, fun k hk => by cases hk⟩) ?_
      conv => whnf
      refine ⟨(show 0 + n0 ≤ (l.map encItem).length by rw [List.length_map]; omega), ?_⟩
      conv => whnf
      refine .mk _ _ false Try.call16 (by have := implOk_ok l last (by omega) hs; rw [hp, ← hsub] at this; exact this) (Nat.le_of_ble_eq_true rfl) (.inr ⟨AV.nsB_iff rfl, fun k hk => by cases hk⟩) ?_
      conv => whnf
      refine ⟨(show 0 + n0 ≤ (l.map encItem).length by rw [List.length_map]; omega), ?_⟩
      conv => whnf
      refine .mk _ _ false Try.call14 (by have := specOk_ok l last (by omega) hs; rw [hp, ← hsub] at this; exact this) (Nat.le_of_ble_eq_true rfl) (.inr ⟨AV.nsB_iff rfl, fun k hk => by cases hk⟩) ?_
      conv => whnf
      split
      · rename_i q
        simp only [bne_iff_ne] at q
        obtain ⟨hT, -, -⟩ := hbad q
        obtain ⟨X, kk, c⟩ := T
        obtain ⟨rfl, rfl, -⟩ : X = l ∧ kk = last ∧ True := by
          simp only [Prod.mk.injEq] at hT; exact ⟨hT.1, hT.2.1, trivial⟩
        have whXC : Good Try.prog 33 [subCat X X.length kk, subCat X n0 kk] [] (vbool true) [] := by rw [hsT, hsub]; exact whCat_ok X kk (by omega)
        conv => whnf
        refine ⟨(show 0 + n0 ≤ (X.map encItem).length by rw [List.length_map]; omega), ?_⟩
        conv => whnf
        refine .mk _ _ false Try.call14 (by have := specOk_ok X kk (by omega) hs; rw [hp, ← hsub] at this; exact this) (Nat.le_of_ble_eq_true rfl) (.inr ⟨AV.nsB_iff rfl, fun k hk => by cases hk⟩) ?_
        conv => whnf
        refine ⟨(show 0 + X.length ≤ (X.map encItem).length by rw [List.length_map]; omega), ?_⟩
        conv => whnf
        refine ⟨(show 0 + n0 ≤ (X.map encItem).length by rw [List.length_map]; omega), ?_⟩
        conv => whnf
        refine .mk _ _ false Try.call33 whXC (Nat.le_of_ble_eq_true rfl) (.inr ⟨AV.nsB_iff rfl, fun k hk => by cases hk⟩) ?_
        conv => whnf
        refine ⟨trivial, ?_⟩
        conv => whnf
        rfl
      rename_i q
      simp only [bne_eq_false_iff_eq] at q
      obtain ⟨k, F⟩ := (hgood q).facts p
      have hlst := (hgood q).lst
      obtain ⟨X, kk, c⟩ := T
      simp only at F hlst q hkp hT8 whT
      subst hlst q
      have gk : Good Try.prog 24 [subCat X X.length (last + 1), vint h, vstr n] [] (.tup [.agg ((encItem ⟨h, n, last + 1, t⟩).map .p), vbool true]) [] := by
        rw [hsT]
        have := get_yes X (last + 1) h n F.ok (by rw [F.fk]; omega)
        rw [F.fk] at this
        unfold gotR at this
        rw [Int.toNat_natCast, F.ik] at this
        exact this
      have ge : Good Try.prog 21 [subCat X X.length (last + 1), vint (last + 1)] [] (.tup [.agg ((encItem ⟨h, n, last + 1, t⟩).map .p), vbool true]) [] := by
        rw [hsT]
        have := ed_yes X (last + 1) (last + 1) F.ok (by rw [F.ek]; omega)
        rw [F.ek] at this
        unfold gotR at this
        rw [Int.toNat_natCast, F.ik] at this
        exact this
      have okX : Good Try.prog 16 [subCat X X.length (last + 1)] [] (vbool true) [] := by
        rw [hsT]
        have := implOk_ok X (last + 1) (by omega) (fun x hx => Nat.le_trans (F.ok.names x hx) (by decide))
        rw [catOk_true F.ok] at this; exact this
      have pa : Good Try.prog 31 [subCat X X.length (last + 1), vint h, vstr n, vstr ⟨#[121]⟩] [] (putR (X, last + 1, 2)) (putB (X, last + 1, 2)) := by
        rw [hsT]
        have := implPut_ok X (last + 1) h n ⟨#[121]⟩ (fun x hx => Nat.le_trans (F.ok.names x hx) (by decide)) hn2 F.ok
        rw [F.again] at this; exact this
      have hXl := F.len
      conv => whnf
      refine ⟨(show 0 + X.length ≤ (X.map encItem).length by rw [List.length_map]; omega), ?_⟩
      conv => whnf
      refine .mk _ _ false Try.call24 gk (Nat.le_of_ble_eq_true rfl) (.inr ⟨AV.nsB_iff rfl, fun k hk => by cases hk⟩) ?_
      conv => whnf
      refine ⟨(show 0 + X.length ≤ (X.map encItem).length by rw [List.length_map]; omega), ?_⟩
      conv => whnf
      refine .mk _ _ false Try.call21 ge (Nat.le_of_ble_eq_true rfl) (.inr ⟨AV.nsB_iff rfl, fun k hk => by cases hk⟩) ?_
      conv => whnf
      refine VLoop.enter [3, 4, 5, 6, 7, 11, 12, 13, 14, 15] ?_
      conv => whnf
      refine VLoop.ind1 (n0 := 6) (α := Int) noM [3, 4, 5, 6, 7, 11, 12, 13, 14, 15] (fun i => ⟨180, 0, [(3, .one (.hp 0 0 0)), (4, vint h), (5, vstr n), (6, vstr t), (7, .one (.hp 1 0 0)), (11, .one (.hp 2 0 0)), (12, vbool true), (13, .one (.hp 3 0 0)), (14, vbool true), (15, vint i)],
          [(0, some (.box [.p (.lit (.int .i64 last)), .hs 4 0 n0])), (1, some (.box [.p (.lit (.int .i64 (last + 1))), .hs 5 0 X.length])), (2, some (.box ((encItem ⟨h, n, last + 1, t⟩).map .p))), (3, some (.box ((encItem ⟨h, n, last + 1, t⟩).map .p))), (4, some (.arr 4 (l.map encItem))), (5, some (.arr 4 (X.map encItem)))]⟩)
        (fun i => ∃ j : Nat, i = j ∧ j ≤ l.length) (fun i => ((l.length : Int) - i).toNat) ?_ 0 ⟨0, rfl, by omega⟩
      rintro _ ⟨i, rfl, hi⟩
      conv => whnf
      split
      · rename_i q1
        have q1' := of_decide_eq_true q1
        have hil : i < l.length := by omega
        have hml : (l.map encItem).length = l.length := by rw [List.length_map]
        have ei : 0 + (i : Int).toNat = i := by omega
        have hw : IntKind.i64.wrap ((i : Int) + 1) = i + 1 := wi _ (by omega) (by omega)
        obtain ⟨j, hj1, hj2⟩ := F.old i hil
        have gi : Good Try.prog 24 [subCat X X.length (last + 1), vint (ia l i).a, vstr (ia l i).b] [] (.tup [.agg ((encItem (ia l i)).map .p), vbool true]) [] := by
          rw [hsT]
          have := get_yes X (last + 1) (ia l i).a (ia l i).b F.ok (by rw [hj1]; omega)
          rw [hj1] at this
          unfold gotR at this
          rw [Int.toNat_natCast, hj2] at this
          exact this
        have hed := inR_iff.1 (p.at_ i hil).ed
        conv => whnf
        refine VDraw.go ⟨46, [0, 0, 2, 0, 14, 30, 62, 0, 128, 0, 896, 1920, 3968, 8191, 16383, 32767, 32767, 0, 196607, 524287], [13, 17, 18], [(18, [182])]⟩ rfl rfl (by decide +kernel) ?_
        conv => whnf
        refine ⟨by omega, by omega, by omega, ?_⟩
        conv => whnf
        refine ⟨_, ia_at l ei hil, ?_⟩
        conv => whnf
        refine ⟨by omega, by omega, by omega, ?_⟩
        conv => whnf
        refine ⟨_, ia_at l ei hil, ?_⟩
        conv => whnf
        refine ⟨(show 0 + X.length ≤ (X.map encItem).length by rw [List.length_map]; omega), ?_⟩
        conv => whnf
        refine .mk _ _ false Try.call24 gi (Nat.le_of_ble_eq_true rfl) (.inr ⟨AV.nsB_iff rfl, fun k hk => by cases hk⟩) ?_
        conv => whnf
        refine VDraw.go ⟨_, [0, 1, 3, 7, 7, 23, 7, 119, 247, 511, 1023, 2047, 4095, 8191, 4095, 32767, 65535, 131071, 4095, 266239, 1048575, 2097151], [], []⟩ rfl rfl (by decide +kernel) ?_
        conv => whnf
        refine ⟨by omega, by omega, by omega, ?_⟩
        conv => whnf
        refine ⟨_, ia_at l ei hil, ?_⟩
        conv => whnf
        refine ⟨by decide +kernel, by decide +kernel, ?_⟩
        conv => whnf
        split
        · rename_i q; simp at q
        conv => whnf
        refine ⟨by omega, by omega, by omega, ?_⟩
        conv => whnf
        refine ⟨_, ia_at l ei hil, ?_⟩
        conv => whnf
        split
        · rename_i q; have := of_decide_eq_true q; omega
        conv => whnf
        exact ⟨_, rfl, rfl, ⟨i + 1, by rw [hw]; simp, by omega⟩, by rw [hw]; omega⟩
      · rename_i q1
        conv => whnf
        refine ⟨(show 0 + X.length ≤ (X.map encItem).length by rw [List.length_map]; omega), ?_⟩
        conv => whnf
        refine .mk _ _ false Try.call31 pa (Nat.le_of_ble_eq_true rfl) (.inr ⟨AV.nsB_iff rfl, arr_noSl _⟩) ?_
        conv => whnf
        refine ⟨by decide +kernel, by decide +kernel, ?_⟩
        conv => whnf
        split
        case h_2 => rename_i q; simp at q
        conv => whnf
        split
        case h_2 => rename_i q; simp at q
        conv => whnf
        have hw1 : IntKind.i64.wrap (last + 1) = last + 1 := wi _ (by omega) (by omega)
        rw [hw1]
        split
        case h_2 => rename_i q; simp at q
        conv => whnf
        refine ⟨(show 0 + X.length ≤ (X.map encItem).length by rw [List.length_map]; omega), ?_⟩
        conv => whnf
        refine .mk _ _ false Try.call16 okX (Nat.le_of_ble_eq_true rfl) (.inr ⟨AV.nsB_iff rfl, fun k hk => by cases hk⟩) ?_
        conv => whnf
        refine ⟨trivial, ?_⟩
        conv => whnf
        refine congrArg vbool (beq_iff_eq.2 ?_)
        have hw2 : IntKind.i64.wrap ((n0 : Int) + 1) = n0 + 1 := wi _ (by omega) (by omega)
        rw [hw2]; omega
theorem fnCatPut_good (bs : List Int) (ok : bs.length ≤ 9223372036854775807 ∧ ∀ x ∈ bs, (Lit.int .u8 x).wf = true) :
    ∃ r out, r = vbool true ∧ Good Try.prog 9 [.one (.p (.sl (bs.map encU)))] [] r out :=
  catPut_law bs (fun x hx => u8_rng (ok.2 x hx)) ok.1
end Go.Abs.C
