import Derived.Test.YtlfnjkcgefcidaaGPool9
import Derived.Test.YtlfnjkcgefcidaaGPoolM
import Derived.Test.YtlfnjkcgefcidaaGPick
import Derived.Test.YtlfnjkcgefcidaaGServerNew
set_option linter.unusedSimpArgs false
set_option linter.unusedVariables false
namespace Go.Abs.B
open Go Go.Abs Go.Proofs
attribute [local irreducible] IntKind.wrap
theorem let_keeps {l : Fs} {h : Int} {f : Int} (p : PoolOkP l h) : PoolOkP (letP l f).1 h := by
  unfold letP
  split
  · rename_i g
    simp only [Bool.and_eq_true] at g
    have hf := inR_iff.1 g.1
    have hk : f.toNat < 8 := by omega
    have hd0 : (at' l f.toNat).d ≠ 0 := by have := g.2; simp only [Bool.not_eq_true'] at this; exact ne_of_beq_false this
    generalize f.toNat = k at hk hd0 ⊢
    have hd := p.room.held k hk
    have hlen := p.len
    have hfr := (p.good k hk).fr
    have hb0 : ((at' l k).b == 0) = false := by
      cases hb : (at' l k).b == 0 with
      | false => rfl
      | true =>
        rw [frOk_zero hb] at hfr
        unfold zeroB at hfr
        simp only [Bool.and_eq_true, beq_iff_eq] at hfr
        exact absurd hfr.2.2.2.1 hd0
    refine p.put hk ?_ (fun j hj hne hb hq => ?_) ?_ ?_
    · rw [frOk_full hb0] at hfr
      rw [frOk_full (x := eased (at' l k)) hb0]
      simp only [Bool.and_eq_true] at hfr ⊢
      refine ⟨hfr.1, inR_iff.2 ?_⟩
      show 0 ≤ (at' l k).d - 1 ∧ (at' l k).d - 1 ≤ 99999
      omega
    · rcases Nat.lt_or_gt_of_ne hne with q | q
      · exact (p.good k hk).new j q hb hq
      · exact (p.good j hj).new k q (by rw [← hq.1]; exact hb) ⟨hq.1.symm, hq.2.symm⟩
    · have q := cnt_set (ho := 0) (x := eased (at' l k)) (l := l) (i := k) (by omega)
      have c := p.c0
      rw [show ofH 0 (eased (at' l k)) = ofH 0 (at' l k) from rfl] at q
      omega
    · have q := cnt_set (ho := 1) (x := eased (at' l k)) (l := l) (i := k) (by omega)
      have c := p.c1
      rw [show ofH 1 (eased (at' l k)) = ofH 1 (at' l k) from rfl] at q
      omega
  · exact p
theorem okNew : PoolOkP (List.replicate 8 zFrame) 0 := by
  refine ⟨rfl, by decide, fun i hi => ⟨?_, fun k hk hb => ?_⟩, by decide, by decide⟩
  · have : at' (List.replicate 8 zFrame) i = zFrame := by unfold at'; rw [List.getD_eq_getElem?_getD, List.getElem?_replicate]; split <;> rfl
    rw [this]; decide
  · have : at' (List.replicate 8 zFrame) i = zFrame := by unfold at'; rw [List.getD_eq_getElem?_getD, List.getElem?_replicate]; split <;> rfl
    rw [this] at hb
    exact absurd hb (by decide)
structure Bytes (bs : List Int) : Prop where
  rng : ∀ x ∈ bs, 0 ≤ x ∧ x ≤ 255
  len : bs.length ≤ 2000
set_option maxHeartbeats 8000000 in
set_option maxRecDepth 100000 in
theorem l1Open_ok (bs : List Int) (hb : ∀ x ∈ bs, 0 ≤ x ∧ x ≤ 255) (hl : bs.length ≤ 9223372036854775807) :
    ∃ r out, (∃ bs', Bytes bs' ∧ r = .one (.hp 0 0 0) ∧ out = [rdB bs' 0]) ∧ Good Try.prog 50 [.one (.p (.sl (bs.map encU)))] [] r out := by
  refine good_v noM Try.func50 rfl rfl ?_
  conv => whnf
  split
  · rename_i h
    have h' := of_decide_eq_true h
    rw [List.length_map] at h'
    conv => whnf
    refine ⟨⟨by decide, by decide, by rw [List.length_map]; omega, by decide +kernel, fun x hx => by obtain ⟨y, _, rfl⟩ := List.mem_map.1 hx; rw [show Try.prog.cellsOf 5 = 1 by decide +kernel]; rfl⟩, ?_⟩
    conv => whnf
    refine ⟨trivial, ?_⟩
    conv => whnf
    refine ⟨bs.take 2000, ⟨fun x hx => hb x (List.mem_of_mem_take hx), by rw [List.length_take]; omega⟩, rfl, ?_⟩
    show [Blk.box [.p (.sl (List.take 2000 (List.drop 0 (bs.map encU)))), .p (.lit (.int .i64 0))]] = _
    rw [List.drop_zero, ← List.map_take]
  · rename_i h
    have h' := of_decide_eq_false h
    rw [List.length_map] at h'
    conv => whnf
    refine ⟨trivial, ?_⟩
    conv => whnf
    exact ⟨bs, ⟨hb, by omega⟩, rfl, rfl⟩
theorem l10New' : Good Try.prog 61 [] [] (own8 0) [.arr 5 ((List.replicate 8 zFrame).map encFrame)] := l10New_ok
theorem arr_noSl (l : Fs) : ∀ k ∈ [Blk.arr 5 (l.map encFrame)], k.noSl := by
  intro k hk
  cases List.mem_singleton.1 hk
  intro el hel x hx
  obtain ⟨y, _, rfl⟩ := List.mem_map.1 hel
  unfold encFrame at hx
  simp only [List.mem_cons, List.not_mem_nil, or_false] at hx
  rcases hx with rfl | rfl | rfl | rfl | rfl <;> trivial
@[reducible] def subPool (l : Fs) (n : Nat) (h : Int) : AV := .agg [.p (.sl (List.take n (List.drop 0 (l.map encFrame)))), .p (.lit (.int .i64 h))]
theorem l10Take' {l : Fs} {n : Nat} (hn : n = l.length) (h : Nat) (ho e b : Int) (hl : Room l) (hh : h < 8) : Good Try.prog 60 [subPool l n h, vint ho, vint e, vint b] [] (tookR (takeS l h ho e b)) (tookB (takeS l h ho e b)) := by
  unfold subPool; rw [sub_all hn]; exact l10Take_ok l h ho e b hl hh
theorem specLet' {l : Fs} {n : Nat} (hn : n = l.length) (h : Nat) (f : Int) (hp : PoolOkP l h) : Good Try.prog 24 [subPool l n h, vint f] [] (.tup [own8 h, vbool (letP l f).2]) [.arr 5 ((letP l f).1.map encFrame)] := by
  unfold subPool; rw [sub_all hn]; exact specLet_ok l h f hp
set_option maxHeartbeats 16000000 in
set_option maxRecDepth 100000 in
theorem l15Pool_ok (bs : List Int) (p0 : Int) (hb : Bytes bs) (h0 : 0 ≤ p0) (h1 : p0 < 1000) :
    ∃ r out, (∃ (l : Fs) (h : Nat) (q : Int), PoolOkP l h ∧ 0 ≤ q ∧ q ≤ p0 + 101 ∧ r = .agg [.hs 1 0 8, .p (.lit (.int .i64 h))] ∧ out = [rdB bs q, .arr 5 (l.map encFrame)]) ∧ Good Try.prog 75 [.one (.hp 0 0 0)] [rdB bs p0] r out := by
  refine good_v noM Try.func75 rfl rfl ?_
  conv => whnf
  refine .mk _ _ false Try.call61 l10New' (Nat.le_of_ble_eq_true rfl) (.inl rfl) ?_
  conv => whnf
  obtain ⟨_, _, ⟨v, hv0, hv1, rfl, rfl⟩, hg⟩ := pick_ok bs p0 20 hb.rng hb.len h0 (by omega) (by omega) (by omega)
  refine .mk _ _ false Try.call52 hg (Nat.le_of_ble_eq_true rfl) (.inl rfl) ?_
  conv => whnf
  refine VLoop.enter [0, 2, 3, 4] ?_
  conv => whnf
  refine VLoop.ind4 (n0 := 4) (α := Int) (β := Int) (γ := Int) (δ := List (List PV)) noM [0, 2, 3, 4] (fun a q k E => ⟨50, 1, [(0, .one (.hp 0 0 0)), (2, .one (.hp 1 0 0)), (3, .one (.hp 2 0 0)), (4, vint a)],
      [(0, some (rdB bs q)), (1, some (.box [.p (.lit (.slice none 0 0)), .p (.lit (.int .i64 0))])), (2, some (.box [.hs 3 0 8, .p (.lit (.int .i64 k))])), (3, some (.arr 5 E))]⟩)
    (fun a q k E => ∃ (l : Fs) (h : Nat), 0 ≤ a ∧ a < 20 ∧ 0 ≤ q ∧ q + 5 * a ≤ p0 + 101 ∧ k = h ∧ E = l.map encFrame ∧ PoolOkP l h) (fun a _ _ _ => a.toNat) ?_ v (p0 + 1) 0 _ ⟨List.replicate 8 zFrame, 0, hv0, hv1, by omega, by omega, rfl, rfl, okNew⟩
  rintro a q _ _ ⟨l, h, ha0, ha1, hq0, hq1, rfl, rfl, hp⟩
  have hlen := hp.len
  conv => whnf
  split
  · rename_i k1
    have k1' := of_decide_eq_true k1
    have w : ∀ x : Int, 0 ≤ x → x < 200000 → IntKind.i64.wrap x = x := fun x h1 h2 => wrap_in _ (by omega) (by omega)
    have hm : (IntKind.i64.wrap (a - 1)).toNat < a.toNat := by rw [w _ (by omega) (by omega)]; omega
    have fin : ∀ (q' k' : Int) (E' : List (List PV)) (l' : Fs) (h' : Nat), 0 ≤ q' → q' ≤ q + 5 → k' = h' → E' = l'.map encFrame → PoolOkP l' h' →
        ∃ (l : Fs) (h : Nat), 0 ≤ IntKind.i64.wrap (a - 1) ∧ IntKind.i64.wrap (a - 1) < 20 ∧ 0 ≤ q' ∧ q' + 5 * IntKind.i64.wrap (a - 1) ≤ p0 + 101 ∧ k' = h ∧ E' = l.map encFrame ∧ PoolOkP l h :=
      fun q' k' E' l' h' g1 g2 g3 g4 g5 => ⟨l', h', by rw [w _ (by omega) (by omega)]; omega, by rw [w _ (by omega) (by omega)]; omega, g1, by rw [w _ (by omega) (by omega)]; omega, g3, g4, g5⟩
    conv => whnf
    obtain ⟨_, _, ⟨v1, hv10, hv11, rfl, rfl⟩, hg1⟩ := pick_ok bs q 2 hb.rng hb.len hq0 (by omega) (by omega) (by omega)
    refine .mk _ _ false Try.call52 hg1 (Nat.le_of_ble_eq_true rfl) (.inl rfl) ?_
    conv => whnf
    refine VDraw.go ⟨44, [0, 0, 0, 4, 12, 28, 0, 124, 0, 268, 1023, 2047, 4095, 4095, 4095, 0, 40959, 114687, 262143], [3, 9, 10, 15, 16], [(3, [0]), (9, [0]), (16, [164])]⟩ rfl rfl (by decide +kernel) ?_
    conv => whnf
    obtain ⟨_, _, ⟨v2, hv20, hv21, rfl, rfl⟩, hg2⟩ := pick_ok bs (q + 1) 2 hb.rng hb.len (by omega) (by omega) (by omega) (by omega)
    refine .mk _ _ false Try.call52 hg2 (Nat.le_of_ble_eq_true rfl) (.inl rfl) ?_
    conv => whnf
    obtain ⟨_, _, ⟨v3, hv30, hv31, rfl, rfl⟩, hg3⟩ := pick_ok bs (q + 1 + 1) 6 hb.rng hb.len (by omega) (by omega) (by omega) (by omega)
    refine .mk _ _ false Try.call52 hg3 (Nat.le_of_ble_eq_true rfl) (.inl rfl) ?_
    conv => whnf
    refine ⟨by rw [List.length_map]; omega, ?_⟩
    conv => whnf
    refine .mk _ _ false Try.call60 (l10Take' hlen.symm h v1 _ v3 hp.room hp.hand8) (Nat.le_of_ble_eq_true rfl) (.inr ⟨AV.nsB_iff rfl, arr_noSl _⟩) ?_
    conv => whnf
    have hk := take_keeps (ho := v1) (e := IntKind.i64.wrap (IntKind.i64.wrap (1 + IntKind.i64.wrap (2 * v2)) + v1)) (b := v3) hp (inR_iff.2 (by omega)) (inR_iff.2 (by rw [w (2 * v2) (by omega) (by omega), w (1 + 2 * v2) (by omega) (by omega), w _ (by omega) (by omega)]; omega)) (inR_iff.2 (by omega))
    generalize takeS l h v1 (IntKind.i64.wrap (IntKind.i64.wrap (1 + IntKind.i64.wrap (2 * v2)) + v1)) v3 = T at hk ⊢
    obtain ⟨L, h', at_, code⟩ := T
    simp only at hk
    have hL : L.length = 8 := hk.len
    split
    · rename_i k2
      conv => whnf
      obtain ⟨_, _, ⟨v4, hv40, hv41, rfl, rfl⟩, hg4⟩ := pick_ok bs (q + 1 + 1 + 1) 5 hb.rng hb.len (by omega) (by omega) (by omega) (by omega)
      refine .mk _ _ false Try.call52 hg4 (Nat.le_of_ble_eq_true rfl) (.inl rfl) ?_
      conv => whnf
      split
      · rename_i k4
        conv => whnf
        refine ⟨(show 0 + 8 ≤ (L.map encFrame).length by rw [List.length_map]; omega), ?_⟩
        conv => whnf
        refine .mk _ _ false Try.call24 (specLet' hL.symm h' at_ hk) (Nat.le_of_ble_eq_true rfl) (.inr ⟨AV.nsB_iff rfl, arr_noSl _⟩) ?_
        conv => whnf
        exact ⟨_, _, _, _, rfl, rfl, fin _ _ _ (letP L at_).1 h' (by omega) (by omega) rfl rfl (let_keeps hk), hm⟩
      · rename_i k4
        conv => whnf
        exact ⟨_, _, _, _, rfl, rfl, fin _ _ _ L h' (by omega) (by omega) rfl rfl hk, hm⟩
    · rename_i k2
      conv => whnf
      split
      · rename_i k3
        conv => whnf
        obtain ⟨_, _, ⟨v4, hv40, hv41, rfl, rfl⟩, hg4⟩ := pick_ok bs (q + 1 + 1 + 1) 5 hb.rng hb.len (by omega) (by omega) (by omega) (by omega)
        refine .mk _ _ false Try.call52 hg4 (Nat.le_of_ble_eq_true rfl) (.inl rfl) ?_
        conv => whnf
        split
        · rename_i k4
          conv => whnf
          refine ⟨(show 0 + 8 ≤ (L.map encFrame).length by rw [List.length_map]; omega), ?_⟩
          conv => whnf
          refine .mk _ _ false Try.call24 (specLet' hL.symm h' at_ hk) (Nat.le_of_ble_eq_true rfl) (.inr ⟨AV.nsB_iff rfl, arr_noSl _⟩) ?_
          conv => whnf
          exact ⟨_, _, _, _, rfl, rfl, fin _ _ _ (letP L at_).1 h' (by omega) (by omega) rfl rfl (let_keeps hk), hm⟩
        · rename_i k4
          conv => whnf
          exact ⟨_, _, _, _, rfl, rfl, fin _ _ _ L h' (by omega) (by omega) rfl rfl hk, hm⟩
      · rename_i k3
        conv => whnf
        exact ⟨_, _, _, _, rfl, rfl, fin _ _ _ l h (by omega) (by omega) rfl rfl hp, hm⟩
  · rename_i k1
    conv => whnf
    refine ⟨⟨⟨by decide +kernel, Nat.le_of_ble_eq_true rfl⟩, trivial⟩, ?_⟩
    conv => whnf
    exact ⟨l, h, q, hp, hq0, by omega, rfl, rfl⟩
end Go.Abs.B
